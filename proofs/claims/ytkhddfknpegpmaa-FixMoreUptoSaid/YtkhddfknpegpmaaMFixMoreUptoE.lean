/- Engine, data and contracts: parts of the proof of FixMoreUpto, put together (Law14a). -/
import Derived.Test.YtkhddfknpegpmaaMFixMoreUptoD
/- Contracts of functions of the program (Law14a): what each call comes to, for the laws' proofs. -/
set_option linter.unusedVariables false
set_option linter.unusedSimpArgs false
namespace Go.Proofs.Ytkhddfknpegpmaa.SL
open Go 

def wc14 : Cl := ⟨⟨1, [⟨true, 0⟩, ⟨true, 2⟩]⟩, [⟨false, ⟨1, [⟨true, 0⟩, ⟨true, 1⟩]⟩⟩, ⟨false, ⟨1, [⟨true, 1⟩, ⟨true, 2⟩]⟩⟩]⟩
def wn14 : List Fa := [(⟨1, [10, 11]⟩ : Fa), (⟨1, [11, 12]⟩ : Fa), (⟨1, [12, 13]⟩ : Fa)]
theorem wc14_ok : wc14.ok := ⟨ok_am _ _ (by decide), fun l hl => by
  simp only [wc14, List.mem_cons, List.not_mem_nil, or_false] at hl
  rcases hl with rfl | rfl <;> exact ok_am _ _ (by decide)⟩
theorem wc14_r : (rightC [wc14]).2 = 0 := by
  have h1 : mayC wc14 = true := by decide
  have h2 : heldC wc14 = true := by decide
  have h3 : (clauseL (fun _ => none) wc14).1 = true := by simp [clauseL, wc14, stepL, fitB, learn]
  unfold rightC
  rw [if_neg (by simp)]
  unfold rightF
  rw [if_pos (by unfold badC; rw [h1, h2, h3]; rfl)]
  rfl
theorem wl14_f : fixR [wc14] = true := decide_eq_true ⟨wc14_r, fun c hc x hx e => by
  rw [List.mem_singleton] at hc; subst hc
  simp only [wc14, List.mem_cons, List.not_mem_nil, or_false] at hx
  rcases hx with rfl | rfl <;> cases e⟩
theorem wc14_hd {F R N : Fa → Prop} {x : Fa} : Hd wc14 F R N false x ↔ ∃ a b c : Int, F ⟨1, [a, b]⟩ ∧ F ⟨1, [b, c]⟩ ∧ x = ⟨1, [a, c]⟩ := by
  unfold Hd
  constructor
  · rintro ⟨s, h1, _, _, h4⟩
    exact ⟨s 0, s 1, s 2, h1 _ (.head _) rfl, h1 _ (.tail _ (.head _)) rfl, h4⟩
  · rintro ⟨a, b, c, h1, h2, h3⟩
    refine ⟨fun k => if k = 0 then a else if k = 1 then b else c, fun l hl e => ?_, fun l hl e => ?_, fun e => (nomatch e), h3⟩
    · simp only [wc14, List.mem_cons, List.not_mem_nil, or_false] at hl
      rcases hl with rfl | rfl
      · exact h1
      · exact h2
    · simp only [wc14, List.mem_cons, List.not_mem_nil, or_false] at hl
      rcases hl with rfl | rfl <;> cases e
theorem mem_wall {N S : List Fa} {x : Fa} : x ∈ allH [wc14] N S ↔ ∃ a b c : Int, (⟨1, [a, b]⟩ : Fa) ∈ S ∧ (⟨1, [b, c]⟩ : Fa) ∈ S ∧ x = ⟨1, [a, c]⟩ := by
  rw [mem_allH]
  simp only [List.mem_singleton, exists_eq_left]
  rw [mem_headsC wc14_ok wc14_r, wc14_hd]
theorem wS_next {S T : List Fa} (hS : ∀ x ∈ S, x ∈ T) (h : ∀ a b c : Int, (⟨1, [a, b]⟩ : Fa) ∈ S → (⟨1, [b, c]⟩ : Fa) ∈ S → (⟨1, [a, c]⟩ : Fa) ∈ T) (g : ∀ x ∈ T, x ∈ S ∨ ∃ a b c : Int, (⟨1, [a, b]⟩ : Fa) ∈ S ∧ (⟨1, [b, c]⟩ : Fa) ∈ S ∧ x = ⟨1, [a, c]⟩) (N : List Fa) : nextS [wc14] N (fof S) = fof T := by
  refine rises_ext (rises_nextS (rises_fof _)) (rises_fof _) fun x => ?_
  rw [mem_nextS, mem_wall, mem_fof, mem_fof]
  simp only [mem_fof]
  constructor
  · rintro (q | ⟨a, b, c, h1, h2, rfl⟩)
    · exact hS x q
    · exact h a b c h1 h2
  · exact g x
theorem wS1 : Sq [wc14] (fof wn14) 1 = fof [(⟨1, [10, 11]⟩ : Fa), (⟨1, [11, 12]⟩ : Fa), (⟨1, [12, 13]⟩ : Fa), (⟨1, [10, 12]⟩ : Fa), (⟨1, [11, 13]⟩ : Fa)] := by
  refine wS_next (S := wn14) ?_ ?_ ?_ _
  · intro x hx; simp only [wn14, List.mem_cons, List.not_mem_nil, or_false] at hx ⊢; rcases hx with rfl | rfl | rfl <;> simp
  · intro a b c h1 h2
    simp only [wn14, List.mem_cons, List.not_mem_nil, or_false, Fa.mk.injEq, List.cons.injEq, and_true, true_and] at h1 h2 ⊢
    omega
  · intro x hx
    simp only [wn14, List.mem_cons, List.not_mem_nil, or_false] at hx ⊢
    rcases hx with rfl | rfl | rfl | rfl | rfl
    · exact .inl (by simp)
    · exact .inl (by simp)
    · exact .inl (by simp)
    · exact .inr ⟨10, 11, 12, by simp, by simp, rfl⟩
    · exact .inr ⟨11, 12, 13, by simp, by simp, rfl⟩
theorem wS2 : Sq [wc14] (fof wn14) 2 = fof [(⟨1, [10, 11]⟩ : Fa), (⟨1, [11, 12]⟩ : Fa), (⟨1, [12, 13]⟩ : Fa), (⟨1, [10, 12]⟩ : Fa), (⟨1, [11, 13]⟩ : Fa), (⟨1, [10, 13]⟩ : Fa)] := by
  show nextS _ _ (Sq [wc14] (fof wn14) 1) = _
  rw [wS1]
  refine wS_next ?_ ?_ ?_ _
  · intro x hx; simp only [List.mem_cons, List.not_mem_nil, or_false] at hx ⊢; rcases hx with rfl | rfl | rfl | rfl | rfl <;> simp
  · intro a b c h1 h2
    simp only [List.mem_cons, List.not_mem_nil, or_false, Fa.mk.injEq, List.cons.injEq, and_true, true_and] at h1 h2 ⊢
    omega
  · intro x hx
    simp only [List.mem_cons, List.not_mem_nil, or_false] at hx ⊢
    rcases hx with rfl | rfl | rfl | rfl | rfl | rfl
    · exact .inl (by simp)
    · exact .inl (by simp)
    · exact .inl (by simp)
    · exact .inl (by simp)
    · exact .inl (by simp)
    · exact .inr ⟨10, 11, 13, by simp, by simp, rfl⟩
theorem wS3 : nx [wc14] (fof wn14) (Sq [wc14] (fof wn14) 2) = [] := by
  rw [nx_nil, wS2]
  intro x hx
  obtain ⟨a, b, c, h1, h2, rfl⟩ := mem_wall.1 hx
  rw [mem_fof] at h1 h2 ⊢
  simp only [List.mem_cons, List.not_mem_nil, or_false, Fa.mk.injEq, List.cons.injEq, and_true, true_and] at h1 h2 ⊢
  omega
theorem wl2 : (Sq [wc14] (fof wn14) 2).length = 6 := by rw [wS2]; decide
theorem wl1 : (Sq [wc14] (fof wn14) 1).length = 5 := by rw [wS1]; decide
theorem wl0 : (Sq [wc14] (fof wn14) 0).length = 3 := by show (fof wn14).length = 3; decide
theorem w_k {k : Nat} (h : ∀ j < k, ¬ nx [wc14] (fof wn14) (Sq [wc14] (fof wn14) j) = []) (g : nx [wc14] (fof wn14) (Sq [wc14] (fof wn14) k) = []) : k = 2 := by
  have h1 : ¬ 2 < k := fun q => h 2 q wS3
  have e := Sq_one g wS3
  have e2 := congrArg List.length e
  rw [wl2] at e2
  have : k = 0 ∨ k = 1 ∨ k = 2 := by omega
  rcases this with rfl | rfl | rfl
  · rw [wl0] at e2; omega
  · rw [wl1] at e2; omega
  · rfl
theorem w_six {r : Option (List Fa)} {n : Nat} {e : Int} (h : LeastR [wc14] (fof wn14) 6 r n e) : ∃ S, r = some S ∧ S.length = 6 ∧ n = 3 ∧ e = 0 := by
  cases h with
  | arg h1 => exact absurd h1 (by rw [wl14_f]; simp)
  | many k h1 h2 h3 => have := Sq_top wS3 k; rw [wl2] at this; omega
  | ok k h1 h2 h3 h4 h5 => obtain rfl := w_k h4 h5; exact ⟨_, rfl, wl2, rfl, rfl⟩
theorem w_five {r : Option (List Fa)} {n : Nat} {e : Int} (h : LeastR [wc14] (fof wn14) 5 r n e) : r = none ∧ n = 0 ∧ e = 6 := by
  cases h with
  | arg h1 => exact absurd h1 (by rw [wl14_f]; simp)
  | many k h1 h2 h3 => exact ⟨rfl, rfl, rfl⟩
  | ok k h1 h2 h3 h4 h5 => obtain rfl := w_k h4 h5; rw [wl2] at h3; omega
theorem wn14_ok : ∀ x ∈ wn14, x.ok ∧ x.a.length ≤ 100000 := by
  intro x hx
  simp only [wn14, List.mem_cons, List.not_mem_nil, or_false] at hx
  rcases hx with rfl | rfl | rfl <;> exact ⟨ok_fa _ _ (by decide), by simp⟩
theorem w_big {most : Int} (hm : most ≤ 6) : ∀ c ∈ [wc14], ∀ (F R : List Fa) (new : Bool), (F.length : Int) ≤ most → (goL c F R (fof wn14) c.b ch0 new).length ≤ 50000000 := fun c hc F R new hF => by
  rw [List.mem_singleton] at hc; subst hc
  refine Nat.le_trans (goL_len _ _ _ _ _ _ _) ?_
  show F.length ^ 2 ≤ _
  have : F.length ≤ 6 := by omega
  exact Nat.le_trans (Nat.pow_le_pow_left this 2) (by decide)
abbrev few14P (l : List Cl) (a : List Fa) : Prop := l.length ≤ 20 ∧ a.length ≤ 30 ∧ few11 l a = true ∧ ∀ c ∈ l, smallC c 60 = true
def few14 (l : List Cl) (a : List Fa) : Bool := decide (few14P l a)
theorem few14_no {l : List Cl} {a : List Fa} (h : ¬ few14P l a) : few14 l a = false := decide_eq_false h
theorem few14_yes {l : List Cl} {a : List Fa} (h : few14P l a) : few14 l a = true := decide_eq_true h
theorem few14_of {l : List Cl} {a : List Fa} (h : few14 l a = true) : few14P l a := of_decide_eq_true h
theorem small60 {c : Cl} (h : smallC c 60 = true) {F R N : List Fa} {new : Bool} {n : Nat} (hF : F.length ≤ n) (hn : 1 ≤ n) : (goL c F R N c.b ch0 new).length ≤ n ^ 3 := by
  refine Nat.le_trans (goL_len _ _ _ _ _ _ _) ?_
  unfold smallC at h
  rw [decide_eq_true_eq] at h
  have hp : pos c.b ≤ 3 := by omega
  show F.length ^ pos c.b ≤ _
  exact Nat.le_trans (Nat.pow_le_pow_left hF _) (Nat.pow_le_pow_right hn hp)
theorem big14 {l : List Cl} {a : List Fa} (h : few14P l a) {most : Int} (hm : most ≤ 80) (N : List Fa) : ∀ c ∈ l, ∀ (F R : List Fa) (new : Bool), (F.length : Int) ≤ most → (goL c F R N c.b ch0 new).length ≤ 50000000 := fun c hc F R new hF =>
  Nat.le_trans (small60 (h.2.2.2 c hc) (n := 80) (by omega) (by omega)) (by decide)
theorem all14 {l : List Cl} {a : List Fa} (h : few14P l a) (ga : ∀ x ∈ a, x.ok) : ∀ x ∈ fof a, x.ok ∧ x.a.length ≤ 100000 := fun x hx => by
  have hx := mem_fof.1 hx
  exact ⟨ga x hx, Nat.le_trans ((few11_of h.2.2.1).2.2 x hx) (by omega)⟩

set_option maxHeartbeats 2000000 in
set_option maxRecDepth 20000 in
theorem law14Few (l : List Cl) (LA : Option Addr) (lc : Nat) (a : List Fa) (A : Option Addr) (k : Nat) :
    Spec Try.prog 18 #[.slice LA l.length lc, .slice A a.length k] [sl tCl LA lc l, sl tFa A k a] [] (fun v Ps' Os' => v = .bool (few14 l a) ∧ Ps' = [] ∧ Os' = []) := by
 refine spec_of (fn := Try.f18) (args := [.slice LA l.length lc, .slice A a.length k]) 32 Try.func18 rfl (by kernel_rfl) Try.ntmps18 (Nat.le_of_ble_eq_true rfl) (fun w0 hp0 hf0 => ?_)
 refine go_seq ?_
 refine go_region rfl ?_
 refine go_pure0 Tk rfl rfl rfl ?_
 refine go_nil ?_
 refine go_env [(0, _), (1, _)] ⟨rfl, rfl, trivial⟩ ?_
 iterate 2 refine go_seq ?_
 refine go_len (xs := l) (by repeat constructor) (fun l0 m0 => ?_)
 refine go_len (xs := a) (by repeat constructor) (fun l1 m1 => ?_)
 iterate 5 first | refine go_region rfl ?_ | refine go_pure0 Tk rfl rfl rfl ?_
 refine go_known 9 rfl ?_ ?_
 ·intro g1
  (try simp only [decide_eq_true_eq, decide_eq_false_iff_not, Bool.not_eq_true', Bool.not_eq_false', Bool.not_eq_eq_eq_not, Bool.not_true, Bool.not_false, Int.not_lt, Int.not_le, beq_iff_eq, beq_eq_false_iff_ne, ne_eq] at g1)
  iterate 10 first | refine go_skip0 rfl rfl ?_ | refine go_pure0 Tk rfl rfl rfl ?_
  refine go_nil ?_
  refine go_env [(0, _), (19, _)] ⟨rfl, rfl, trivial⟩ ?_
  refine go_cond_t rfl ?_
  refine go_seq ?_
  refine go_region rfl ?_
  refine go_pure0 Tk rfl rfl rfl ?_
  refine go_nil ?_
  refine go_env [(4, _)] ⟨rfl, trivial⟩ ?_
  refine go_ret ⟨rfl, rfl⟩ _ _ (res1 (by rfl) (.tmp rfl)) ⟨by first | rw [few14_no (l := l) (a := a) (fun h => by have h1 := h.1; have h2 := h.2.1; have h3 := h.2.2.1; first | omega | exact absurd (g3.symm.trans h3) (by decide) | exact absurd (g4.symm.trans (h.2.2.2 l[j] (List.getElem_mem _))) (by decide))] | rw [few14_yes (l := l) (a := a) ⟨by omega, by omega, g3, by rw [List.take_of_length_le (by omega)] at hz; exact hz⟩], rfl, rfl⟩ (by repeat constructor) (by repeat constructor)
 ·intro g1
  (try simp only [decide_eq_true_eq, decide_eq_false_iff_not, Bool.not_eq_true', Bool.not_eq_false', Bool.not_eq_eq_eq_not, Bool.not_true, Bool.not_false, Int.not_lt, Int.not_le, beq_iff_eq, beq_eq_false_iff_ne, ne_eq] at g1)
  iterate 5 refine go_pure0 Tk rfl rfl rfl ?_
  refine go_known 14 rfl ?_ ?_
  ·intro g2
   (try simp only [decide_eq_true_eq, decide_eq_false_iff_not, Bool.not_eq_true', Bool.not_eq_false', Bool.not_eq_eq_eq_not, Bool.not_true, Bool.not_false, Int.not_lt, Int.not_le, beq_iff_eq, beq_eq_false_iff_ne, ne_eq] at g2)
   iterate 5 first | refine go_skip0 rfl rfl ?_ | refine go_pure0 Tk rfl rfl rfl ?_
   refine go_nil ?_
   refine go_env [(0, _), (19, _)] ⟨rfl, rfl, trivial⟩ ?_
   refine go_cond_t rfl ?_
   refine go_seq ?_
   refine go_region rfl ?_
   refine go_pure0 Tk rfl rfl rfl ?_
   refine go_nil ?_
   refine go_env [(4, _)] ⟨rfl, trivial⟩ ?_
   refine go_ret ⟨rfl, rfl⟩ _ _ (res1 (by rfl) (.tmp rfl)) ⟨by first | rw [few14_no (l := l) (a := a) (fun h => by have h1 := h.1; have h2 := h.2.1; have h3 := h.2.2.1; first | omega | exact absurd (g3.symm.trans h3) (by decide) | exact absurd (g4.symm.trans (h.2.2.2 l[j] (List.getElem_mem _))) (by decide))] | rw [few14_yes (l := l) (a := a) ⟨by omega, by omega, g3, by rw [List.take_of_length_le (by omega)] at hz; exact hz⟩], rfl, rfl⟩ (by repeat constructor) (by repeat constructor)
  ·intro g2
   (try simp only [decide_eq_true_eq, decide_eq_false_iff_not, Bool.not_eq_true', Bool.not_eq_false', Bool.not_eq_eq_eq_not, Bool.not_true, Bool.not_false, Int.not_lt, Int.not_le, beq_iff_eq, beq_eq_false_iff_ne, ne_eq] at g2)
   iterate 2 refine go_pure0 Tk rfl rfl rfl ?_
   refine go_call (law11Few LA lc l A k a) rfl rfl (by rfl) rfl (by repeat constructor) (by repeat constructor) (fun h => nomatch h) ?_
   rintro _ _ _ ⟨rfl, rfl, rfl⟩
   iterate 2 refine go_pure0 Tk rfl rfl rfl ?_
   refine go_nil ?_
   refine go_env [(0, _), (19, _)] ⟨rfl, rfl, trivial⟩ ?_
   refine go_cond rfl ?_ ?_
   ·intro g3
    (try simp only [decide_eq_true_eq, decide_eq_false_iff_not, Bool.not_eq_true', Bool.not_eq_false', Bool.not_eq_eq_eq_not, Bool.not_true, Bool.not_false, Int.not_lt, Int.not_le, beq_iff_eq, beq_eq_false_iff_ne, ne_eq] at g3)
    refine go_seq ?_
    refine go_region rfl ?_
    refine go_pure0 Tk rfl rfl rfl ?_
    refine go_nil ?_
    refine go_env [(4, _)] ⟨rfl, trivial⟩ ?_
    refine go_ret ⟨rfl, rfl⟩ _ _ (res1 (by rfl) (.tmp rfl)) ⟨by first | rw [few14_no (l := l) (a := a) (fun h => by have h1 := h.1; have h2 := h.2.1; have h3 := h.2.2.1; first | omega | exact absurd (g3.symm.trans h3) (by decide) | exact absurd (g4.symm.trans (h.2.2.2 l[j] (List.getElem_mem _))) (by decide))] | rw [few14_yes (l := l) (a := a) ⟨by omega, by omega, g3, by rw [List.take_of_length_le (by omega)] at hz; exact hz⟩], rfl, rfl⟩ (by repeat constructor) (by repeat constructor)
   ·intro g3
    (try simp only [decide_eq_true_eq, decide_eq_false_iff_not, Bool.not_eq_true', Bool.not_eq_false', Bool.not_eq_eq_eq_not, Bool.not_true, Bool.not_false, Int.not_lt, Int.not_le, beq_iff_eq, beq_eq_false_iff_ne, ne_eq] at g3)
    iterate 5 first | refine go_skip ?_ | refine go_seq ?_ | refine go_region rfl ?_ | refine go_pure0 Tk rfl rfl rfl ?_
    refine go_nil ?_
    refine go_env [(0, _), (5, _)] ⟨rfl, rfl, trivial⟩ ?_
    refine go_block ?_
    refine go_loop' (X := Nat) (fun j => [(5, .int .i64 (j : Int))]) [(0, _)] (fun _ => []) (fun j => j ≤ l.length ∧ ∀ c ∈ l.take j, smallC c 60 = true) (fun j => l.length - j) (0) ⟨rfl, rfl, trivial⟩ (by repeat constructor) ⟨by omega, by simp⟩ ?_
    intro j ⟨hj, hz⟩
    iterate 7 first | refine go_seq ?_ | refine go_region rfl ?_ | refine go_pure0 Tk rfl rfl rfl ?_
    refine go_nil ?_
    refine go_env [(0, _), (5, _), (23, _)] ⟨rfl, rfl, rfl, trivial⟩ ?_
    refine go_condD rfl ?_ ?_
    ·intro hq1
     iterate 4 first | refine go_skip ?_ | refine go_seq ?_ | refine go_block ?_
     refine go_elem_cl (xs := l) (by repeat constructor) (j) (List.getElem?_eq_getElem (by omega)) (fun b1 o1 A1 c1 B1 d1 hA => ?_); cases hA
     iterate 3 first | refine go_region rfl ?_ | refine go_pure0 Tk rfl rfl rfl ?_
     refine go_val0 rfl (idx_val Tk rfl rfl rfl rfl rfl (by omega)) rfl ?_
     refine go_val0 rfl (ldv Tk rfl rfl rfl) rfl ?_
     refine go_call (law13Small l[j] A1 c1 B1 d1 60) rfl rfl (by rfl) rfl (by repeat constructor) (by repeat constructor) (fun h => nomatch h) ?_
     rintro _ _ _ ⟨rfl, rfl, rfl⟩
     refine go_pure0 Tk rfl rfl rfl ?_
     refine go_nil ?_
     refine go_env [(0, _), (5, _), (31, _)] ⟨rfl, rfl, rfl, trivial⟩ ?_
     refine go_cond rfl ?_ ?_
     ·intro g4
      (try simp only [decide_eq_true_eq, decide_eq_false_iff_not, Bool.not_eq_true', Bool.not_eq_false', Bool.not_eq_eq_eq_not, Bool.not_true, Bool.not_false, Int.not_lt, Int.not_le, beq_iff_eq, beq_eq_false_iff_ne, ne_eq] at g4)
      refine go_seq ?_
      refine go_region rfl ?_
      refine go_pure0 Tk rfl rfl rfl ?_
      refine go_nil ?_
      refine go_env [(4, _)] ⟨rfl, trivial⟩ ?_
      refine go_ret ⟨rfl, rfl⟩ _ _ (res1 (by rfl) (.tmp rfl)) ⟨by first | rw [few14_no (l := l) (a := a) (fun h => by have h1 := h.1; have h2 := h.2.1; have h3 := h.2.2.1; first | omega | exact absurd (g3.symm.trans h3) (by decide) | exact absurd (g4.symm.trans (h.2.2.2 l[j] (List.getElem_mem _))) (by decide))] | rw [few14_yes (l := l) (a := a) ⟨by omega, by omega, g3, by rw [List.take_of_length_le (by omega)] at hz; exact hz⟩], rfl, rfl⟩ (by repeat constructor) (by repeat constructor)
     ·intro g4
      (try simp only [decide_eq_true_eq, decide_eq_false_iff_not, Bool.not_eq_true', Bool.not_eq_false', Bool.not_eq_eq_eq_not, Bool.not_true, Bool.not_false, Int.not_lt, Int.not_le, beq_iff_eq, beq_eq_false_iff_ne, ne_eq] at g4)
      refine go_skip ?_
      refine go_blk ?_
      iterate 4 first | refine go_region rfl ?_ | refine go_pure0 Tk rfl rfl rfl ?_
      refine go_nil ?_
      refine go_i64 5 rfl (by omega) (by omega) ?_
      refine go_back (j + 1) ⟨rfl, rfl, trivial⟩ (by repeat constructor) (by repeat constructor) (⟨by omega, mem_take_next (by omega) hz g4⟩) (by omega)
    ·intro hq1
     refine go_exit rfl ?_
     refine go_seq ?_
     refine go_region rfl ?_
     refine go_pure0 Tk rfl rfl rfl ?_
     refine go_nil ?_
     refine go_env [(4, _)] ⟨rfl, trivial⟩ ?_
     refine go_ret ⟨rfl, rfl⟩ _ _ (res1 (by rfl) (.tmp rfl)) ⟨by first | rw [few14_no (l := l) (a := a) (fun h => by have h1 := h.1; have h2 := h.2.1; have h3 := h.2.2.1; first | omega | exact absurd (g3.symm.trans h3) (by decide) | exact absurd (g4.symm.trans (h.2.2.2 l[j] (List.getElem_mem _))) (by decide))] | rw [few14_yes (l := l) (a := a) ⟨by omega, by omega, g3, by rw [List.take_of_length_le (by omega)] at hz; exact hz⟩], rfl, rfl⟩ (by repeat constructor) (by repeat constructor)

set_option maxHeartbeats 2000000 in
set_option maxRecDepth 20000 in
theorem law14chain  :
    Spec Try.prog 38 #[] [] [] (fun v Ps' Os' => ∃ A B, v = .tuple #[.slice A 1 1, .slice B 3 3] ∧ Ps' = [sl tCl A 1 [wc14], sl tFa B 3 wn14] ∧ Os' = []) := by
 refine spec_of (fn := Try.f38) (args := []) 26 Try.func38 rfl (by kernel_rfl) Try.ntmps38 (Nat.le_of_ble_eq_true rfl) (fun w0 hp0 hf0 => ?_)
 iterate 4 first | refine go_seq ?_ | refine go_region rfl ?_ | refine go_pure0 Tk rfl rfl rfl ?_
 refine go_nil ?_
 refine go_env [] trivial ?_
 refine go_seq ?_
 refine go_region rfl ?_
 refine go_call (law11V 0) rfl rfl (by rfl) rfl (by repeat constructor) (by repeat constructor) (fun h => nomatch h) ?_
 rintro _ _ _ ⟨rfl, rfl, rfl⟩
 refine go_call (law11V 2) rfl rfl (by rfl) rfl (by repeat constructor) (by repeat constructor) (fun h => nomatch h) ?_
 rintro _ _ _ ⟨rfl, rfl, rfl⟩
 refine go_bslice Tk rfl rfl rfl rfl rfl rfl rfl rfl (fun h => nomatch h) ?_
 intro u1
 refine go_lit tTm (b := u1) [⟨true, 0⟩, ⟨true, 2⟩] (by repeat constructor) (fun hp a => ⟨[_, _], _, rfl, tTm_mk (x := ⟨true, 0⟩), ⟨[_, _], [], rfl, tTm_mk (x := ⟨true, 2⟩), rfl⟩⟩) (by simp) ?_
 refine go_call (law11A _ _ _ _) rfl rfl (by rfl) rfl (by repeat constructor) (by repeat constructor) (fun h => nomatch h) ?_
 rintro _ _ _ ⟨rfl, rfl, rfl⟩
 refine go_call (law11V 0) rfl rfl (by rfl) rfl (by repeat constructor) (by repeat constructor) (fun h => nomatch h) ?_
 rintro _ _ _ ⟨rfl, rfl, rfl⟩
 refine go_call (law11V 1) rfl rfl (by rfl) rfl (by repeat constructor) (by repeat constructor) (fun h => nomatch h) ?_
 rintro _ _ _ ⟨rfl, rfl, rfl⟩
 refine go_bslice Tk rfl rfl rfl rfl rfl rfl rfl rfl (fun h => nomatch h) ?_
 intro u2
 refine go_lit tTm (b := u2) [⟨true, 0⟩, ⟨true, 1⟩] (by repeat constructor) (fun hp a => ⟨[_, _], _, rfl, tTm_mk (x := ⟨true, 0⟩), ⟨[_, _], [], rfl, tTm_mk (x := ⟨true, 1⟩), rfl⟩⟩) (by simp) ?_
 refine go_call (law11Yes _ _ _ _) rfl rfl (by rfl) rfl (by repeat constructor) (by repeat constructor) (fun h => nomatch h) ?_
 rintro _ _ _ ⟨rfl, rfl, rfl⟩
 refine go_call (law11V 1) rfl rfl (by rfl) rfl (by repeat constructor) (by repeat constructor) (fun h => nomatch h) ?_
 rintro _ _ _ ⟨rfl, rfl, rfl⟩
 refine go_call (law11V 2) rfl rfl (by rfl) rfl (by repeat constructor) (by repeat constructor) (fun h => nomatch h) ?_
 rintro _ _ _ ⟨rfl, rfl, rfl⟩
 refine go_bslice Tk rfl rfl rfl rfl rfl rfl rfl rfl (fun h => nomatch h) ?_
 intro u3
 refine go_lit tTm (b := u3) [⟨true, 1⟩, ⟨true, 2⟩] (by repeat constructor) (fun hp a => ⟨[_, _], _, rfl, tTm_mk (x := ⟨true, 1⟩), ⟨[_, _], [], rfl, tTm_mk (x := ⟨true, 2⟩), rfl⟩⟩) (by simp) ?_
 refine go_call (law11Yes _ _ _ _) rfl rfl (by rfl) rfl (by repeat constructor) (by repeat constructor) (fun h => nomatch h) ?_
 rintro _ _ _ ⟨rfl, rfl, rfl⟩
 refine go_bslice Tk rfl rfl rfl rfl rfl rfl rfl rfl (fun h => nomatch h) ?_
 intro u5
 refine go_lit tLi (b := u5) wc14.b (by repeat constructor) (fun hp a => ⟨[_, _, _], _, rfl, tLi_mk (x := ⟨false, ⟨1, [⟨true, 0⟩, ⟨true, 1⟩]⟩⟩) (a (sl tTm (some ⟨u2, 0, none⟩) 2 [⟨true, 0⟩, ⟨true, 1⟩]) (by repeat constructor)), [_, _, _], [], rfl, tLi_mk (x := ⟨false, ⟨1, [⟨true, 1⟩, ⟨true, 2⟩]⟩⟩) (a (sl tTm (some ⟨u3, 0, none⟩) 2 [⟨true, 1⟩, ⟨true, 2⟩]) (by repeat constructor)), rfl⟩) (by decide) ?_
 refine go_call (law11If _ _ _ _ _ _ _) rfl rfl (by rfl) rfl (by repeat constructor) (by repeat constructor) (fun h => nomatch h) ?_
 rintro _ _ _ ⟨rfl, rfl, rfl⟩
 refine go_alloc Tk rfl rfl rfl (by rfl) rfl rfl (fun h => nomatch h) ?_
 intro bC
 refine go_store Tk rfl rfl rfl rfl rfl rfl (by repeat constructor) rfl rfl (by rfl) (fun h => nomatch h) ?_
 refine go_nil ?_
 refine go_freeze_pt (b := bC) (by repeat constructor) ?_
 refine go_env [(2, _)] ⟨rfl, trivial⟩ ?_
 refine go_seq ?_
 refine go_draw ([cl bC 0 [.int .u32 wc14.h.p, .slice (some ⟨u1, 0, none⟩) wc14.h.a.length 2, .slice (some ⟨u5, 0, none⟩) wc14.b.length 2]]) ([]) [0] (SL.pre [(2, 0)] (.two (SL.pre [(0, 1)] (.two (SL.pre [(0, 2)] (.two (SL.pre [(0, 3)] (.two (SL.pre [(0, 4)] (.two (SL.pre [(0, 5), (0, 6), (0, 7), (1, 9), (0, 8), (1, 10)] .nil) (SL.pre [(0, 6), (0, 5), (0, 7), (1, 9), (0, 8), (1, 10)] .nil))) (SL.pre [(0, 6), (0, 4), (0, 5), (0, 7), (1, 9), (0, 8), (1, 10)] .nil))) (.two (SL.pre [(0, 4)] (.two (SL.pre [(0, 3)] (.two (SL.pre [(0, 5), (0, 6), (0, 7), (1, 9), (0, 8), (1, 10)] .nil) (SL.pre [(0, 6), (0, 5), (0, 7), (1, 9), (0, 8), (1, 10)] .nil))) (SL.pre [(0, 6), (0, 3), (0, 5), (0, 7), (1, 9), (0, 8), (1, 10)] .nil))) (SL.pre [(0, 6)] (.two (SL.pre [(0, 3), (0, 4), (0, 5), (0, 7), (1, 9), (0, 8), (1, 10)] .nil) (SL.pre [(0, 4), (0, 3), (0, 5), (0, 7), (1, 9), (0, 8), (1, 10)] .nil)))))) (.two (SL.pre [(0, 4)] (.two (SL.pre [(0, 2)] (.two (SL.pre [(0, 3)] (.two (SL.pre [(0, 5), (0, 6), (0, 7), (1, 9), (0, 8), (1, 10)] .nil) (SL.pre [(0, 6), (0, 5), (0, 7), (1, 9), (0, 8), (1, 10)] .nil))) (SL.pre [(0, 6), (0, 3), (0, 5), (0, 7), (1, 9), (0, 8), (1, 10)] .nil))) (SL.pre [(0, 6), (0, 2), (0, 3), (0, 5), (0, 7), (1, 9), (0, 8), (1, 10)] .nil))) (SL.pre [(0, 6)] (.two (SL.pre [(0, 2)] (.two (SL.pre [(0, 3), (0, 4), (0, 5), (0, 7), (1, 9), (0, 8), (1, 10)] .nil) (SL.pre [(0, 4), (0, 3), (0, 5), (0, 7), (1, 9), (0, 8), (1, 10)] .nil))) (SL.pre [(0, 4), (0, 2), (0, 3), (0, 5), (0, 7), (1, 9), (0, 8), (1, 10)] .nil)))))) (.two (SL.pre [(0, 2)] (.two (SL.pre [(0, 1)] (.two (SL.pre [(0, 3)] (.two (SL.pre [(0, 4)] (.two (SL.pre [(0, 5), (0, 6), (0, 7), (1, 9), (0, 8), (1, 10)] .nil) (SL.pre [(0, 6), (0, 5), (0, 7), (1, 9), (0, 8), (1, 10)] .nil))) (SL.pre [(0, 6), (0, 4), (0, 5), (0, 7), (1, 9), (0, 8), (1, 10)] .nil))) (.two (SL.pre [(0, 4)] (.two (SL.pre [(0, 3)] (.two (SL.pre [(0, 5), (0, 6), (0, 7), (1, 9), (0, 8), (1, 10)] .nil) (SL.pre [(0, 6), (0, 5), (0, 7), (1, 9), (0, 8), (1, 10)] .nil))) (SL.pre [(0, 6), (0, 3), (0, 5), (0, 7), (1, 9), (0, 8), (1, 10)] .nil))) (SL.pre [(0, 6)] (.two (SL.pre [(0, 3), (0, 4), (0, 5), (0, 7), (1, 9), (0, 8), (1, 10)] .nil) (SL.pre [(0, 4), (0, 3), (0, 5), (0, 7), (1, 9), (0, 8), (1, 10)] .nil)))))) (.two (SL.pre [(0, 3)] (.two (SL.pre [(0, 1)] (.two (SL.pre [(0, 4)] (.two (SL.pre [(0, 5), (0, 6), (0, 7), (1, 9), (0, 8), (1, 10)] .nil) (SL.pre [(0, 6), (0, 5), (0, 7), (1, 9), (0, 8), (1, 10)] .nil))) (SL.pre [(0, 6), (0, 4), (0, 5), (0, 7), (1, 9), (0, 8), (1, 10)] .nil))) (.two (SL.pre [(0, 4)] (.two (SL.pre [(0, 1)] (.two (SL.pre [(0, 5), (0, 6), (0, 7), (1, 9), (0, 8), (1, 10)] .nil) (SL.pre [(0, 6), (0, 5), (0, 7), (1, 9), (0, 8), (1, 10)] .nil))) (.two (SL.pre [(0, 5)] (.two (SL.pre [(0, 1), (0, 6), (0, 7), (1, 9), (0, 8), (1, 10)] .nil) (SL.pre [(0, 6)] (.two (SL.pre [(0, 1), (0, 7), (1, 9), (0, 8), (1, 10)] .nil) (SL.pre [(0, 7)] (.two (SL.pre [(0, 1), (1, 9), (0, 8), (1, 10)] .nil) (SL.pre [(0, 8), (0, 1), (1, 9), (1, 10)] .nil))))))) (SL.pre [(0, 6)] (.two (SL.pre [(0, 1), (0, 5), (0, 7), (1, 9), (0, 8), (1, 10)] .nil) (SL.pre [(0, 5)] (.two (SL.pre [(0, 1), (0, 7), (1, 9), (0, 8), (1, 10)] .nil) (SL.pre [(0, 7)] (.two (SL.pre [(0, 1), (1, 9), (0, 8), (1, 10)] .nil) (SL.pre [(0, 8), (0, 1), (1, 9), (1, 10)] .nil)))))))))) (SL.pre [(0, 6)] (.two (SL.pre [(0, 1), (0, 4), (0, 5), (0, 7), (1, 9), (0, 8), (1, 10)] .nil) (SL.pre [(0, 4)] (.two (SL.pre [(0, 1), (0, 5), (0, 7), (1, 9), (0, 8), (1, 10)] .nil) (SL.pre [(0, 5)] (.two (SL.pre [(0, 1), (0, 7), (1, 9), (0, 8), (1, 10)] .nil) (SL.pre [(0, 7)] (.two (SL.pre [(0, 1), (1, 9), (0, 8), (1, 10)] .nil) (SL.pre [(0, 8), (0, 1), (1, 9), (1, 10)] .nil)))))))))))) (.two (SL.pre [(0, 4)] (.two (SL.pre [(0, 1)] (.two (SL.pre [(0, 3)] (.two (SL.pre [(0, 5), (0, 6), (0, 7), (1, 9), (0, 8), (1, 10)] .nil) (SL.pre [(0, 6), (0, 5), (0, 7), (1, 9), (0, 8), (1, 10)] .nil))) (SL.pre [(0, 6), (0, 3), (0, 5), (0, 7), (1, 9), (0, 8), (1, 10)] .nil))) (.two (SL.pre [(0, 3)] (.two (SL.pre [(0, 1)] (.two (SL.pre [(0, 5), (0, 6), (0, 7), (1, 9), (0, 8), (1, 10)] .nil) (SL.pre [(0, 6), (0, 5), (0, 7), (1, 9), (0, 8), (1, 10)] .nil))) (.two (SL.pre [(0, 5)] (.two (SL.pre [(0, 1), (0, 6), (0, 7), (1, 9), (0, 8), (1, 10)] .nil) (SL.pre [(0, 6)] (.two (SL.pre [(0, 1), (0, 7), (1, 9), (0, 8), (1, 10)] .nil) (SL.pre [(0, 7)] (.two (SL.pre [(0, 1), (1, 9), (0, 8), (1, 10)] .nil) (SL.pre [(0, 8), (0, 1), (1, 9), (1, 10)] .nil))))))) (SL.pre [(0, 6)] (.two (SL.pre [(0, 1), (0, 5), (0, 7), (1, 9), (0, 8), (1, 10)] .nil) (SL.pre [(0, 5)] (.two (SL.pre [(0, 1), (0, 7), (1, 9), (0, 8), (1, 10)] .nil) (SL.pre [(0, 7)] (.two (SL.pre [(0, 1), (1, 9), (0, 8), (1, 10)] .nil) (SL.pre [(0, 8), (0, 1), (1, 9), (1, 10)] .nil)))))))))) (SL.pre [(0, 6)] (.two (SL.pre [(0, 1), (0, 3), (0, 5), (0, 7), (1, 9), (0, 8), (1, 10)] .nil) (SL.pre [(0, 3)] (.two (SL.pre [(0, 1), (0, 5), (0, 7), (1, 9), (0, 8), (1, 10)] .nil) (SL.pre [(0, 5)] (.two (SL.pre [(0, 1), (0, 7), (1, 9), (0, 8), (1, 10)] .nil) (SL.pre [(0, 7)] (.two (SL.pre [(0, 1), (1, 9), (0, 8), (1, 10)] .nil) (SL.pre [(0, 8), (0, 1), (1, 9), (1, 10)] .nil)))))))))))) (SL.pre [(0, 6)] (.two (SL.pre [(0, 1)] (.two (SL.pre [(0, 3), (0, 4), (0, 5), (0, 7), (1, 9), (0, 8), (1, 10)] .nil) (SL.pre [(0, 4), (0, 3), (0, 5), (0, 7), (1, 9), (0, 8), (1, 10)] .nil))) (.two (SL.pre [(0, 3)] (.two (SL.pre [(0, 1), (0, 4), (0, 5), (0, 7), (1, 9), (0, 8), (1, 10)] .nil) (SL.pre [(0, 4)] (.two (SL.pre [(0, 1), (0, 5), (0, 7), (1, 9), (0, 8), (1, 10)] .nil) (SL.pre [(0, 5)] (.two (SL.pre [(0, 1), (0, 7), (1, 9), (0, 8), (1, 10)] .nil) (SL.pre [(0, 7)] (.two (SL.pre [(0, 1), (1, 9), (0, 8), (1, 10)] .nil) (SL.pre [(0, 8), (0, 1), (1, 9), (1, 10)] .nil))))))))) (SL.pre [(0, 4)] (.two (SL.pre [(0, 1), (0, 3), (0, 5), (0, 7), (1, 9), (0, 8), (1, 10)] .nil) (SL.pre [(0, 3)] (.two (SL.pre [(0, 1), (0, 5), (0, 7), (1, 9), (0, 8), (1, 10)] .nil) (SL.pre [(0, 5)] (.two (SL.pre [(0, 1), (0, 7), (1, 9), (0, 8), (1, 10)] .nil) (SL.pre [(0, 7)] (.two (SL.pre [(0, 1), (1, 9), (0, 8), (1, 10)] .nil) (SL.pre [(0, 8), (0, 1), (1, 9), (1, 10)] .nil)))))))))))))))) (.two (SL.pre [(0, 4)] (.two (SL.pre [(0, 1)] (.two (SL.pre [(0, 2)] (.two (SL.pre [(0, 3)] (.two (SL.pre [(0, 5), (0, 6), (0, 7), (1, 9), (0, 8), (1, 10)] .nil) (SL.pre [(0, 6), (0, 5), (0, 7), (1, 9), (0, 8), (1, 10)] .nil))) (SL.pre [(0, 6), (0, 3), (0, 5), (0, 7), (1, 9), (0, 8), (1, 10)] .nil))) (SL.pre [(0, 6), (0, 2), (0, 3), (0, 5), (0, 7), (1, 9), (0, 8), (1, 10)] .nil))) (.two (SL.pre [(0, 2)] (.two (SL.pre [(0, 1)] (.two (SL.pre [(0, 3)] (.two (SL.pre [(0, 5), (0, 6), (0, 7), (1, 9), (0, 8), (1, 10)] .nil) (SL.pre [(0, 6), (0, 5), (0, 7), (1, 9), (0, 8), (1, 10)] .nil))) (SL.pre [(0, 6), (0, 3), (0, 5), (0, 7), (1, 9), (0, 8), (1, 10)] .nil))) (.two (SL.pre [(0, 3)] (.two (SL.pre [(0, 1)] (.two (SL.pre [(0, 5), (0, 6), (0, 7), (1, 9), (0, 8), (1, 10)] .nil) (SL.pre [(0, 6), (0, 5), (0, 7), (1, 9), (0, 8), (1, 10)] .nil))) (.two (SL.pre [(0, 5)] (.two (SL.pre [(0, 1), (0, 6), (0, 7), (1, 9), (0, 8), (1, 10)] .nil) (SL.pre [(0, 6)] (.two (SL.pre [(0, 1), (0, 7), (1, 9), (0, 8), (1, 10)] .nil) (SL.pre [(0, 7)] (.two (SL.pre [(0, 1), (1, 9), (0, 8), (1, 10)] .nil) (SL.pre [(0, 8), (0, 1), (1, 9), (1, 10)] .nil))))))) (SL.pre [(0, 6)] (.two (SL.pre [(0, 1), (0, 5), (0, 7), (1, 9), (0, 8), (1, 10)] .nil) (SL.pre [(0, 5)] (.two (SL.pre [(0, 1), (0, 7), (1, 9), (0, 8), (1, 10)] .nil) (SL.pre [(0, 7)] (.two (SL.pre [(0, 1), (1, 9), (0, 8), (1, 10)] .nil) (SL.pre [(0, 8), (0, 1), (1, 9), (1, 10)] .nil)))))))))) (SL.pre [(0, 6)] (.two (SL.pre [(0, 1), (0, 3), (0, 5), (0, 7), (1, 9), (0, 8), (1, 10)] .nil) (SL.pre [(0, 3)] (.two (SL.pre [(0, 1), (0, 5), (0, 7), (1, 9), (0, 8), (1, 10)] .nil) (SL.pre [(0, 5)] (.two (SL.pre [(0, 1), (0, 7), (1, 9), (0, 8), (1, 10)] .nil) (SL.pre [(0, 7)] (.two (SL.pre [(0, 1), (1, 9), (0, 8), (1, 10)] .nil) (SL.pre [(0, 8), (0, 1), (1, 9), (1, 10)] .nil)))))))))))) (SL.pre [(0, 6)] (.two (SL.pre [(0, 1), (0, 2), (0, 3), (0, 5), (0, 7), (1, 9), (0, 8), (1, 10)] .nil) (SL.pre [(0, 2)] (.two (SL.pre [(0, 1), (0, 3), (0, 5), (0, 7), (1, 9), (0, 8), (1, 10)] .nil) (SL.pre [(0, 3)] (.two (SL.pre [(0, 1), (0, 5), (0, 7), (1, 9), (0, 8), (1, 10)] .nil) (SL.pre [(0, 5)] (.two (SL.pre [(0, 1), (0, 7), (1, 9), (0, 8), (1, 10)] .nil) (SL.pre [(0, 7)] (.two (SL.pre [(0, 1), (1, 9), (0, 8), (1, 10)] .nil) (SL.pre [(0, 8), (0, 1), (1, 9), (1, 10)] .nil)))))))))))))) (SL.pre [(0, 6)] (.two (SL.pre [(0, 1)] (.two (SL.pre [(0, 2)] (.two (SL.pre [(0, 3), (0, 4), (0, 5), (0, 7), (1, 9), (0, 8), (1, 10)] .nil) (SL.pre [(0, 4), (0, 3), (0, 5), (0, 7), (1, 9), (0, 8), (1, 10)] .nil))) (SL.pre [(0, 4), (0, 2), (0, 3), (0, 5), (0, 7), (1, 9), (0, 8), (1, 10)] .nil))) (.two (SL.pre [(0, 2)] (.two (SL.pre [(0, 1)] (.two (SL.pre [(0, 3), (0, 4), (0, 5), (0, 7), (1, 9), (0, 8), (1, 10)] .nil) (SL.pre [(0, 4), (0, 3), (0, 5), (0, 7), (1, 9), (0, 8), (1, 10)] .nil))) (.two (SL.pre [(0, 3)] (.two (SL.pre [(0, 1), (0, 4), (0, 5), (0, 7), (1, 9), (0, 8), (1, 10)] .nil) (SL.pre [(0, 4)] (.two (SL.pre [(0, 1), (0, 5), (0, 7), (1, 9), (0, 8), (1, 10)] .nil) (SL.pre [(0, 5)] (.two (SL.pre [(0, 1), (0, 7), (1, 9), (0, 8), (1, 10)] .nil) (SL.pre [(0, 7)] (.two (SL.pre [(0, 1), (1, 9), (0, 8), (1, 10)] .nil) (SL.pre [(0, 8), (0, 1), (1, 9), (1, 10)] .nil))))))))) (SL.pre [(0, 4)] (.two (SL.pre [(0, 1), (0, 3), (0, 5), (0, 7), (1, 9), (0, 8), (1, 10)] .nil) (SL.pre [(0, 3)] (.two (SL.pre [(0, 1), (0, 5), (0, 7), (1, 9), (0, 8), (1, 10)] .nil) (SL.pre [(0, 5)] (.two (SL.pre [(0, 1), (0, 7), (1, 9), (0, 8), (1, 10)] .nil) (SL.pre [(0, 7)] (.two (SL.pre [(0, 1), (1, 9), (0, 8), (1, 10)] .nil) (SL.pre [(0, 8), (0, 1), (1, 9), (1, 10)] .nil)))))))))))) (SL.pre [(0, 4)] (.two (SL.pre [(0, 1), (0, 2), (0, 3), (0, 5), (0, 7), (1, 9), (0, 8), (1, 10)] .nil) (SL.pre [(0, 2)] (.two (SL.pre [(0, 1), (0, 3), (0, 5), (0, 7), (1, 9), (0, 8), (1, 10)] .nil) (SL.pre [(0, 3)] (.two (SL.pre [(0, 1), (0, 5), (0, 7), (1, 9), (0, 8), (1, 10)] .nil) (SL.pre [(0, 5)] (.two (SL.pre [(0, 1), (0, 7), (1, 9), (0, 8), (1, 10)] .nil) (SL.pre [(0, 7)] (.two (SL.pre [(0, 1), (1, 9), (0, 8), (1, 10)] .nil) (SL.pre [(0, 8), (0, 1), (1, 9), (1, 10)] .nil)))))))))))))))))) mixed rfl (by kernel_rfl) ?_
 refine go_val2a rfl (ldv Tk rfl rfl rfl) rfl ?_
 refine go_two ?_ ?_
 ·skip
  refine go_bslice Tk rfl rfl rfl rfl rfl rfl rfl rfl (fun h => nomatch h) ?_
  intro bs
  refine go_lit tCl (b := bs) [wc14] (by repeat constructor) (fun hp a => ⟨[.int .u32 wc14.h.p, .slice (some ⟨u1, 0, none⟩) wc14.h.a.length 2, .slice (some ⟨u5, 0, none⟩) wc14.b.length 2], [], rfl, tCl_mk (a (sl tTm (some ⟨u1, 0, none⟩) 2 wc14.h.a) (by repeat constructor)) (a (sl tLi (some ⟨u5, 0, none⟩) 2 wc14.b) (by repeat constructor)), rfl⟩) (by simp) ?_
  refine go_two ?_ ?_
  ·skip
   refine go_bslice Tk rfl rfl rfl rfl rfl rfl rfl rfl (fun _ _ => satA) ?_
   intro b1
   refine go_lit_int (kk := .u32) [10, 11] (by repeat constructor) (by simp) ?_
   refine go_two ?_ ?_
   ·skip
    refine go_call (law13F 1 _ 2 2) rfl rfl (by rfl) rfl (by repeat constructor) (by repeat constructor) (fun _ v Ps' Os' hq => by obtain ⟨rfl, rfl, rfl⟩ := hq; exact satS (by repeat constructor) (by repeat constructor)) ?_
    rintro _ _ _ ⟨rfl, rfl, rfl⟩
    refine go_two ?_ ?_
    ·skip
     refine go_bslice Tk rfl rfl rfl rfl rfl rfl rfl rfl (fun _ _ => satA) ?_
     intro b2
     refine go_lit_int (kk := .u32) [11, 12] (by repeat constructor) (by simp) ?_
     refine go_two ?_ ?_
     ·skip
      refine go_call (law13F 1 _ 2 2) rfl rfl (by rfl) rfl (by repeat constructor) (by repeat constructor) (fun _ v Ps' Os' hq => by obtain ⟨rfl, rfl, rfl⟩ := hq; exact satS (by repeat constructor) (by repeat constructor)) ?_
      rintro _ _ _ ⟨rfl, rfl, rfl⟩
      refine go_bslice Tk rfl rfl rfl rfl rfl rfl rfl rfl (fun _ _ => satA) ?_
      intro b3
      refine go_lit_int (kk := .u32) [12, 13] (by repeat constructor) (by simp) ?_
      refine go_call (law13F 1 _ 2 2) rfl rfl (by rfl) rfl (by repeat constructor) (by repeat constructor) (fun _ v Ps' Os' hq => by obtain ⟨rfl, rfl, rfl⟩ := hq; exact satS (by repeat constructor) (by repeat constructor)) ?_
      rintro _ _ _ ⟨rfl, rfl, rfl⟩
      refine go_pure1 Tk rfl rfl rfl ?_
      refine go_bslice Tk rfl rfl rfl rfl rfl rfl rfl rfl (fun _ _ => satA) ?_
      intro bf
      refine go_lit tFa (b := bf) wn14 (by repeat constructor) (fun hp a => ⟨[_, _], _, rfl, tFa_mk (x := (⟨1, [10, 11]⟩ : Fa)) (a (sl tU _ _ [10, 11]) (by repeat constructor)), [_, _], _, rfl, tFa_mk (x := (⟨1, [11, 12]⟩ : Fa)) (a (sl tU _ _ [11, 12]) (by repeat constructor)), [_, _], [], rfl, tFa_mk (x := (⟨1, [12, 13]⟩ : Fa)) (a (sl tU _ _ [12, 13]) (by repeat constructor)), rfl⟩) (by decide) ?_
      refine go_pure1 Tk rfl rfl rfl ?_
      refine go_nil ?_
      refine go_env [(0, _), (1, _)] ⟨rfl, rfl, trivial⟩ ?_
      refine go_ret ⟨rfl, rfl⟩ [sl tCl (some ⟨bs, 0, none⟩) 1 [wc14], sl tFa (some ⟨bf, 0, none⟩) 3 wn14] [] (res2 (by rfl) (.tmp rfl) (.tmp rfl)) ⟨_, _, rfl, rfl, rfl⟩ (by repeat constructor) (by repeat constructor)
     refine go_bslice Tk rfl rfl rfl rfl rfl rfl rfl rfl (fun _ _ => satA) ?_
     intro b4
     refine go_lit_int (kk := .u32) [12, 13] (by repeat constructor) (by simp) ?_
     refine go_call (law13F 1 _ 2 2) rfl rfl (by rfl) rfl (by repeat constructor) (by repeat constructor) (fun _ v Ps' Os' hq => by obtain ⟨rfl, rfl, rfl⟩ := hq; exact satS (by repeat constructor) (by repeat constructor)) ?_
     rintro _ _ _ ⟨rfl, rfl, rfl⟩
     refine go_call (law13F 1 _ 2 2) rfl rfl (by rfl) rfl (by repeat constructor) (by repeat constructor) (fun _ v Ps' Os' hq => by obtain ⟨rfl, rfl, rfl⟩ := hq; exact satS (by repeat constructor) (by repeat constructor)) ?_
     rintro _ _ _ ⟨rfl, rfl, rfl⟩
     refine go_pure1 Tk rfl rfl rfl ?_
     refine go_bslice Tk rfl rfl rfl rfl rfl rfl rfl rfl (fun _ _ => satA) ?_
     intro bf
     refine go_lit tFa (b := bf) wn14 (by repeat constructor) (fun hp a => ⟨[_, _], _, rfl, tFa_mk (x := (⟨1, [10, 11]⟩ : Fa)) (a (sl tU _ _ [10, 11]) (by repeat constructor)), [_, _], _, rfl, tFa_mk (x := (⟨1, [11, 12]⟩ : Fa)) (a (sl tU _ _ [11, 12]) (by repeat constructor)), [_, _], [], rfl, tFa_mk (x := (⟨1, [12, 13]⟩ : Fa)) (a (sl tU _ _ [12, 13]) (by repeat constructor)), rfl⟩) (by decide) ?_
     refine go_pure1 Tk rfl rfl rfl ?_
     refine go_nil ?_
     refine go_env [(0, _), (1, _)] ⟨rfl, rfl, trivial⟩ ?_
     refine go_ret ⟨rfl, rfl⟩ _ _ (res2 (by rfl) (.tmp rfl) (.tmp rfl)) ⟨_, _, rfl, rfl, rfl⟩ (by repeat constructor) (by repeat constructor)
    refine go_bslice Tk rfl rfl rfl rfl rfl rfl rfl rfl (fun _ _ => satA) ?_
    intro b5
    refine go_lit_int (kk := .u32) [12, 13] (by repeat constructor) (by simp) ?_
    refine go_bslice Tk rfl rfl rfl rfl rfl rfl rfl rfl (fun _ _ => satA) ?_
    intro b6
    refine go_lit_int (kk := .u32) [11, 12] (by repeat constructor) (by simp) ?_
    refine go_call (law13F 1 _ 2 2) rfl rfl (by rfl) rfl (by repeat constructor) (by repeat constructor) (fun _ v Ps' Os' hq => by obtain ⟨rfl, rfl, rfl⟩ := hq; exact satS (by repeat constructor) (by repeat constructor)) ?_
    rintro _ _ _ ⟨rfl, rfl, rfl⟩
    refine go_call (law13F 1 _ 2 2) rfl rfl (by rfl) rfl (by repeat constructor) (by repeat constructor) (fun _ v Ps' Os' hq => by obtain ⟨rfl, rfl, rfl⟩ := hq; exact satS (by repeat constructor) (by repeat constructor)) ?_
    rintro _ _ _ ⟨rfl, rfl, rfl⟩
    refine go_pure1 Tk rfl rfl rfl ?_
    refine go_bslice Tk rfl rfl rfl rfl rfl rfl rfl rfl (fun _ _ => satA) ?_
    intro bf
    refine go_lit tFa (b := bf) wn14 (by repeat constructor) (fun hp a => ⟨[_, _], _, rfl, tFa_mk (x := (⟨1, [10, 11]⟩ : Fa)) (a (sl tU _ _ [10, 11]) (by repeat constructor)), [_, _], _, rfl, tFa_mk (x := (⟨1, [11, 12]⟩ : Fa)) (a (sl tU _ _ [11, 12]) (by repeat constructor)), [_, _], [], rfl, tFa_mk (x := (⟨1, [12, 13]⟩ : Fa)) (a (sl tU _ _ [12, 13]) (by repeat constructor)), rfl⟩) (by decide) ?_
    refine go_pure1 Tk rfl rfl rfl ?_
    refine go_nil ?_
    refine go_env [(0, _), (1, _)] ⟨rfl, rfl, trivial⟩ ?_
    refine go_ret ⟨rfl, rfl⟩ _ _ (res2 (by rfl) (.tmp rfl) (.tmp rfl)) ⟨_, _, rfl, rfl, rfl⟩ (by repeat constructor) (by repeat constructor)
   refine go_two ?_ ?_
   ·skip
    refine go_bslice Tk rfl rfl rfl rfl rfl rfl rfl rfl (fun _ _ => satA) ?_
    intro b7
    refine go_lit_int (kk := .u32) [11, 12] (by repeat constructor) (by simp) ?_
    refine go_two ?_ ?_
    ·skip
     refine go_call (law13F 1 _ 2 2) rfl rfl (by rfl) rfl (by repeat constructor) (by repeat constructor) (fun _ v Ps' Os' hq => by obtain ⟨rfl, rfl, rfl⟩ := hq; exact satS (by repeat constructor) (by repeat constructor)) ?_
     rintro _ _ _ ⟨rfl, rfl, rfl⟩
     refine go_two ?_ ?_
     ·skip
      refine go_call (law13F 1 _ 2 2) rfl rfl (by rfl) rfl (by repeat constructor) (by repeat constructor) (fun _ v Ps' Os' hq => by obtain ⟨rfl, rfl, rfl⟩ := hq; exact satS (by repeat constructor) (by repeat constructor)) ?_
      rintro _ _ _ ⟨rfl, rfl, rfl⟩
      refine go_bslice Tk rfl rfl rfl rfl rfl rfl rfl rfl (fun _ _ => satA) ?_
      intro b8
      refine go_lit_int (kk := .u32) [12, 13] (by repeat constructor) (by simp) ?_
      refine go_call (law13F 1 _ 2 2) rfl rfl (by rfl) rfl (by repeat constructor) (by repeat constructor) (fun _ v Ps' Os' hq => by obtain ⟨rfl, rfl, rfl⟩ := hq; exact satS (by repeat constructor) (by repeat constructor)) ?_
      rintro _ _ _ ⟨rfl, rfl, rfl⟩
      refine go_pure1 Tk rfl rfl rfl ?_
      refine go_bslice Tk rfl rfl rfl rfl rfl rfl rfl rfl (fun _ _ => satA) ?_
      intro bf
      refine go_lit tFa (b := bf) wn14 (by repeat constructor) (fun hp a => ⟨[_, _], _, rfl, tFa_mk (x := (⟨1, [10, 11]⟩ : Fa)) (a (sl tU _ _ [10, 11]) (by repeat constructor)), [_, _], _, rfl, tFa_mk (x := (⟨1, [11, 12]⟩ : Fa)) (a (sl tU _ _ [11, 12]) (by repeat constructor)), [_, _], [], rfl, tFa_mk (x := (⟨1, [12, 13]⟩ : Fa)) (a (sl tU _ _ [12, 13]) (by repeat constructor)), rfl⟩) (by decide) ?_
      refine go_pure1 Tk rfl rfl rfl ?_
      refine go_nil ?_
      refine go_env [(0, _), (1, _)] ⟨rfl, rfl, trivial⟩ ?_
      refine go_ret ⟨rfl, rfl⟩ _ _ (res2 (by rfl) (.tmp rfl) (.tmp rfl)) ⟨_, _, rfl, rfl, rfl⟩ (by repeat constructor) (by repeat constructor)
     refine go_bslice Tk rfl rfl rfl rfl rfl rfl rfl rfl (fun _ _ => satA) ?_
     intro b9
     refine go_lit_int (kk := .u32) [12, 13] (by repeat constructor) (by simp) ?_
     refine go_call (law13F 1 _ 2 2) rfl rfl (by rfl) rfl (by repeat constructor) (by repeat constructor) (fun _ v Ps' Os' hq => by obtain ⟨rfl, rfl, rfl⟩ := hq; exact satS (by repeat constructor) (by repeat constructor)) ?_
     rintro _ _ _ ⟨rfl, rfl, rfl⟩
     refine go_call (law13F 1 _ 2 2) rfl rfl (by rfl) rfl (by repeat constructor) (by repeat constructor) (fun _ v Ps' Os' hq => by obtain ⟨rfl, rfl, rfl⟩ := hq; exact satS (by repeat constructor) (by repeat constructor)) ?_
     rintro _ _ _ ⟨rfl, rfl, rfl⟩
     refine go_pure1 Tk rfl rfl rfl ?_
     refine go_bslice Tk rfl rfl rfl rfl rfl rfl rfl rfl (fun _ _ => satA) ?_
     intro bf
     refine go_lit tFa (b := bf) wn14 (by repeat constructor) (fun hp a => ⟨[_, _], _, rfl, tFa_mk (x := (⟨1, [10, 11]⟩ : Fa)) (a (sl tU _ _ [10, 11]) (by repeat constructor)), [_, _], _, rfl, tFa_mk (x := (⟨1, [11, 12]⟩ : Fa)) (a (sl tU _ _ [11, 12]) (by repeat constructor)), [_, _], [], rfl, tFa_mk (x := (⟨1, [12, 13]⟩ : Fa)) (a (sl tU _ _ [12, 13]) (by repeat constructor)), rfl⟩) (by decide) ?_
     refine go_pure1 Tk rfl rfl rfl ?_
     refine go_nil ?_
     refine go_env [(0, _), (1, _)] ⟨rfl, rfl, trivial⟩ ?_
     refine go_ret ⟨rfl, rfl⟩ _ _ (res2 (by rfl) (.tmp rfl) (.tmp rfl)) ⟨_, _, rfl, rfl, rfl⟩ (by repeat constructor) (by repeat constructor)
    refine go_bslice Tk rfl rfl rfl rfl rfl rfl rfl rfl (fun _ _ => satA) ?_
    intro b10
    refine go_lit_int (kk := .u32) [12, 13] (by repeat constructor) (by simp) ?_
    refine go_call (law13F 1 _ 2 2) rfl rfl (by rfl) rfl (by repeat constructor) (by repeat constructor) (fun _ v Ps' Os' hq => by obtain ⟨rfl, rfl, rfl⟩ := hq; exact satS (by repeat constructor) (by repeat constructor)) ?_
    rintro _ _ _ ⟨rfl, rfl, rfl⟩
    refine go_call (law13F 1 _ 2 2) rfl rfl (by rfl) rfl (by repeat constructor) (by repeat constructor) (fun _ v Ps' Os' hq => by obtain ⟨rfl, rfl, rfl⟩ := hq; exact satS (by repeat constructor) (by repeat constructor)) ?_
    rintro _ _ _ ⟨rfl, rfl, rfl⟩
    refine go_call (law13F 1 _ 2 2) rfl rfl (by rfl) rfl (by repeat constructor) (by repeat constructor) (fun _ v Ps' Os' hq => by obtain ⟨rfl, rfl, rfl⟩ := hq; exact satS (by repeat constructor) (by repeat constructor)) ?_
    rintro _ _ _ ⟨rfl, rfl, rfl⟩
    refine go_pure1 Tk rfl rfl rfl ?_
    refine go_bslice Tk rfl rfl rfl rfl rfl rfl rfl rfl (fun _ _ => satA) ?_
    intro bf
    refine go_lit tFa (b := bf) wn14 (by repeat constructor) (fun hp a => ⟨[_, _], _, rfl, tFa_mk (x := (⟨1, [10, 11]⟩ : Fa)) (a (sl tU _ _ [10, 11]) (by repeat constructor)), [_, _], _, rfl, tFa_mk (x := (⟨1, [11, 12]⟩ : Fa)) (a (sl tU _ _ [11, 12]) (by repeat constructor)), [_, _], [], rfl, tFa_mk (x := (⟨1, [12, 13]⟩ : Fa)) (a (sl tU _ _ [12, 13]) (by repeat constructor)), rfl⟩) (by decide) ?_
    refine go_pure1 Tk rfl rfl rfl ?_
    refine go_nil ?_
    refine go_env [(0, _), (1, _)] ⟨rfl, rfl, trivial⟩ ?_
    refine go_ret ⟨rfl, rfl⟩ _ _ (res2 (by rfl) (.tmp rfl) (.tmp rfl)) ⟨_, _, rfl, rfl, rfl⟩ (by repeat constructor) (by repeat constructor)
   refine go_bslice Tk rfl rfl rfl rfl rfl rfl rfl rfl (fun _ _ => satA) ?_
   intro b11
   refine go_lit_int (kk := .u32) [12, 13] (by repeat constructor) (by simp) ?_
   refine go_two ?_ ?_
   ·skip
    refine go_call (law13F 1 _ 2 2) rfl rfl (by rfl) rfl (by repeat constructor) (by repeat constructor) (fun _ v Ps' Os' hq => by obtain ⟨rfl, rfl, rfl⟩ := hq; exact satS (by repeat constructor) (by repeat constructor)) ?_
    rintro _ _ _ ⟨rfl, rfl, rfl⟩
    refine go_bslice Tk rfl rfl rfl rfl rfl rfl rfl rfl (fun _ _ => satA) ?_
    intro b12
    refine go_lit_int (kk := .u32) [11, 12] (by repeat constructor) (by simp) ?_
    refine go_call (law13F 1 _ 2 2) rfl rfl (by rfl) rfl (by repeat constructor) (by repeat constructor) (fun _ v Ps' Os' hq => by obtain ⟨rfl, rfl, rfl⟩ := hq; exact satS (by repeat constructor) (by repeat constructor)) ?_
    rintro _ _ _ ⟨rfl, rfl, rfl⟩
    refine go_call (law13F 1 _ 2 2) rfl rfl (by rfl) rfl (by repeat constructor) (by repeat constructor) (fun _ v Ps' Os' hq => by obtain ⟨rfl, rfl, rfl⟩ := hq; exact satS (by repeat constructor) (by repeat constructor)) ?_
    rintro _ _ _ ⟨rfl, rfl, rfl⟩
    refine go_pure1 Tk rfl rfl rfl ?_
    refine go_bslice Tk rfl rfl rfl rfl rfl rfl rfl rfl (fun _ _ => satA) ?_
    intro bf
    refine go_lit tFa (b := bf) wn14 (by repeat constructor) (fun hp a => ⟨[_, _], _, rfl, tFa_mk (x := (⟨1, [10, 11]⟩ : Fa)) (a (sl tU _ _ [10, 11]) (by repeat constructor)), [_, _], _, rfl, tFa_mk (x := (⟨1, [11, 12]⟩ : Fa)) (a (sl tU _ _ [11, 12]) (by repeat constructor)), [_, _], [], rfl, tFa_mk (x := (⟨1, [12, 13]⟩ : Fa)) (a (sl tU _ _ [12, 13]) (by repeat constructor)), rfl⟩) (by decide) ?_
    refine go_pure1 Tk rfl rfl rfl ?_
    refine go_nil ?_
    refine go_env [(0, _), (1, _)] ⟨rfl, rfl, trivial⟩ ?_
    refine go_ret ⟨rfl, rfl⟩ _ _ (res2 (by rfl) (.tmp rfl) (.tmp rfl)) ⟨_, _, rfl, rfl, rfl⟩ (by repeat constructor) (by repeat constructor)
   refine go_bslice Tk rfl rfl rfl rfl rfl rfl rfl rfl (fun _ _ => satA) ?_
   intro b13
   refine go_lit_int (kk := .u32) [11, 12] (by repeat constructor) (by simp) ?_
   refine go_call (law13F 1 _ 2 2) rfl rfl (by rfl) rfl (by repeat constructor) (by repeat constructor) (fun _ v Ps' Os' hq => by obtain ⟨rfl, rfl, rfl⟩ := hq; exact satS (by repeat constructor) (by repeat constructor)) ?_
   rintro _ _ _ ⟨rfl, rfl, rfl⟩
   refine go_call (law13F 1 _ 2 2) rfl rfl (by rfl) rfl (by repeat constructor) (by repeat constructor) (fun _ v Ps' Os' hq => by obtain ⟨rfl, rfl, rfl⟩ := hq; exact satS (by repeat constructor) (by repeat constructor)) ?_
   rintro _ _ _ ⟨rfl, rfl, rfl⟩
   refine go_call (law13F 1 _ 2 2) rfl rfl (by rfl) rfl (by repeat constructor) (by repeat constructor) (fun _ v Ps' Os' hq => by obtain ⟨rfl, rfl, rfl⟩ := hq; exact satS (by repeat constructor) (by repeat constructor)) ?_
   rintro _ _ _ ⟨rfl, rfl, rfl⟩
   refine go_pure1 Tk rfl rfl rfl ?_
   refine go_bslice Tk rfl rfl rfl rfl rfl rfl rfl rfl (fun _ _ => satA) ?_
   intro bf
   refine go_lit tFa (b := bf) wn14 (by repeat constructor) (fun hp a => ⟨[_, _], _, rfl, tFa_mk (x := (⟨1, [10, 11]⟩ : Fa)) (a (sl tU _ _ [10, 11]) (by repeat constructor)), [_, _], _, rfl, tFa_mk (x := (⟨1, [11, 12]⟩ : Fa)) (a (sl tU _ _ [11, 12]) (by repeat constructor)), [_, _], [], rfl, tFa_mk (x := (⟨1, [12, 13]⟩ : Fa)) (a (sl tU _ _ [12, 13]) (by repeat constructor)), rfl⟩) (by decide) ?_
   refine go_pure1 Tk rfl rfl rfl ?_
   refine go_nil ?_
   refine go_env [(0, _), (1, _)] ⟨rfl, rfl, trivial⟩ ?_
   refine go_ret ⟨rfl, rfl⟩ _ _ (res2 (by rfl) (.tmp rfl) (.tmp rfl)) ⟨_, _, rfl, rfl, rfl⟩ (by repeat constructor) (by repeat constructor)
  refine go_two ?_ ?_
  ·skip
   refine go_bslice Tk rfl rfl rfl rfl rfl rfl rfl rfl (fun _ _ => satA) ?_
   intro b14
   refine go_lit_int (kk := .u32) [11, 12] (by repeat constructor) (by simp) ?_
   refine go_two ?_ ?_
   ·skip
    refine go_bslice Tk rfl rfl rfl rfl rfl rfl rfl rfl (fun _ _ => satA) ?_
    intro b15
    refine go_lit_int (kk := .u32) [10, 11] (by repeat constructor) (by simp) ?_
    refine go_two ?_ ?_
    ·skip
     refine go_call (law13F 1 _ 2 2) rfl rfl (by rfl) rfl (by repeat constructor) (by repeat constructor) (fun _ v Ps' Os' hq => by obtain ⟨rfl, rfl, rfl⟩ := hq; exact satS (by repeat constructor) (by repeat constructor)) ?_
     rintro _ _ _ ⟨rfl, rfl, rfl⟩
     refine go_two ?_ ?_
     ·skip
      refine go_call (law13F 1 _ 2 2) rfl rfl (by rfl) rfl (by repeat constructor) (by repeat constructor) (fun _ v Ps' Os' hq => by obtain ⟨rfl, rfl, rfl⟩ := hq; exact satS (by repeat constructor) (by repeat constructor)) ?_
      rintro _ _ _ ⟨rfl, rfl, rfl⟩
      refine go_bslice Tk rfl rfl rfl rfl rfl rfl rfl rfl (fun _ _ => satA) ?_
      intro b16
      refine go_lit_int (kk := .u32) [12, 13] (by repeat constructor) (by simp) ?_
      refine go_call (law13F 1 _ 2 2) rfl rfl (by rfl) rfl (by repeat constructor) (by repeat constructor) (fun _ v Ps' Os' hq => by obtain ⟨rfl, rfl, rfl⟩ := hq; exact satS (by repeat constructor) (by repeat constructor)) ?_
      rintro _ _ _ ⟨rfl, rfl, rfl⟩
      refine go_pure1 Tk rfl rfl rfl ?_
      refine go_bslice Tk rfl rfl rfl rfl rfl rfl rfl rfl (fun _ _ => satA) ?_
      intro bf
      refine go_lit tFa (b := bf) wn14 (by repeat constructor) (fun hp a => ⟨[_, _], _, rfl, tFa_mk (x := (⟨1, [10, 11]⟩ : Fa)) (a (sl tU _ _ [10, 11]) (by repeat constructor)), [_, _], _, rfl, tFa_mk (x := (⟨1, [11, 12]⟩ : Fa)) (a (sl tU _ _ [11, 12]) (by repeat constructor)), [_, _], [], rfl, tFa_mk (x := (⟨1, [12, 13]⟩ : Fa)) (a (sl tU _ _ [12, 13]) (by repeat constructor)), rfl⟩) (by decide) ?_
      refine go_pure1 Tk rfl rfl rfl ?_
      refine go_nil ?_
      refine go_env [(0, _), (1, _)] ⟨rfl, rfl, trivial⟩ ?_
      refine go_ret ⟨rfl, rfl⟩ _ _ (res2 (by rfl) (.tmp rfl) (.tmp rfl)) ⟨_, _, rfl, rfl, rfl⟩ (by repeat constructor) (by repeat constructor)
     refine go_bslice Tk rfl rfl rfl rfl rfl rfl rfl rfl (fun _ _ => satA) ?_
     intro b17
     refine go_lit_int (kk := .u32) [12, 13] (by repeat constructor) (by simp) ?_
     refine go_call (law13F 1 _ 2 2) rfl rfl (by rfl) rfl (by repeat constructor) (by repeat constructor) (fun _ v Ps' Os' hq => by obtain ⟨rfl, rfl, rfl⟩ := hq; exact satS (by repeat constructor) (by repeat constructor)) ?_
     rintro _ _ _ ⟨rfl, rfl, rfl⟩
     refine go_call (law13F 1 _ 2 2) rfl rfl (by rfl) rfl (by repeat constructor) (by repeat constructor) (fun _ v Ps' Os' hq => by obtain ⟨rfl, rfl, rfl⟩ := hq; exact satS (by repeat constructor) (by repeat constructor)) ?_
     rintro _ _ _ ⟨rfl, rfl, rfl⟩
     refine go_pure1 Tk rfl rfl rfl ?_
     refine go_bslice Tk rfl rfl rfl rfl rfl rfl rfl rfl (fun _ _ => satA) ?_
     intro bf
     refine go_lit tFa (b := bf) wn14 (by repeat constructor) (fun hp a => ⟨[_, _], _, rfl, tFa_mk (x := (⟨1, [10, 11]⟩ : Fa)) (a (sl tU _ _ [10, 11]) (by repeat constructor)), [_, _], _, rfl, tFa_mk (x := (⟨1, [11, 12]⟩ : Fa)) (a (sl tU _ _ [11, 12]) (by repeat constructor)), [_, _], [], rfl, tFa_mk (x := (⟨1, [12, 13]⟩ : Fa)) (a (sl tU _ _ [12, 13]) (by repeat constructor)), rfl⟩) (by decide) ?_
     refine go_pure1 Tk rfl rfl rfl ?_
     refine go_nil ?_
     refine go_env [(0, _), (1, _)] ⟨rfl, rfl, trivial⟩ ?_
     refine go_ret ⟨rfl, rfl⟩ _ _ (res2 (by rfl) (.tmp rfl) (.tmp rfl)) ⟨_, _, rfl, rfl, rfl⟩ (by repeat constructor) (by repeat constructor)
    refine go_bslice Tk rfl rfl rfl rfl rfl rfl rfl rfl (fun _ _ => satA) ?_
    intro b18
    refine go_lit_int (kk := .u32) [12, 13] (by repeat constructor) (by simp) ?_
    refine go_call (law13F 1 _ 2 2) rfl rfl (by rfl) rfl (by repeat constructor) (by repeat constructor) (fun _ v Ps' Os' hq => by obtain ⟨rfl, rfl, rfl⟩ := hq; exact satS (by repeat constructor) (by repeat constructor)) ?_
    rintro _ _ _ ⟨rfl, rfl, rfl⟩
    refine go_call (law13F 1 _ 2 2) rfl rfl (by rfl) rfl (by repeat constructor) (by repeat constructor) (fun _ v Ps' Os' hq => by obtain ⟨rfl, rfl, rfl⟩ := hq; exact satS (by repeat constructor) (by repeat constructor)) ?_
    rintro _ _ _ ⟨rfl, rfl, rfl⟩
    refine go_call (law13F 1 _ 2 2) rfl rfl (by rfl) rfl (by repeat constructor) (by repeat constructor) (fun _ v Ps' Os' hq => by obtain ⟨rfl, rfl, rfl⟩ := hq; exact satS (by repeat constructor) (by repeat constructor)) ?_
    rintro _ _ _ ⟨rfl, rfl, rfl⟩
    refine go_pure1 Tk rfl rfl rfl ?_
    refine go_bslice Tk rfl rfl rfl rfl rfl rfl rfl rfl (fun _ _ => satA) ?_
    intro bf
    refine go_lit tFa (b := bf) wn14 (by repeat constructor) (fun hp a => ⟨[_, _], _, rfl, tFa_mk (x := (⟨1, [10, 11]⟩ : Fa)) (a (sl tU _ _ [10, 11]) (by repeat constructor)), [_, _], _, rfl, tFa_mk (x := (⟨1, [11, 12]⟩ : Fa)) (a (sl tU _ _ [11, 12]) (by repeat constructor)), [_, _], [], rfl, tFa_mk (x := (⟨1, [12, 13]⟩ : Fa)) (a (sl tU _ _ [12, 13]) (by repeat constructor)), rfl⟩) (by decide) ?_
    refine go_pure1 Tk rfl rfl rfl ?_
    refine go_nil ?_
    refine go_env [(0, _), (1, _)] ⟨rfl, rfl, trivial⟩ ?_
    refine go_ret ⟨rfl, rfl⟩ _ _ (res2 (by rfl) (.tmp rfl) (.tmp rfl)) ⟨_, _, rfl, rfl, rfl⟩ (by repeat constructor) (by repeat constructor)
   refine go_bslice Tk rfl rfl rfl rfl rfl rfl rfl rfl (fun _ _ => satA) ?_
   intro b19
   refine go_lit_int (kk := .u32) [12, 13] (by repeat constructor) (by simp) ?_
   refine go_bslice Tk rfl rfl rfl rfl rfl rfl rfl rfl (fun _ _ => satA) ?_
   intro b20
   refine go_lit_int (kk := .u32) [10, 11] (by repeat constructor) (by simp) ?_
   refine go_call (law13F 1 _ 2 2) rfl rfl (by rfl) rfl (by repeat constructor) (by repeat constructor) (fun _ v Ps' Os' hq => by obtain ⟨rfl, rfl, rfl⟩ := hq; exact satS (by repeat constructor) (by repeat constructor)) ?_
   rintro _ _ _ ⟨rfl, rfl, rfl⟩
   refine go_call (law13F 1 _ 2 2) rfl rfl (by rfl) rfl (by repeat constructor) (by repeat constructor) (fun _ v Ps' Os' hq => by obtain ⟨rfl, rfl, rfl⟩ := hq; exact satS (by repeat constructor) (by repeat constructor)) ?_
   rintro _ _ _ ⟨rfl, rfl, rfl⟩
   refine go_call (law13F 1 _ 2 2) rfl rfl (by rfl) rfl (by repeat constructor) (by repeat constructor) (fun _ v Ps' Os' hq => by obtain ⟨rfl, rfl, rfl⟩ := hq; exact satS (by repeat constructor) (by repeat constructor)) ?_
   rintro _ _ _ ⟨rfl, rfl, rfl⟩
   refine go_pure1 Tk rfl rfl rfl ?_
   refine go_bslice Tk rfl rfl rfl rfl rfl rfl rfl rfl (fun _ _ => satA) ?_
   intro bf
   refine go_lit tFa (b := bf) wn14 (by repeat constructor) (fun hp a => ⟨[_, _], _, rfl, tFa_mk (x := (⟨1, [10, 11]⟩ : Fa)) (a (sl tU _ _ [10, 11]) (by repeat constructor)), [_, _], _, rfl, tFa_mk (x := (⟨1, [11, 12]⟩ : Fa)) (a (sl tU _ _ [11, 12]) (by repeat constructor)), [_, _], [], rfl, tFa_mk (x := (⟨1, [12, 13]⟩ : Fa)) (a (sl tU _ _ [12, 13]) (by repeat constructor)), rfl⟩) (by decide) ?_
   refine go_pure1 Tk rfl rfl rfl ?_
   refine go_nil ?_
   refine go_env [(0, _), (1, _)] ⟨rfl, rfl, trivial⟩ ?_
   refine go_ret ⟨rfl, rfl⟩ _ _ (res2 (by rfl) (.tmp rfl) (.tmp rfl)) ⟨_, _, rfl, rfl, rfl⟩ (by repeat constructor) (by repeat constructor)
  refine go_bslice Tk rfl rfl rfl rfl rfl rfl rfl rfl (fun _ _ => satA) ?_
  intro b21
  refine go_lit_int (kk := .u32) [12, 13] (by repeat constructor) (by simp) ?_
  refine go_two ?_ ?_
  ·skip
   refine go_bslice Tk rfl rfl rfl rfl rfl rfl rfl rfl (fun _ _ => satA) ?_
   intro b22
   refine go_lit_int (kk := .u32) [10, 11] (by repeat constructor) (by simp) ?_
   refine go_two ?_ ?_
   ·skip
    refine go_call (law13F 1 _ 2 2) rfl rfl (by rfl) rfl (by repeat constructor) (by repeat constructor) (fun _ v Ps' Os' hq => by obtain ⟨rfl, rfl, rfl⟩ := hq; exact satS (by repeat constructor) (by repeat constructor)) ?_
    rintro _ _ _ ⟨rfl, rfl, rfl⟩
    refine go_bslice Tk rfl rfl rfl rfl rfl rfl rfl rfl (fun _ _ => satA) ?_
    intro b23
    refine go_lit_int (kk := .u32) [11, 12] (by repeat constructor) (by simp) ?_
    refine go_call (law13F 1 _ 2 2) rfl rfl (by rfl) rfl (by repeat constructor) (by repeat constructor) (fun _ v Ps' Os' hq => by obtain ⟨rfl, rfl, rfl⟩ := hq; exact satS (by repeat constructor) (by repeat constructor)) ?_
    rintro _ _ _ ⟨rfl, rfl, rfl⟩
    refine go_call (law13F 1 _ 2 2) rfl rfl (by rfl) rfl (by repeat constructor) (by repeat constructor) (fun _ v Ps' Os' hq => by obtain ⟨rfl, rfl, rfl⟩ := hq; exact satS (by repeat constructor) (by repeat constructor)) ?_
    rintro _ _ _ ⟨rfl, rfl, rfl⟩
    refine go_pure1 Tk rfl rfl rfl ?_
    refine go_bslice Tk rfl rfl rfl rfl rfl rfl rfl rfl (fun _ _ => satA) ?_
    intro bf
    refine go_lit tFa (b := bf) wn14 (by repeat constructor) (fun hp a => ⟨[_, _], _, rfl, tFa_mk (x := (⟨1, [10, 11]⟩ : Fa)) (a (sl tU _ _ [10, 11]) (by repeat constructor)), [_, _], _, rfl, tFa_mk (x := (⟨1, [11, 12]⟩ : Fa)) (a (sl tU _ _ [11, 12]) (by repeat constructor)), [_, _], [], rfl, tFa_mk (x := (⟨1, [12, 13]⟩ : Fa)) (a (sl tU _ _ [12, 13]) (by repeat constructor)), rfl⟩) (by decide) ?_
    refine go_pure1 Tk rfl rfl rfl ?_
    refine go_nil ?_
    refine go_env [(0, _), (1, _)] ⟨rfl, rfl, trivial⟩ ?_
    refine go_ret ⟨rfl, rfl⟩ _ _ (res2 (by rfl) (.tmp rfl) (.tmp rfl)) ⟨_, _, rfl, rfl, rfl⟩ (by repeat constructor) (by repeat constructor)
   refine go_bslice Tk rfl rfl rfl rfl rfl rfl rfl rfl (fun _ _ => satA) ?_
   intro b24
   refine go_lit_int (kk := .u32) [11, 12] (by repeat constructor) (by simp) ?_
   refine go_call (law13F 1 _ 2 2) rfl rfl (by rfl) rfl (by repeat constructor) (by repeat constructor) (fun _ v Ps' Os' hq => by obtain ⟨rfl, rfl, rfl⟩ := hq; exact satS (by repeat constructor) (by repeat constructor)) ?_
   rintro _ _ _ ⟨rfl, rfl, rfl⟩
   refine go_call (law13F 1 _ 2 2) rfl rfl (by rfl) rfl (by repeat constructor) (by repeat constructor) (fun _ v Ps' Os' hq => by obtain ⟨rfl, rfl, rfl⟩ := hq; exact satS (by repeat constructor) (by repeat constructor)) ?_
   rintro _ _ _ ⟨rfl, rfl, rfl⟩
   refine go_call (law13F 1 _ 2 2) rfl rfl (by rfl) rfl (by repeat constructor) (by repeat constructor) (fun _ v Ps' Os' hq => by obtain ⟨rfl, rfl, rfl⟩ := hq; exact satS (by repeat constructor) (by repeat constructor)) ?_
   rintro _ _ _ ⟨rfl, rfl, rfl⟩
   refine go_pure1 Tk rfl rfl rfl ?_
   refine go_bslice Tk rfl rfl rfl rfl rfl rfl rfl rfl (fun _ _ => satA) ?_
   intro bf
   refine go_lit tFa (b := bf) wn14 (by repeat constructor) (fun hp a => ⟨[_, _], _, rfl, tFa_mk (x := (⟨1, [10, 11]⟩ : Fa)) (a (sl tU _ _ [10, 11]) (by repeat constructor)), [_, _], _, rfl, tFa_mk (x := (⟨1, [11, 12]⟩ : Fa)) (a (sl tU _ _ [11, 12]) (by repeat constructor)), [_, _], [], rfl, tFa_mk (x := (⟨1, [12, 13]⟩ : Fa)) (a (sl tU _ _ [12, 13]) (by repeat constructor)), rfl⟩) (by decide) ?_
   refine go_pure1 Tk rfl rfl rfl ?_
   refine go_nil ?_
   refine go_env [(0, _), (1, _)] ⟨rfl, rfl, trivial⟩ ?_
   refine go_ret ⟨rfl, rfl⟩ _ _ (res2 (by rfl) (.tmp rfl) (.tmp rfl)) ⟨_, _, rfl, rfl, rfl⟩ (by repeat constructor) (by repeat constructor)
  refine go_bslice Tk rfl rfl rfl rfl rfl rfl rfl rfl (fun _ _ => satA) ?_
  intro b25
  refine go_lit_int (kk := .u32) [11, 12] (by repeat constructor) (by simp) ?_
  refine go_bslice Tk rfl rfl rfl rfl rfl rfl rfl rfl (fun _ _ => satA) ?_
  intro b26
  refine go_lit_int (kk := .u32) [10, 11] (by repeat constructor) (by simp) ?_
  refine go_call (law13F 1 _ 2 2) rfl rfl (by rfl) rfl (by repeat constructor) (by repeat constructor) (fun _ v Ps' Os' hq => by obtain ⟨rfl, rfl, rfl⟩ := hq; exact satS (by repeat constructor) (by repeat constructor)) ?_
  rintro _ _ _ ⟨rfl, rfl, rfl⟩
  refine go_call (law13F 1 _ 2 2) rfl rfl (by rfl) rfl (by repeat constructor) (by repeat constructor) (fun _ v Ps' Os' hq => by obtain ⟨rfl, rfl, rfl⟩ := hq; exact satS (by repeat constructor) (by repeat constructor)) ?_
  rintro _ _ _ ⟨rfl, rfl, rfl⟩
  refine go_call (law13F 1 _ 2 2) rfl rfl (by rfl) rfl (by repeat constructor) (by repeat constructor) (fun _ v Ps' Os' hq => by obtain ⟨rfl, rfl, rfl⟩ := hq; exact satS (by repeat constructor) (by repeat constructor)) ?_
  rintro _ _ _ ⟨rfl, rfl, rfl⟩
  refine go_pure1 Tk rfl rfl rfl ?_
  refine go_bslice Tk rfl rfl rfl rfl rfl rfl rfl rfl (fun _ _ => satA) ?_
  intro bf
  refine go_lit tFa (b := bf) wn14 (by repeat constructor) (fun hp a => ⟨[_, _], _, rfl, tFa_mk (x := (⟨1, [10, 11]⟩ : Fa)) (a (sl tU _ _ [10, 11]) (by repeat constructor)), [_, _], _, rfl, tFa_mk (x := (⟨1, [11, 12]⟩ : Fa)) (a (sl tU _ _ [11, 12]) (by repeat constructor)), [_, _], [], rfl, tFa_mk (x := (⟨1, [12, 13]⟩ : Fa)) (a (sl tU _ _ [12, 13]) (by repeat constructor)), rfl⟩) (by decide) ?_
  refine go_pure1 Tk rfl rfl rfl ?_
  refine go_nil ?_
  refine go_env [(0, _), (1, _)] ⟨rfl, rfl, trivial⟩ ?_
  refine go_ret ⟨rfl, rfl⟩ _ _ (res2 (by rfl) (.tmp rfl) (.tmp rfl)) ⟨_, _, rfl, rfl, rfl⟩ (by repeat constructor) (by repeat constructor)
 refine go_two ?_ ?_
 ·skip
  refine go_bslice Tk rfl rfl rfl rfl rfl rfl rfl rfl (fun _ _ => satA) ?_
  intro b27
  refine go_lit_int (kk := .u32) [10, 11] (by repeat constructor) (by simp) ?_
  refine go_two ?_ ?_
  ·skip
   refine go_bslice Tk rfl rfl rfl rfl rfl rfl rfl rfl (fun h => nomatch h) ?_
   intro bs
   refine go_lit tCl (b := bs) [wc14] (by repeat constructor) (fun hp a => ⟨[.int .u32 wc14.h.p, .slice (some ⟨u1, 0, none⟩) wc14.h.a.length 2, .slice (some ⟨u5, 0, none⟩) wc14.b.length 2], [], rfl, tCl_mk (a (sl tTm (some ⟨u1, 0, none⟩) 2 wc14.h.a) (by repeat constructor)) (a (sl tLi (some ⟨u5, 0, none⟩) 2 wc14.b) (by repeat constructor)), rfl⟩) (by simp) ?_
   refine go_two ?_ ?_
   ·skip
    refine go_call (law13F 1 _ 2 2) rfl rfl (by rfl) rfl (by repeat constructor) (by repeat constructor) (fun _ v Ps' Os' hq => by obtain ⟨rfl, rfl, rfl⟩ := hq; exact satS (by repeat constructor) (by repeat constructor)) ?_
    rintro _ _ _ ⟨rfl, rfl, rfl⟩
    refine go_two ?_ ?_
    ·skip
     refine go_bslice Tk rfl rfl rfl rfl rfl rfl rfl rfl (fun _ _ => satA) ?_
     intro b28
     refine go_lit_int (kk := .u32) [11, 12] (by repeat constructor) (by simp) ?_
     refine go_two ?_ ?_
     ·skip
      refine go_call (law13F 1 _ 2 2) rfl rfl (by rfl) rfl (by repeat constructor) (by repeat constructor) (fun _ v Ps' Os' hq => by obtain ⟨rfl, rfl, rfl⟩ := hq; exact satS (by repeat constructor) (by repeat constructor)) ?_
      rintro _ _ _ ⟨rfl, rfl, rfl⟩
      refine go_bslice Tk rfl rfl rfl rfl rfl rfl rfl rfl (fun _ _ => satA) ?_
      intro b29
      refine go_lit_int (kk := .u32) [12, 13] (by repeat constructor) (by simp) ?_
      refine go_call (law13F 1 _ 2 2) rfl rfl (by rfl) rfl (by repeat constructor) (by repeat constructor) (fun _ v Ps' Os' hq => by obtain ⟨rfl, rfl, rfl⟩ := hq; exact satS (by repeat constructor) (by repeat constructor)) ?_
      rintro _ _ _ ⟨rfl, rfl, rfl⟩
      refine go_pure1 Tk rfl rfl rfl ?_
      refine go_bslice Tk rfl rfl rfl rfl rfl rfl rfl rfl (fun _ _ => satA) ?_
      intro bf
      refine go_lit tFa (b := bf) wn14 (by repeat constructor) (fun hp a => ⟨[_, _], _, rfl, tFa_mk (x := (⟨1, [10, 11]⟩ : Fa)) (a (sl tU _ _ [10, 11]) (by repeat constructor)), [_, _], _, rfl, tFa_mk (x := (⟨1, [11, 12]⟩ : Fa)) (a (sl tU _ _ [11, 12]) (by repeat constructor)), [_, _], [], rfl, tFa_mk (x := (⟨1, [12, 13]⟩ : Fa)) (a (sl tU _ _ [12, 13]) (by repeat constructor)), rfl⟩) (by decide) ?_
      refine go_pure1 Tk rfl rfl rfl ?_
      refine go_nil ?_
      refine go_env [(0, _), (1, _)] ⟨rfl, rfl, trivial⟩ ?_
      refine go_ret ⟨rfl, rfl⟩ _ _ (res2 (by rfl) (.tmp rfl) (.tmp rfl)) ⟨_, _, rfl, rfl, rfl⟩ (by repeat constructor) (by repeat constructor)
     refine go_bslice Tk rfl rfl rfl rfl rfl rfl rfl rfl (fun _ _ => satA) ?_
     intro b30
     refine go_lit_int (kk := .u32) [12, 13] (by repeat constructor) (by simp) ?_
     refine go_call (law13F 1 _ 2 2) rfl rfl (by rfl) rfl (by repeat constructor) (by repeat constructor) (fun _ v Ps' Os' hq => by obtain ⟨rfl, rfl, rfl⟩ := hq; exact satS (by repeat constructor) (by repeat constructor)) ?_
     rintro _ _ _ ⟨rfl, rfl, rfl⟩
     refine go_call (law13F 1 _ 2 2) rfl rfl (by rfl) rfl (by repeat constructor) (by repeat constructor) (fun _ v Ps' Os' hq => by obtain ⟨rfl, rfl, rfl⟩ := hq; exact satS (by repeat constructor) (by repeat constructor)) ?_
     rintro _ _ _ ⟨rfl, rfl, rfl⟩
     refine go_pure1 Tk rfl rfl rfl ?_
     refine go_bslice Tk rfl rfl rfl rfl rfl rfl rfl rfl (fun _ _ => satA) ?_
     intro bf
     refine go_lit tFa (b := bf) wn14 (by repeat constructor) (fun hp a => ⟨[_, _], _, rfl, tFa_mk (x := (⟨1, [10, 11]⟩ : Fa)) (a (sl tU _ _ [10, 11]) (by repeat constructor)), [_, _], _, rfl, tFa_mk (x := (⟨1, [11, 12]⟩ : Fa)) (a (sl tU _ _ [11, 12]) (by repeat constructor)), [_, _], [], rfl, tFa_mk (x := (⟨1, [12, 13]⟩ : Fa)) (a (sl tU _ _ [12, 13]) (by repeat constructor)), rfl⟩) (by decide) ?_
     refine go_pure1 Tk rfl rfl rfl ?_
     refine go_nil ?_
     refine go_env [(0, _), (1, _)] ⟨rfl, rfl, trivial⟩ ?_
     refine go_ret ⟨rfl, rfl⟩ _ _ (res2 (by rfl) (.tmp rfl) (.tmp rfl)) ⟨_, _, rfl, rfl, rfl⟩ (by repeat constructor) (by repeat constructor)
    refine go_bslice Tk rfl rfl rfl rfl rfl rfl rfl rfl (fun _ _ => satA) ?_
    intro b31
    refine go_lit_int (kk := .u32) [12, 13] (by repeat constructor) (by simp) ?_
    refine go_bslice Tk rfl rfl rfl rfl rfl rfl rfl rfl (fun _ _ => satA) ?_
    intro b32
    refine go_lit_int (kk := .u32) [11, 12] (by repeat constructor) (by simp) ?_
    refine go_call (law13F 1 _ 2 2) rfl rfl (by rfl) rfl (by repeat constructor) (by repeat constructor) (fun _ v Ps' Os' hq => by obtain ⟨rfl, rfl, rfl⟩ := hq; exact satS (by repeat constructor) (by repeat constructor)) ?_
    rintro _ _ _ ⟨rfl, rfl, rfl⟩
    refine go_call (law13F 1 _ 2 2) rfl rfl (by rfl) rfl (by repeat constructor) (by repeat constructor) (fun _ v Ps' Os' hq => by obtain ⟨rfl, rfl, rfl⟩ := hq; exact satS (by repeat constructor) (by repeat constructor)) ?_
    rintro _ _ _ ⟨rfl, rfl, rfl⟩
    refine go_pure1 Tk rfl rfl rfl ?_
    refine go_bslice Tk rfl rfl rfl rfl rfl rfl rfl rfl (fun _ _ => satA) ?_
    intro bf
    refine go_lit tFa (b := bf) wn14 (by repeat constructor) (fun hp a => ⟨[_, _], _, rfl, tFa_mk (x := (⟨1, [10, 11]⟩ : Fa)) (a (sl tU _ _ [10, 11]) (by repeat constructor)), [_, _], _, rfl, tFa_mk (x := (⟨1, [11, 12]⟩ : Fa)) (a (sl tU _ _ [11, 12]) (by repeat constructor)), [_, _], [], rfl, tFa_mk (x := (⟨1, [12, 13]⟩ : Fa)) (a (sl tU _ _ [12, 13]) (by repeat constructor)), rfl⟩) (by decide) ?_
    refine go_pure1 Tk rfl rfl rfl ?_
    refine go_nil ?_
    refine go_env [(0, _), (1, _)] ⟨rfl, rfl, trivial⟩ ?_
    refine go_ret ⟨rfl, rfl⟩ _ _ (res2 (by rfl) (.tmp rfl) (.tmp rfl)) ⟨_, _, rfl, rfl, rfl⟩ (by repeat constructor) (by repeat constructor)
   refine go_two ?_ ?_
   ·skip
    refine go_bslice Tk rfl rfl rfl rfl rfl rfl rfl rfl (fun _ _ => satA) ?_
    intro b33
    refine go_lit_int (kk := .u32) [11, 12] (by repeat constructor) (by simp) ?_
    refine go_two ?_ ?_
    ·skip
     refine go_call (law13F 1 _ 2 2) rfl rfl (by rfl) rfl (by repeat constructor) (by repeat constructor) (fun _ v Ps' Os' hq => by obtain ⟨rfl, rfl, rfl⟩ := hq; exact satS (by repeat constructor) (by repeat constructor)) ?_
     rintro _ _ _ ⟨rfl, rfl, rfl⟩
     refine go_two ?_ ?_
     ·skip
      refine go_call (law13F 1 _ 2 2) rfl rfl (by rfl) rfl (by repeat constructor) (by repeat constructor) (fun _ v Ps' Os' hq => by obtain ⟨rfl, rfl, rfl⟩ := hq; exact satS (by repeat constructor) (by repeat constructor)) ?_
      rintro _ _ _ ⟨rfl, rfl, rfl⟩
      refine go_bslice Tk rfl rfl rfl rfl rfl rfl rfl rfl (fun _ _ => satA) ?_
      intro b34
      refine go_lit_int (kk := .u32) [12, 13] (by repeat constructor) (by simp) ?_
      refine go_call (law13F 1 _ 2 2) rfl rfl (by rfl) rfl (by repeat constructor) (by repeat constructor) (fun _ v Ps' Os' hq => by obtain ⟨rfl, rfl, rfl⟩ := hq; exact satS (by repeat constructor) (by repeat constructor)) ?_
      rintro _ _ _ ⟨rfl, rfl, rfl⟩
      refine go_pure1 Tk rfl rfl rfl ?_
      refine go_bslice Tk rfl rfl rfl rfl rfl rfl rfl rfl (fun _ _ => satA) ?_
      intro bf
      refine go_lit tFa (b := bf) wn14 (by repeat constructor) (fun hp a => ⟨[_, _], _, rfl, tFa_mk (x := (⟨1, [10, 11]⟩ : Fa)) (a (sl tU _ _ [10, 11]) (by repeat constructor)), [_, _], _, rfl, tFa_mk (x := (⟨1, [11, 12]⟩ : Fa)) (a (sl tU _ _ [11, 12]) (by repeat constructor)), [_, _], [], rfl, tFa_mk (x := (⟨1, [12, 13]⟩ : Fa)) (a (sl tU _ _ [12, 13]) (by repeat constructor)), rfl⟩) (by decide) ?_
      refine go_pure1 Tk rfl rfl rfl ?_
      refine go_nil ?_
      refine go_env [(0, _), (1, _)] ⟨rfl, rfl, trivial⟩ ?_
      refine go_ret ⟨rfl, rfl⟩ _ _ (res2 (by rfl) (.tmp rfl) (.tmp rfl)) ⟨_, _, rfl, rfl, rfl⟩ (by repeat constructor) (by repeat constructor)
     refine go_bslice Tk rfl rfl rfl rfl rfl rfl rfl rfl (fun _ _ => satA) ?_
     intro b35
     refine go_lit_int (kk := .u32) [12, 13] (by repeat constructor) (by simp) ?_
     refine go_call (law13F 1 _ 2 2) rfl rfl (by rfl) rfl (by repeat constructor) (by repeat constructor) (fun _ v Ps' Os' hq => by obtain ⟨rfl, rfl, rfl⟩ := hq; exact satS (by repeat constructor) (by repeat constructor)) ?_
     rintro _ _ _ ⟨rfl, rfl, rfl⟩
     refine go_call (law13F 1 _ 2 2) rfl rfl (by rfl) rfl (by repeat constructor) (by repeat constructor) (fun _ v Ps' Os' hq => by obtain ⟨rfl, rfl, rfl⟩ := hq; exact satS (by repeat constructor) (by repeat constructor)) ?_
     rintro _ _ _ ⟨rfl, rfl, rfl⟩
     refine go_pure1 Tk rfl rfl rfl ?_
     refine go_bslice Tk rfl rfl rfl rfl rfl rfl rfl rfl (fun _ _ => satA) ?_
     intro bf
     refine go_lit tFa (b := bf) wn14 (by repeat constructor) (fun hp a => ⟨[_, _], _, rfl, tFa_mk (x := (⟨1, [10, 11]⟩ : Fa)) (a (sl tU _ _ [10, 11]) (by repeat constructor)), [_, _], _, rfl, tFa_mk (x := (⟨1, [11, 12]⟩ : Fa)) (a (sl tU _ _ [11, 12]) (by repeat constructor)), [_, _], [], rfl, tFa_mk (x := (⟨1, [12, 13]⟩ : Fa)) (a (sl tU _ _ [12, 13]) (by repeat constructor)), rfl⟩) (by decide) ?_
     refine go_pure1 Tk rfl rfl rfl ?_
     refine go_nil ?_
     refine go_env [(0, _), (1, _)] ⟨rfl, rfl, trivial⟩ ?_
     refine go_ret ⟨rfl, rfl⟩ _ _ (res2 (by rfl) (.tmp rfl) (.tmp rfl)) ⟨_, _, rfl, rfl, rfl⟩ (by repeat constructor) (by repeat constructor)
    refine go_bslice Tk rfl rfl rfl rfl rfl rfl rfl rfl (fun _ _ => satA) ?_
    intro b36
    refine go_lit_int (kk := .u32) [12, 13] (by repeat constructor) (by simp) ?_
    refine go_call (law13F 1 _ 2 2) rfl rfl (by rfl) rfl (by repeat constructor) (by repeat constructor) (fun _ v Ps' Os' hq => by obtain ⟨rfl, rfl, rfl⟩ := hq; exact satS (by repeat constructor) (by repeat constructor)) ?_
    rintro _ _ _ ⟨rfl, rfl, rfl⟩
    refine go_call (law13F 1 _ 2 2) rfl rfl (by rfl) rfl (by repeat constructor) (by repeat constructor) (fun _ v Ps' Os' hq => by obtain ⟨rfl, rfl, rfl⟩ := hq; exact satS (by repeat constructor) (by repeat constructor)) ?_
    rintro _ _ _ ⟨rfl, rfl, rfl⟩
    refine go_call (law13F 1 _ 2 2) rfl rfl (by rfl) rfl (by repeat constructor) (by repeat constructor) (fun _ v Ps' Os' hq => by obtain ⟨rfl, rfl, rfl⟩ := hq; exact satS (by repeat constructor) (by repeat constructor)) ?_
    rintro _ _ _ ⟨rfl, rfl, rfl⟩
    refine go_pure1 Tk rfl rfl rfl ?_
    refine go_bslice Tk rfl rfl rfl rfl rfl rfl rfl rfl (fun _ _ => satA) ?_
    intro bf
    refine go_lit tFa (b := bf) wn14 (by repeat constructor) (fun hp a => ⟨[_, _], _, rfl, tFa_mk (x := (⟨1, [10, 11]⟩ : Fa)) (a (sl tU _ _ [10, 11]) (by repeat constructor)), [_, _], _, rfl, tFa_mk (x := (⟨1, [11, 12]⟩ : Fa)) (a (sl tU _ _ [11, 12]) (by repeat constructor)), [_, _], [], rfl, tFa_mk (x := (⟨1, [12, 13]⟩ : Fa)) (a (sl tU _ _ [12, 13]) (by repeat constructor)), rfl⟩) (by decide) ?_
    refine go_pure1 Tk rfl rfl rfl ?_
    refine go_nil ?_
    refine go_env [(0, _), (1, _)] ⟨rfl, rfl, trivial⟩ ?_
    refine go_ret ⟨rfl, rfl⟩ _ _ (res2 (by rfl) (.tmp rfl) (.tmp rfl)) ⟨_, _, rfl, rfl, rfl⟩ (by repeat constructor) (by repeat constructor)
   refine go_bslice Tk rfl rfl rfl rfl rfl rfl rfl rfl (fun _ _ => satA) ?_
   intro b37
   refine go_lit_int (kk := .u32) [12, 13] (by repeat constructor) (by simp) ?_
   refine go_two ?_ ?_
   ·skip
    refine go_call (law13F 1 _ 2 2) rfl rfl (by rfl) rfl (by repeat constructor) (by repeat constructor) (fun _ v Ps' Os' hq => by obtain ⟨rfl, rfl, rfl⟩ := hq; exact satS (by repeat constructor) (by repeat constructor)) ?_
    rintro _ _ _ ⟨rfl, rfl, rfl⟩
    refine go_bslice Tk rfl rfl rfl rfl rfl rfl rfl rfl (fun _ _ => satA) ?_
    intro b38
    refine go_lit_int (kk := .u32) [11, 12] (by repeat constructor) (by simp) ?_
    refine go_call (law13F 1 _ 2 2) rfl rfl (by rfl) rfl (by repeat constructor) (by repeat constructor) (fun _ v Ps' Os' hq => by obtain ⟨rfl, rfl, rfl⟩ := hq; exact satS (by repeat constructor) (by repeat constructor)) ?_
    rintro _ _ _ ⟨rfl, rfl, rfl⟩
    refine go_call (law13F 1 _ 2 2) rfl rfl (by rfl) rfl (by repeat constructor) (by repeat constructor) (fun _ v Ps' Os' hq => by obtain ⟨rfl, rfl, rfl⟩ := hq; exact satS (by repeat constructor) (by repeat constructor)) ?_
    rintro _ _ _ ⟨rfl, rfl, rfl⟩
    refine go_pure1 Tk rfl rfl rfl ?_
    refine go_bslice Tk rfl rfl rfl rfl rfl rfl rfl rfl (fun _ _ => satA) ?_
    intro bf
    refine go_lit tFa (b := bf) wn14 (by repeat constructor) (fun hp a => ⟨[_, _], _, rfl, tFa_mk (x := (⟨1, [10, 11]⟩ : Fa)) (a (sl tU _ _ [10, 11]) (by repeat constructor)), [_, _], _, rfl, tFa_mk (x := (⟨1, [11, 12]⟩ : Fa)) (a (sl tU _ _ [11, 12]) (by repeat constructor)), [_, _], [], rfl, tFa_mk (x := (⟨1, [12, 13]⟩ : Fa)) (a (sl tU _ _ [12, 13]) (by repeat constructor)), rfl⟩) (by decide) ?_
    refine go_pure1 Tk rfl rfl rfl ?_
    refine go_nil ?_
    refine go_env [(0, _), (1, _)] ⟨rfl, rfl, trivial⟩ ?_
    refine go_ret ⟨rfl, rfl⟩ _ _ (res2 (by rfl) (.tmp rfl) (.tmp rfl)) ⟨_, _, rfl, rfl, rfl⟩ (by repeat constructor) (by repeat constructor)
   refine go_bslice Tk rfl rfl rfl rfl rfl rfl rfl rfl (fun _ _ => satA) ?_
   intro b39
   refine go_lit_int (kk := .u32) [11, 12] (by repeat constructor) (by simp) ?_
   refine go_call (law13F 1 _ 2 2) rfl rfl (by rfl) rfl (by repeat constructor) (by repeat constructor) (fun _ v Ps' Os' hq => by obtain ⟨rfl, rfl, rfl⟩ := hq; exact satS (by repeat constructor) (by repeat constructor)) ?_
   rintro _ _ _ ⟨rfl, rfl, rfl⟩
   refine go_call (law13F 1 _ 2 2) rfl rfl (by rfl) rfl (by repeat constructor) (by repeat constructor) (fun _ v Ps' Os' hq => by obtain ⟨rfl, rfl, rfl⟩ := hq; exact satS (by repeat constructor) (by repeat constructor)) ?_
   rintro _ _ _ ⟨rfl, rfl, rfl⟩
   refine go_call (law13F 1 _ 2 2) rfl rfl (by rfl) rfl (by repeat constructor) (by repeat constructor) (fun _ v Ps' Os' hq => by obtain ⟨rfl, rfl, rfl⟩ := hq; exact satS (by repeat constructor) (by repeat constructor)) ?_
   rintro _ _ _ ⟨rfl, rfl, rfl⟩
   refine go_pure1 Tk rfl rfl rfl ?_
   refine go_bslice Tk rfl rfl rfl rfl rfl rfl rfl rfl (fun _ _ => satA) ?_
   intro bf
   refine go_lit tFa (b := bf) wn14 (by repeat constructor) (fun hp a => ⟨[_, _], _, rfl, tFa_mk (x := (⟨1, [10, 11]⟩ : Fa)) (a (sl tU _ _ [10, 11]) (by repeat constructor)), [_, _], _, rfl, tFa_mk (x := (⟨1, [11, 12]⟩ : Fa)) (a (sl tU _ _ [11, 12]) (by repeat constructor)), [_, _], [], rfl, tFa_mk (x := (⟨1, [12, 13]⟩ : Fa)) (a (sl tU _ _ [12, 13]) (by repeat constructor)), rfl⟩) (by decide) ?_
   refine go_pure1 Tk rfl rfl rfl ?_
   refine go_nil ?_
   refine go_env [(0, _), (1, _)] ⟨rfl, rfl, trivial⟩ ?_
   refine go_ret ⟨rfl, rfl⟩ _ _ (res2 (by rfl) (.tmp rfl) (.tmp rfl)) ⟨_, _, rfl, rfl, rfl⟩ (by repeat constructor) (by repeat constructor)
  refine go_two ?_ ?_
  ·skip
   refine go_call (law13F 1 _ 2 2) rfl rfl (by rfl) rfl (by repeat constructor) (by repeat constructor) (fun _ v Ps' Os' hq => by obtain ⟨rfl, rfl, rfl⟩ := hq; exact satS (by repeat constructor) (by repeat constructor)) ?_
   rintro _ _ _ ⟨rfl, rfl, rfl⟩
   refine go_two ?_ ?_
   ·skip
    refine go_bslice Tk rfl rfl rfl rfl rfl rfl rfl rfl (fun h => nomatch h) ?_
    intro bs
    refine go_lit tCl (b := bs) [wc14] (by repeat constructor) (fun hp a => ⟨[.int .u32 wc14.h.p, .slice (some ⟨u1, 0, none⟩) wc14.h.a.length 2, .slice (some ⟨u5, 0, none⟩) wc14.b.length 2], [], rfl, tCl_mk (a (sl tTm (some ⟨u1, 0, none⟩) 2 wc14.h.a) (by repeat constructor)) (a (sl tLi (some ⟨u5, 0, none⟩) 2 wc14.b) (by repeat constructor)), rfl⟩) (by simp) ?_
    refine go_two ?_ ?_
    ·skip
     refine go_bslice Tk rfl rfl rfl rfl rfl rfl rfl rfl (fun _ _ => satA) ?_
     intro b40
     refine go_lit_int (kk := .u32) [11, 12] (by repeat constructor) (by simp) ?_
     refine go_two ?_ ?_
     ·skip
      refine go_call (law13F 1 _ 2 2) rfl rfl (by rfl) rfl (by repeat constructor) (by repeat constructor) (fun _ v Ps' Os' hq => by obtain ⟨rfl, rfl, rfl⟩ := hq; exact satS (by repeat constructor) (by repeat constructor)) ?_
      rintro _ _ _ ⟨rfl, rfl, rfl⟩
      refine go_bslice Tk rfl rfl rfl rfl rfl rfl rfl rfl (fun _ _ => satA) ?_
      intro b41
      refine go_lit_int (kk := .u32) [12, 13] (by repeat constructor) (by simp) ?_
      refine go_call (law13F 1 _ 2 2) rfl rfl (by rfl) rfl (by repeat constructor) (by repeat constructor) (fun _ v Ps' Os' hq => by obtain ⟨rfl, rfl, rfl⟩ := hq; exact satS (by repeat constructor) (by repeat constructor)) ?_
      rintro _ _ _ ⟨rfl, rfl, rfl⟩
      refine go_pure1 Tk rfl rfl rfl ?_
      refine go_bslice Tk rfl rfl rfl rfl rfl rfl rfl rfl (fun _ _ => satA) ?_
      intro bf
      refine go_lit tFa (b := bf) wn14 (by repeat constructor) (fun hp a => ⟨[_, _], _, rfl, tFa_mk (x := (⟨1, [10, 11]⟩ : Fa)) (a (sl tU _ _ [10, 11]) (by repeat constructor)), [_, _], _, rfl, tFa_mk (x := (⟨1, [11, 12]⟩ : Fa)) (a (sl tU _ _ [11, 12]) (by repeat constructor)), [_, _], [], rfl, tFa_mk (x := (⟨1, [12, 13]⟩ : Fa)) (a (sl tU _ _ [12, 13]) (by repeat constructor)), rfl⟩) (by decide) ?_
      refine go_pure1 Tk rfl rfl rfl ?_
      refine go_nil ?_
      refine go_env [(0, _), (1, _)] ⟨rfl, rfl, trivial⟩ ?_
      refine go_ret ⟨rfl, rfl⟩ _ _ (res2 (by rfl) (.tmp rfl) (.tmp rfl)) ⟨_, _, rfl, rfl, rfl⟩ (by repeat constructor) (by repeat constructor)
     refine go_bslice Tk rfl rfl rfl rfl rfl rfl rfl rfl (fun _ _ => satA) ?_
     intro b42
     refine go_lit_int (kk := .u32) [12, 13] (by repeat constructor) (by simp) ?_
     refine go_call (law13F 1 _ 2 2) rfl rfl (by rfl) rfl (by repeat constructor) (by repeat constructor) (fun _ v Ps' Os' hq => by obtain ⟨rfl, rfl, rfl⟩ := hq; exact satS (by repeat constructor) (by repeat constructor)) ?_
     rintro _ _ _ ⟨rfl, rfl, rfl⟩
     refine go_call (law13F 1 _ 2 2) rfl rfl (by rfl) rfl (by repeat constructor) (by repeat constructor) (fun _ v Ps' Os' hq => by obtain ⟨rfl, rfl, rfl⟩ := hq; exact satS (by repeat constructor) (by repeat constructor)) ?_
     rintro _ _ _ ⟨rfl, rfl, rfl⟩
     refine go_pure1 Tk rfl rfl rfl ?_
     refine go_bslice Tk rfl rfl rfl rfl rfl rfl rfl rfl (fun _ _ => satA) ?_
     intro bf
     refine go_lit tFa (b := bf) wn14 (by repeat constructor) (fun hp a => ⟨[_, _], _, rfl, tFa_mk (x := (⟨1, [10, 11]⟩ : Fa)) (a (sl tU _ _ [10, 11]) (by repeat constructor)), [_, _], _, rfl, tFa_mk (x := (⟨1, [11, 12]⟩ : Fa)) (a (sl tU _ _ [11, 12]) (by repeat constructor)), [_, _], [], rfl, tFa_mk (x := (⟨1, [12, 13]⟩ : Fa)) (a (sl tU _ _ [12, 13]) (by repeat constructor)), rfl⟩) (by decide) ?_
     refine go_pure1 Tk rfl rfl rfl ?_
     refine go_nil ?_
     refine go_env [(0, _), (1, _)] ⟨rfl, rfl, trivial⟩ ?_
     refine go_ret ⟨rfl, rfl⟩ _ _ (res2 (by rfl) (.tmp rfl) (.tmp rfl)) ⟨_, _, rfl, rfl, rfl⟩ (by repeat constructor) (by repeat constructor)
    refine go_bslice Tk rfl rfl rfl rfl rfl rfl rfl rfl (fun _ _ => satA) ?_
    intro b43
    refine go_lit_int (kk := .u32) [12, 13] (by repeat constructor) (by simp) ?_
    refine go_bslice Tk rfl rfl rfl rfl rfl rfl rfl rfl (fun _ _ => satA) ?_
    intro b44
    refine go_lit_int (kk := .u32) [11, 12] (by repeat constructor) (by simp) ?_
    refine go_call (law13F 1 _ 2 2) rfl rfl (by rfl) rfl (by repeat constructor) (by repeat constructor) (fun _ v Ps' Os' hq => by obtain ⟨rfl, rfl, rfl⟩ := hq; exact satS (by repeat constructor) (by repeat constructor)) ?_
    rintro _ _ _ ⟨rfl, rfl, rfl⟩
    refine go_call (law13F 1 _ 2 2) rfl rfl (by rfl) rfl (by repeat constructor) (by repeat constructor) (fun _ v Ps' Os' hq => by obtain ⟨rfl, rfl, rfl⟩ := hq; exact satS (by repeat constructor) (by repeat constructor)) ?_
    rintro _ _ _ ⟨rfl, rfl, rfl⟩
    refine go_pure1 Tk rfl rfl rfl ?_
    refine go_bslice Tk rfl rfl rfl rfl rfl rfl rfl rfl (fun _ _ => satA) ?_
    intro bf
    refine go_lit tFa (b := bf) wn14 (by repeat constructor) (fun hp a => ⟨[_, _], _, rfl, tFa_mk (x := (⟨1, [10, 11]⟩ : Fa)) (a (sl tU _ _ [10, 11]) (by repeat constructor)), [_, _], _, rfl, tFa_mk (x := (⟨1, [11, 12]⟩ : Fa)) (a (sl tU _ _ [11, 12]) (by repeat constructor)), [_, _], [], rfl, tFa_mk (x := (⟨1, [12, 13]⟩ : Fa)) (a (sl tU _ _ [12, 13]) (by repeat constructor)), rfl⟩) (by decide) ?_
    refine go_pure1 Tk rfl rfl rfl ?_
    refine go_nil ?_
    refine go_env [(0, _), (1, _)] ⟨rfl, rfl, trivial⟩ ?_
    refine go_ret ⟨rfl, rfl⟩ _ _ (res2 (by rfl) (.tmp rfl) (.tmp rfl)) ⟨_, _, rfl, rfl, rfl⟩ (by repeat constructor) (by repeat constructor)
   refine go_two ?_ ?_
   ·skip
    refine go_bslice Tk rfl rfl rfl rfl rfl rfl rfl rfl (fun _ _ => satA) ?_
    intro b45
    refine go_lit_int (kk := .u32) [11, 12] (by repeat constructor) (by simp) ?_
    refine go_two ?_ ?_
    ·skip
     refine go_bslice Tk rfl rfl rfl rfl rfl rfl rfl rfl (fun h => nomatch h) ?_
     intro bs
     refine go_lit tCl (b := bs) [wc14] (by repeat constructor) (fun hp a => ⟨[.int .u32 wc14.h.p, .slice (some ⟨u1, 0, none⟩) wc14.h.a.length 2, .slice (some ⟨u5, 0, none⟩) wc14.b.length 2], [], rfl, tCl_mk (a (sl tTm (some ⟨u1, 0, none⟩) 2 wc14.h.a) (by repeat constructor)) (a (sl tLi (some ⟨u5, 0, none⟩) 2 wc14.b) (by repeat constructor)), rfl⟩) (by simp) ?_
     refine go_two ?_ ?_
     ·skip
      refine go_call (law13F 1 _ 2 2) rfl rfl (by rfl) rfl (by repeat constructor) (by repeat constructor) (fun _ v Ps' Os' hq => by obtain ⟨rfl, rfl, rfl⟩ := hq; exact satS (by repeat constructor) (by repeat constructor)) ?_
      rintro _ _ _ ⟨rfl, rfl, rfl⟩
      refine go_bslice Tk rfl rfl rfl rfl rfl rfl rfl rfl (fun _ _ => satA) ?_
      intro b46
      refine go_lit_int (kk := .u32) [12, 13] (by repeat constructor) (by simp) ?_
      refine go_call (law13F 1 _ 2 2) rfl rfl (by rfl) rfl (by repeat constructor) (by repeat constructor) (fun _ v Ps' Os' hq => by obtain ⟨rfl, rfl, rfl⟩ := hq; exact satS (by repeat constructor) (by repeat constructor)) ?_
      rintro _ _ _ ⟨rfl, rfl, rfl⟩
      refine go_pure1 Tk rfl rfl rfl ?_
      refine go_bslice Tk rfl rfl rfl rfl rfl rfl rfl rfl (fun _ _ => satA) ?_
      intro bf
      refine go_lit tFa (b := bf) wn14 (by repeat constructor) (fun hp a => ⟨[_, _], _, rfl, tFa_mk (x := (⟨1, [10, 11]⟩ : Fa)) (a (sl tU _ _ [10, 11]) (by repeat constructor)), [_, _], _, rfl, tFa_mk (x := (⟨1, [11, 12]⟩ : Fa)) (a (sl tU _ _ [11, 12]) (by repeat constructor)), [_, _], [], rfl, tFa_mk (x := (⟨1, [12, 13]⟩ : Fa)) (a (sl tU _ _ [12, 13]) (by repeat constructor)), rfl⟩) (by decide) ?_
      refine go_pure1 Tk rfl rfl rfl ?_
      refine go_nil ?_
      refine go_env [(0, _), (1, _)] ⟨rfl, rfl, trivial⟩ ?_
      refine go_ret ⟨rfl, rfl⟩ _ _ (res2 (by rfl) (.tmp rfl) (.tmp rfl)) ⟨_, _, rfl, rfl, rfl⟩ (by repeat constructor) (by repeat constructor)
     refine go_bslice Tk rfl rfl rfl rfl rfl rfl rfl rfl (fun _ _ => satA) ?_
     intro b47
     refine go_lit_int (kk := .u32) [12, 13] (by repeat constructor) (by simp) ?_
     refine go_call (law13F 1 _ 2 2) rfl rfl (by rfl) rfl (by repeat constructor) (by repeat constructor) (fun _ v Ps' Os' hq => by obtain ⟨rfl, rfl, rfl⟩ := hq; exact satS (by repeat constructor) (by repeat constructor)) ?_
     rintro _ _ _ ⟨rfl, rfl, rfl⟩
     refine go_call (law13F 1 _ 2 2) rfl rfl (by rfl) rfl (by repeat constructor) (by repeat constructor) (fun _ v Ps' Os' hq => by obtain ⟨rfl, rfl, rfl⟩ := hq; exact satS (by repeat constructor) (by repeat constructor)) ?_
     rintro _ _ _ ⟨rfl, rfl, rfl⟩
     refine go_pure1 Tk rfl rfl rfl ?_
     refine go_bslice Tk rfl rfl rfl rfl rfl rfl rfl rfl (fun _ _ => satA) ?_
     intro bf
     refine go_lit tFa (b := bf) wn14 (by repeat constructor) (fun hp a => ⟨[_, _], _, rfl, tFa_mk (x := (⟨1, [10, 11]⟩ : Fa)) (a (sl tU _ _ [10, 11]) (by repeat constructor)), [_, _], _, rfl, tFa_mk (x := (⟨1, [11, 12]⟩ : Fa)) (a (sl tU _ _ [11, 12]) (by repeat constructor)), [_, _], [], rfl, tFa_mk (x := (⟨1, [12, 13]⟩ : Fa)) (a (sl tU _ _ [12, 13]) (by repeat constructor)), rfl⟩) (by decide) ?_
     refine go_pure1 Tk rfl rfl rfl ?_
     refine go_nil ?_
     refine go_env [(0, _), (1, _)] ⟨rfl, rfl, trivial⟩ ?_
     refine go_ret ⟨rfl, rfl⟩ _ _ (res2 (by rfl) (.tmp rfl) (.tmp rfl)) ⟨_, _, rfl, rfl, rfl⟩ (by repeat constructor) (by repeat constructor)
    refine go_two ?_ ?_
    ·skip
     refine go_call (law13F 1 _ 2 2) rfl rfl (by rfl) rfl (by repeat constructor) (by repeat constructor) (fun _ v Ps' Os' hq => by obtain ⟨rfl, rfl, rfl⟩ := hq; exact satS (by repeat constructor) (by repeat constructor)) ?_
     rintro _ _ _ ⟨rfl, rfl, rfl⟩
     refine go_two ?_ ?_
     ·skip
      refine go_bslice Tk rfl rfl rfl rfl rfl rfl rfl rfl (fun h => nomatch h) ?_
      intro bs
      refine go_lit tCl (b := bs) [wc14] (by repeat constructor) (fun hp a => ⟨[.int .u32 wc14.h.p, .slice (some ⟨u1, 0, none⟩) wc14.h.a.length 2, .slice (some ⟨u5, 0, none⟩) wc14.b.length 2], [], rfl, tCl_mk (a (sl tTm (some ⟨u1, 0, none⟩) 2 wc14.h.a) (by repeat constructor)) (a (sl tLi (some ⟨u5, 0, none⟩) 2 wc14.b) (by repeat constructor)), rfl⟩) (by simp) ?_
      refine go_bslice Tk rfl rfl rfl rfl rfl rfl rfl rfl (fun _ _ => satA) ?_
      intro b48
      refine go_lit_int (kk := .u32) [12, 13] (by repeat constructor) (by simp) ?_
      refine go_call (law13F 1 _ 2 2) rfl rfl (by rfl) rfl (by repeat constructor) (by repeat constructor) (fun _ v Ps' Os' hq => by obtain ⟨rfl, rfl, rfl⟩ := hq; exact satS (by repeat constructor) (by repeat constructor)) ?_
      rintro _ _ _ ⟨rfl, rfl, rfl⟩
      refine go_pure1 Tk rfl rfl rfl ?_
      refine go_bslice Tk rfl rfl rfl rfl rfl rfl rfl rfl (fun _ _ => satA) ?_
      intro bf
      refine go_lit tFa (b := bf) wn14 (by repeat constructor) (fun hp a => ⟨[_, _], _, rfl, tFa_mk (x := (⟨1, [10, 11]⟩ : Fa)) (a (sl tU _ _ [10, 11]) (by repeat constructor)), [_, _], _, rfl, tFa_mk (x := (⟨1, [11, 12]⟩ : Fa)) (a (sl tU _ _ [11, 12]) (by repeat constructor)), [_, _], [], rfl, tFa_mk (x := (⟨1, [12, 13]⟩ : Fa)) (a (sl tU _ _ [12, 13]) (by repeat constructor)), rfl⟩) (by decide) ?_
      refine go_pure1 Tk rfl rfl rfl ?_
      refine go_nil ?_
      refine go_env [(0, _), (1, _)] ⟨rfl, rfl, trivial⟩ ?_
      refine go_ret ⟨rfl, rfl⟩ _ _ (res2 (by rfl) (.tmp rfl) (.tmp rfl)) ⟨_, _, rfl, rfl, rfl⟩ (by repeat constructor) (by repeat constructor)
     refine go_bslice Tk rfl rfl rfl rfl rfl rfl rfl rfl (fun _ _ => satA) ?_
     intro b49
     refine go_lit_int (kk := .u32) [12, 13] (by repeat constructor) (by simp) ?_
     refine go_two ?_ ?_
     ·skip
      refine go_bslice Tk rfl rfl rfl rfl rfl rfl rfl rfl (fun h => nomatch h) ?_
      intro bs
      refine go_lit tCl (b := bs) [wc14] (by repeat constructor) (fun hp a => ⟨[.int .u32 wc14.h.p, .slice (some ⟨u1, 0, none⟩) wc14.h.a.length 2, .slice (some ⟨u5, 0, none⟩) wc14.b.length 2], [], rfl, tCl_mk (a (sl tTm (some ⟨u1, 0, none⟩) 2 wc14.h.a) (by repeat constructor)) (a (sl tLi (some ⟨u5, 0, none⟩) 2 wc14.b) (by repeat constructor)), rfl⟩) (by simp) ?_
      refine go_call (law13F 1 _ 2 2) rfl rfl (by rfl) rfl (by repeat constructor) (by repeat constructor) (fun _ v Ps' Os' hq => by obtain ⟨rfl, rfl, rfl⟩ := hq; exact satS (by repeat constructor) (by repeat constructor)) ?_
      rintro _ _ _ ⟨rfl, rfl, rfl⟩
      refine go_pure1 Tk rfl rfl rfl ?_
      refine go_bslice Tk rfl rfl rfl rfl rfl rfl rfl rfl (fun _ _ => satA) ?_
      intro bf
      refine go_lit tFa (b := bf) wn14 (by repeat constructor) (fun hp a => ⟨[_, _], _, rfl, tFa_mk (x := (⟨1, [10, 11]⟩ : Fa)) (a (sl tU _ _ [10, 11]) (by repeat constructor)), [_, _], _, rfl, tFa_mk (x := (⟨1, [11, 12]⟩ : Fa)) (a (sl tU _ _ [11, 12]) (by repeat constructor)), [_, _], [], rfl, tFa_mk (x := (⟨1, [12, 13]⟩ : Fa)) (a (sl tU _ _ [12, 13]) (by repeat constructor)), rfl⟩) (by decide) ?_
      refine go_pure1 Tk rfl rfl rfl ?_
      refine go_nil ?_
      refine go_env [(0, _), (1, _)] ⟨rfl, rfl, trivial⟩ ?_
      refine go_ret ⟨rfl, rfl⟩ _ _ (res2 (by rfl) (.tmp rfl) (.tmp rfl)) ⟨_, _, rfl, rfl, rfl⟩ (by repeat constructor) (by repeat constructor)
     refine go_call (law13F 1 _ 2 2) rfl rfl (by rfl) rfl (by repeat constructor) (by repeat constructor) (fun _ v Ps' Os' hq => by obtain ⟨rfl, rfl, rfl⟩ := hq; exact satS (by repeat constructor) (by repeat constructor)) ?_
     rintro _ _ _ ⟨rfl, rfl, rfl⟩
     refine go_two ?_ ?_
     ·skip
      refine go_bslice Tk rfl rfl rfl rfl rfl rfl rfl rfl (fun h => nomatch h) ?_
      intro bs
      refine go_lit tCl (b := bs) [wc14] (by repeat constructor) (fun hp a => ⟨[.int .u32 wc14.h.p, .slice (some ⟨u1, 0, none⟩) wc14.h.a.length 2, .slice (some ⟨u5, 0, none⟩) wc14.b.length 2], [], rfl, tCl_mk (a (sl tTm (some ⟨u1, 0, none⟩) 2 wc14.h.a) (by repeat constructor)) (a (sl tLi (some ⟨u5, 0, none⟩) 2 wc14.b) (by repeat constructor)), rfl⟩) (by simp) ?_
      refine go_pure1 Tk rfl rfl rfl ?_
      refine go_bslice Tk rfl rfl rfl rfl rfl rfl rfl rfl (fun _ _ => satA) ?_
      intro bf
      refine go_lit tFa (b := bf) wn14 (by repeat constructor) (fun hp a => ⟨[_, _], _, rfl, tFa_mk (x := (⟨1, [10, 11]⟩ : Fa)) (a (sl tU _ _ [10, 11]) (by repeat constructor)), [_, _], _, rfl, tFa_mk (x := (⟨1, [11, 12]⟩ : Fa)) (a (sl tU _ _ [11, 12]) (by repeat constructor)), [_, _], [], rfl, tFa_mk (x := (⟨1, [12, 13]⟩ : Fa)) (a (sl tU _ _ [12, 13]) (by repeat constructor)), rfl⟩) (by decide) ?_
      refine go_pure1 Tk rfl rfl rfl ?_
      refine go_nil ?_
      refine go_env [(0, _), (1, _)] ⟨rfl, rfl, trivial⟩ ?_
      refine go_ret ⟨rfl, rfl⟩ _ _ (res2 (by rfl) (.tmp rfl) (.tmp rfl)) ⟨_, _, rfl, rfl, rfl⟩ (by repeat constructor) (by repeat constructor)
     refine go_bslice Tk rfl rfl rfl rfl rfl rfl rfl rfl (fun _ _ => satA) ?_
     intro bf
     refine go_lit tFa (b := bf) wn14 (by repeat constructor) (fun hp a => ⟨[_, _], _, rfl, tFa_mk (x := (⟨1, [10, 11]⟩ : Fa)) (a (sl tU _ _ [10, 11]) (by repeat constructor)), [_, _], _, rfl, tFa_mk (x := (⟨1, [11, 12]⟩ : Fa)) (a (sl tU _ _ [11, 12]) (by repeat constructor)), [_, _], [], rfl, tFa_mk (x := (⟨1, [12, 13]⟩ : Fa)) (a (sl tU _ _ [12, 13]) (by repeat constructor)), rfl⟩) (by decide) ?_
     refine go_bslice Tk rfl rfl rfl rfl rfl rfl rfl rfl (fun h => nomatch h) ?_
     intro bs
     refine go_lit tCl (b := bs) [wc14] (by repeat constructor) (fun hp a => ⟨[.int .u32 wc14.h.p, .slice (some ⟨u1, 0, none⟩) wc14.h.a.length 2, .slice (some ⟨u5, 0, none⟩) wc14.b.length 2], [], rfl, tCl_mk (a (sl tTm (some ⟨u1, 0, none⟩) 2 wc14.h.a) (by repeat constructor)) (a (sl tLi (some ⟨u5, 0, none⟩) 2 wc14.b) (by repeat constructor)), rfl⟩) (by simp) ?_
     iterate 2 refine go_pure1 Tk rfl rfl rfl ?_
     refine go_nil ?_
     refine go_env [(0, _), (1, _)] ⟨rfl, rfl, trivial⟩ ?_
     refine go_ret ⟨rfl, rfl⟩ _ _ (res2 (by rfl) (.tmp rfl) (.tmp rfl)) ⟨_, _, rfl, rfl, rfl⟩ (by repeat constructor) (by repeat constructor)
    refine go_bslice Tk rfl rfl rfl rfl rfl rfl rfl rfl (fun _ _ => satA) ?_
    intro b50
    refine go_lit_int (kk := .u32) [12, 13] (by repeat constructor) (by simp) ?_
    refine go_two ?_ ?_
    ·skip
     refine go_bslice Tk rfl rfl rfl rfl rfl rfl rfl rfl (fun h => nomatch h) ?_
     intro bs
     refine go_lit tCl (b := bs) [wc14] (by repeat constructor) (fun hp a => ⟨[.int .u32 wc14.h.p, .slice (some ⟨u1, 0, none⟩) wc14.h.a.length 2, .slice (some ⟨u5, 0, none⟩) wc14.b.length 2], [], rfl, tCl_mk (a (sl tTm (some ⟨u1, 0, none⟩) 2 wc14.h.a) (by repeat constructor)) (a (sl tLi (some ⟨u5, 0, none⟩) 2 wc14.b) (by repeat constructor)), rfl⟩) (by simp) ?_
     refine go_call (law13F 1 _ 2 2) rfl rfl (by rfl) rfl (by repeat constructor) (by repeat constructor) (fun _ v Ps' Os' hq => by obtain ⟨rfl, rfl, rfl⟩ := hq; exact satS (by repeat constructor) (by repeat constructor)) ?_
     rintro _ _ _ ⟨rfl, rfl, rfl⟩
     refine go_call (law13F 1 _ 2 2) rfl rfl (by rfl) rfl (by repeat constructor) (by repeat constructor) (fun _ v Ps' Os' hq => by obtain ⟨rfl, rfl, rfl⟩ := hq; exact satS (by repeat constructor) (by repeat constructor)) ?_
     rintro _ _ _ ⟨rfl, rfl, rfl⟩
     refine go_pure1 Tk rfl rfl rfl ?_
     refine go_bslice Tk rfl rfl rfl rfl rfl rfl rfl rfl (fun _ _ => satA) ?_
     intro bf
     refine go_lit tFa (b := bf) wn14 (by repeat constructor) (fun hp a => ⟨[_, _], _, rfl, tFa_mk (x := (⟨1, [10, 11]⟩ : Fa)) (a (sl tU _ _ [10, 11]) (by repeat constructor)), [_, _], _, rfl, tFa_mk (x := (⟨1, [11, 12]⟩ : Fa)) (a (sl tU _ _ [11, 12]) (by repeat constructor)), [_, _], [], rfl, tFa_mk (x := (⟨1, [12, 13]⟩ : Fa)) (a (sl tU _ _ [12, 13]) (by repeat constructor)), rfl⟩) (by decide) ?_
     refine go_pure1 Tk rfl rfl rfl ?_
     refine go_nil ?_
     refine go_env [(0, _), (1, _)] ⟨rfl, rfl, trivial⟩ ?_
     refine go_ret ⟨rfl, rfl⟩ _ _ (res2 (by rfl) (.tmp rfl) (.tmp rfl)) ⟨_, _, rfl, rfl, rfl⟩ (by repeat constructor) (by repeat constructor)
    refine go_call (law13F 1 _ 2 2) rfl rfl (by rfl) rfl (by repeat constructor) (by repeat constructor) (fun _ v Ps' Os' hq => by obtain ⟨rfl, rfl, rfl⟩ := hq; exact satS (by repeat constructor) (by repeat constructor)) ?_
    rintro _ _ _ ⟨rfl, rfl, rfl⟩
    refine go_two ?_ ?_
    ·skip
     refine go_bslice Tk rfl rfl rfl rfl rfl rfl rfl rfl (fun h => nomatch h) ?_
     intro bs
     refine go_lit tCl (b := bs) [wc14] (by repeat constructor) (fun hp a => ⟨[.int .u32 wc14.h.p, .slice (some ⟨u1, 0, none⟩) wc14.h.a.length 2, .slice (some ⟨u5, 0, none⟩) wc14.b.length 2], [], rfl, tCl_mk (a (sl tTm (some ⟨u1, 0, none⟩) 2 wc14.h.a) (by repeat constructor)) (a (sl tLi (some ⟨u5, 0, none⟩) 2 wc14.b) (by repeat constructor)), rfl⟩) (by simp) ?_
     refine go_call (law13F 1 _ 2 2) rfl rfl (by rfl) rfl (by repeat constructor) (by repeat constructor) (fun _ v Ps' Os' hq => by obtain ⟨rfl, rfl, rfl⟩ := hq; exact satS (by repeat constructor) (by repeat constructor)) ?_
     rintro _ _ _ ⟨rfl, rfl, rfl⟩
     refine go_pure1 Tk rfl rfl rfl ?_
     refine go_bslice Tk rfl rfl rfl rfl rfl rfl rfl rfl (fun _ _ => satA) ?_
     intro bf
     refine go_lit tFa (b := bf) wn14 (by repeat constructor) (fun hp a => ⟨[_, _], _, rfl, tFa_mk (x := (⟨1, [10, 11]⟩ : Fa)) (a (sl tU _ _ [10, 11]) (by repeat constructor)), [_, _], _, rfl, tFa_mk (x := (⟨1, [11, 12]⟩ : Fa)) (a (sl tU _ _ [11, 12]) (by repeat constructor)), [_, _], [], rfl, tFa_mk (x := (⟨1, [12, 13]⟩ : Fa)) (a (sl tU _ _ [12, 13]) (by repeat constructor)), rfl⟩) (by decide) ?_
     refine go_pure1 Tk rfl rfl rfl ?_
     refine go_nil ?_
     refine go_env [(0, _), (1, _)] ⟨rfl, rfl, trivial⟩ ?_
     refine go_ret ⟨rfl, rfl⟩ _ _ (res2 (by rfl) (.tmp rfl) (.tmp rfl)) ⟨_, _, rfl, rfl, rfl⟩ (by repeat constructor) (by repeat constructor)
    refine go_call (law13F 1 _ 2 2) rfl rfl (by rfl) rfl (by repeat constructor) (by repeat constructor) (fun _ v Ps' Os' hq => by obtain ⟨rfl, rfl, rfl⟩ := hq; exact satS (by repeat constructor) (by repeat constructor)) ?_
    rintro _ _ _ ⟨rfl, rfl, rfl⟩
    refine go_two ?_ ?_
    ·skip
     refine go_bslice Tk rfl rfl rfl rfl rfl rfl rfl rfl (fun h => nomatch h) ?_
     intro bs
     refine go_lit tCl (b := bs) [wc14] (by repeat constructor) (fun hp a => ⟨[.int .u32 wc14.h.p, .slice (some ⟨u1, 0, none⟩) wc14.h.a.length 2, .slice (some ⟨u5, 0, none⟩) wc14.b.length 2], [], rfl, tCl_mk (a (sl tTm (some ⟨u1, 0, none⟩) 2 wc14.h.a) (by repeat constructor)) (a (sl tLi (some ⟨u5, 0, none⟩) 2 wc14.b) (by repeat constructor)), rfl⟩) (by simp) ?_
     refine go_pure1 Tk rfl rfl rfl ?_
     refine go_bslice Tk rfl rfl rfl rfl rfl rfl rfl rfl (fun _ _ => satA) ?_
     intro bf
     refine go_lit tFa (b := bf) wn14 (by repeat constructor) (fun hp a => ⟨[_, _], _, rfl, tFa_mk (x := (⟨1, [10, 11]⟩ : Fa)) (a (sl tU _ _ [10, 11]) (by repeat constructor)), [_, _], _, rfl, tFa_mk (x := (⟨1, [11, 12]⟩ : Fa)) (a (sl tU _ _ [11, 12]) (by repeat constructor)), [_, _], [], rfl, tFa_mk (x := (⟨1, [12, 13]⟩ : Fa)) (a (sl tU _ _ [12, 13]) (by repeat constructor)), rfl⟩) (by decide) ?_
     refine go_pure1 Tk rfl rfl rfl ?_
     refine go_nil ?_
     refine go_env [(0, _), (1, _)] ⟨rfl, rfl, trivial⟩ ?_
     refine go_ret ⟨rfl, rfl⟩ _ _ (res2 (by rfl) (.tmp rfl) (.tmp rfl)) ⟨_, _, rfl, rfl, rfl⟩ (by repeat constructor) (by repeat constructor)
    refine go_bslice Tk rfl rfl rfl rfl rfl rfl rfl rfl (fun _ _ => satA) ?_
    intro bf
    refine go_lit tFa (b := bf) wn14 (by repeat constructor) (fun hp a => ⟨[_, _], _, rfl, tFa_mk (x := (⟨1, [10, 11]⟩ : Fa)) (a (sl tU _ _ [10, 11]) (by repeat constructor)), [_, _], _, rfl, tFa_mk (x := (⟨1, [11, 12]⟩ : Fa)) (a (sl tU _ _ [11, 12]) (by repeat constructor)), [_, _], [], rfl, tFa_mk (x := (⟨1, [12, 13]⟩ : Fa)) (a (sl tU _ _ [12, 13]) (by repeat constructor)), rfl⟩) (by decide) ?_
    refine go_bslice Tk rfl rfl rfl rfl rfl rfl rfl rfl (fun h => nomatch h) ?_
    intro bs
    refine go_lit tCl (b := bs) [wc14] (by repeat constructor) (fun hp a => ⟨[.int .u32 wc14.h.p, .slice (some ⟨u1, 0, none⟩) wc14.h.a.length 2, .slice (some ⟨u5, 0, none⟩) wc14.b.length 2], [], rfl, tCl_mk (a (sl tTm (some ⟨u1, 0, none⟩) 2 wc14.h.a) (by repeat constructor)) (a (sl tLi (some ⟨u5, 0, none⟩) 2 wc14.b) (by repeat constructor)), rfl⟩) (by simp) ?_
    iterate 2 refine go_pure1 Tk rfl rfl rfl ?_
    refine go_nil ?_
    refine go_env [(0, _), (1, _)] ⟨rfl, rfl, trivial⟩ ?_
    refine go_ret ⟨rfl, rfl⟩ _ _ (res2 (by rfl) (.tmp rfl) (.tmp rfl)) ⟨_, _, rfl, rfl, rfl⟩ (by repeat constructor) (by repeat constructor)
   refine go_bslice Tk rfl rfl rfl rfl rfl rfl rfl rfl (fun _ _ => satA) ?_
   intro b51
   refine go_lit_int (kk := .u32) [12, 13] (by repeat constructor) (by simp) ?_
   refine go_two ?_ ?_
   ·skip
    refine go_bslice Tk rfl rfl rfl rfl rfl rfl rfl rfl (fun h => nomatch h) ?_
    intro bs
    refine go_lit tCl (b := bs) [wc14] (by repeat constructor) (fun hp a => ⟨[.int .u32 wc14.h.p, .slice (some ⟨u1, 0, none⟩) wc14.h.a.length 2, .slice (some ⟨u5, 0, none⟩) wc14.b.length 2], [], rfl, tCl_mk (a (sl tTm (some ⟨u1, 0, none⟩) 2 wc14.h.a) (by repeat constructor)) (a (sl tLi (some ⟨u5, 0, none⟩) 2 wc14.b) (by repeat constructor)), rfl⟩) (by simp) ?_
    refine go_bslice Tk rfl rfl rfl rfl rfl rfl rfl rfl (fun _ _ => satA) ?_
    intro b52
    refine go_lit_int (kk := .u32) [11, 12] (by repeat constructor) (by simp) ?_
    refine go_call (law13F 1 _ 2 2) rfl rfl (by rfl) rfl (by repeat constructor) (by repeat constructor) (fun _ v Ps' Os' hq => by obtain ⟨rfl, rfl, rfl⟩ := hq; exact satS (by repeat constructor) (by repeat constructor)) ?_
    rintro _ _ _ ⟨rfl, rfl, rfl⟩
    refine go_call (law13F 1 _ 2 2) rfl rfl (by rfl) rfl (by repeat constructor) (by repeat constructor) (fun _ v Ps' Os' hq => by obtain ⟨rfl, rfl, rfl⟩ := hq; exact satS (by repeat constructor) (by repeat constructor)) ?_
    rintro _ _ _ ⟨rfl, rfl, rfl⟩
    refine go_pure1 Tk rfl rfl rfl ?_
    refine go_bslice Tk rfl rfl rfl rfl rfl rfl rfl rfl (fun _ _ => satA) ?_
    intro bf
    refine go_lit tFa (b := bf) wn14 (by repeat constructor) (fun hp a => ⟨[_, _], _, rfl, tFa_mk (x := (⟨1, [10, 11]⟩ : Fa)) (a (sl tU _ _ [10, 11]) (by repeat constructor)), [_, _], _, rfl, tFa_mk (x := (⟨1, [11, 12]⟩ : Fa)) (a (sl tU _ _ [11, 12]) (by repeat constructor)), [_, _], [], rfl, tFa_mk (x := (⟨1, [12, 13]⟩ : Fa)) (a (sl tU _ _ [12, 13]) (by repeat constructor)), rfl⟩) (by decide) ?_
    refine go_pure1 Tk rfl rfl rfl ?_
    refine go_nil ?_
    refine go_env [(0, _), (1, _)] ⟨rfl, rfl, trivial⟩ ?_
    refine go_ret ⟨rfl, rfl⟩ _ _ (res2 (by rfl) (.tmp rfl) (.tmp rfl)) ⟨_, _, rfl, rfl, rfl⟩ (by repeat constructor) (by repeat constructor)
   refine go_bslice Tk rfl rfl rfl rfl rfl rfl rfl rfl (fun _ _ => satA) ?_
   intro b53
   refine go_lit_int (kk := .u32) [11, 12] (by repeat constructor) (by simp) ?_
   refine go_two ?_ ?_
   ·skip
    refine go_bslice Tk rfl rfl rfl rfl rfl rfl rfl rfl (fun h => nomatch h) ?_
    intro bs
    refine go_lit tCl (b := bs) [wc14] (by repeat constructor) (fun hp a => ⟨[.int .u32 wc14.h.p, .slice (some ⟨u1, 0, none⟩) wc14.h.a.length 2, .slice (some ⟨u5, 0, none⟩) wc14.b.length 2], [], rfl, tCl_mk (a (sl tTm (some ⟨u1, 0, none⟩) 2 wc14.h.a) (by repeat constructor)) (a (sl tLi (some ⟨u5, 0, none⟩) 2 wc14.b) (by repeat constructor)), rfl⟩) (by simp) ?_
    refine go_call (law13F 1 _ 2 2) rfl rfl (by rfl) rfl (by repeat constructor) (by repeat constructor) (fun _ v Ps' Os' hq => by obtain ⟨rfl, rfl, rfl⟩ := hq; exact satS (by repeat constructor) (by repeat constructor)) ?_
    rintro _ _ _ ⟨rfl, rfl, rfl⟩
    refine go_call (law13F 1 _ 2 2) rfl rfl (by rfl) rfl (by repeat constructor) (by repeat constructor) (fun _ v Ps' Os' hq => by obtain ⟨rfl, rfl, rfl⟩ := hq; exact satS (by repeat constructor) (by repeat constructor)) ?_
    rintro _ _ _ ⟨rfl, rfl, rfl⟩
    refine go_pure1 Tk rfl rfl rfl ?_
    refine go_bslice Tk rfl rfl rfl rfl rfl rfl rfl rfl (fun _ _ => satA) ?_
    intro bf
    refine go_lit tFa (b := bf) wn14 (by repeat constructor) (fun hp a => ⟨[_, _], _, rfl, tFa_mk (x := (⟨1, [10, 11]⟩ : Fa)) (a (sl tU _ _ [10, 11]) (by repeat constructor)), [_, _], _, rfl, tFa_mk (x := (⟨1, [11, 12]⟩ : Fa)) (a (sl tU _ _ [11, 12]) (by repeat constructor)), [_, _], [], rfl, tFa_mk (x := (⟨1, [12, 13]⟩ : Fa)) (a (sl tU _ _ [12, 13]) (by repeat constructor)), rfl⟩) (by decide) ?_
    refine go_pure1 Tk rfl rfl rfl ?_
    refine go_nil ?_
    refine go_env [(0, _), (1, _)] ⟨rfl, rfl, trivial⟩ ?_
    refine go_ret ⟨rfl, rfl⟩ _ _ (res2 (by rfl) (.tmp rfl) (.tmp rfl)) ⟨_, _, rfl, rfl, rfl⟩ (by repeat constructor) (by repeat constructor)
   refine go_call (law13F 1 _ 2 2) rfl rfl (by rfl) rfl (by repeat constructor) (by repeat constructor) (fun _ v Ps' Os' hq => by obtain ⟨rfl, rfl, rfl⟩ := hq; exact satS (by repeat constructor) (by repeat constructor)) ?_
   rintro _ _ _ ⟨rfl, rfl, rfl⟩
   refine go_two ?_ ?_
   ·skip
    refine go_bslice Tk rfl rfl rfl rfl rfl rfl rfl rfl (fun h => nomatch h) ?_
    intro bs
    refine go_lit tCl (b := bs) [wc14] (by repeat constructor) (fun hp a => ⟨[.int .u32 wc14.h.p, .slice (some ⟨u1, 0, none⟩) wc14.h.a.length 2, .slice (some ⟨u5, 0, none⟩) wc14.b.length 2], [], rfl, tCl_mk (a (sl tTm (some ⟨u1, 0, none⟩) 2 wc14.h.a) (by repeat constructor)) (a (sl tLi (some ⟨u5, 0, none⟩) 2 wc14.b) (by repeat constructor)), rfl⟩) (by simp) ?_
    refine go_call (law13F 1 _ 2 2) rfl rfl (by rfl) rfl (by repeat constructor) (by repeat constructor) (fun _ v Ps' Os' hq => by obtain ⟨rfl, rfl, rfl⟩ := hq; exact satS (by repeat constructor) (by repeat constructor)) ?_
    rintro _ _ _ ⟨rfl, rfl, rfl⟩
    refine go_pure1 Tk rfl rfl rfl ?_
    refine go_bslice Tk rfl rfl rfl rfl rfl rfl rfl rfl (fun _ _ => satA) ?_
    intro bf
    refine go_lit tFa (b := bf) wn14 (by repeat constructor) (fun hp a => ⟨[_, _], _, rfl, tFa_mk (x := (⟨1, [10, 11]⟩ : Fa)) (a (sl tU _ _ [10, 11]) (by repeat constructor)), [_, _], _, rfl, tFa_mk (x := (⟨1, [11, 12]⟩ : Fa)) (a (sl tU _ _ [11, 12]) (by repeat constructor)), [_, _], [], rfl, tFa_mk (x := (⟨1, [12, 13]⟩ : Fa)) (a (sl tU _ _ [12, 13]) (by repeat constructor)), rfl⟩) (by decide) ?_
    refine go_pure1 Tk rfl rfl rfl ?_
    refine go_nil ?_
    refine go_env [(0, _), (1, _)] ⟨rfl, rfl, trivial⟩ ?_
    refine go_ret ⟨rfl, rfl⟩ _ _ (res2 (by rfl) (.tmp rfl) (.tmp rfl)) ⟨_, _, rfl, rfl, rfl⟩ (by repeat constructor) (by repeat constructor)
   refine go_call (law13F 1 _ 2 2) rfl rfl (by rfl) rfl (by repeat constructor) (by repeat constructor) (fun _ v Ps' Os' hq => by obtain ⟨rfl, rfl, rfl⟩ := hq; exact satS (by repeat constructor) (by repeat constructor)) ?_
   rintro _ _ _ ⟨rfl, rfl, rfl⟩
   refine go_two ?_ ?_
   ·skip
    refine go_bslice Tk rfl rfl rfl rfl rfl rfl rfl rfl (fun h => nomatch h) ?_
    intro bs
    refine go_lit tCl (b := bs) [wc14] (by repeat constructor) (fun hp a => ⟨[.int .u32 wc14.h.p, .slice (some ⟨u1, 0, none⟩) wc14.h.a.length 2, .slice (some ⟨u5, 0, none⟩) wc14.b.length 2], [], rfl, tCl_mk (a (sl tTm (some ⟨u1, 0, none⟩) 2 wc14.h.a) (by repeat constructor)) (a (sl tLi (some ⟨u5, 0, none⟩) 2 wc14.b) (by repeat constructor)), rfl⟩) (by simp) ?_
    refine go_pure1 Tk rfl rfl rfl ?_
    refine go_bslice Tk rfl rfl rfl rfl rfl rfl rfl rfl (fun _ _ => satA) ?_
    intro bf
    refine go_lit tFa (b := bf) wn14 (by repeat constructor) (fun hp a => ⟨[_, _], _, rfl, tFa_mk (x := (⟨1, [10, 11]⟩ : Fa)) (a (sl tU _ _ [10, 11]) (by repeat constructor)), [_, _], _, rfl, tFa_mk (x := (⟨1, [11, 12]⟩ : Fa)) (a (sl tU _ _ [11, 12]) (by repeat constructor)), [_, _], [], rfl, tFa_mk (x := (⟨1, [12, 13]⟩ : Fa)) (a (sl tU _ _ [12, 13]) (by repeat constructor)), rfl⟩) (by decide) ?_
    refine go_pure1 Tk rfl rfl rfl ?_
    refine go_nil ?_
    refine go_env [(0, _), (1, _)] ⟨rfl, rfl, trivial⟩ ?_
    refine go_ret ⟨rfl, rfl⟩ _ _ (res2 (by rfl) (.tmp rfl) (.tmp rfl)) ⟨_, _, rfl, rfl, rfl⟩ (by repeat constructor) (by repeat constructor)
   refine go_bslice Tk rfl rfl rfl rfl rfl rfl rfl rfl (fun _ _ => satA) ?_
   intro bf
   refine go_lit tFa (b := bf) wn14 (by repeat constructor) (fun hp a => ⟨[_, _], _, rfl, tFa_mk (x := (⟨1, [10, 11]⟩ : Fa)) (a (sl tU _ _ [10, 11]) (by repeat constructor)), [_, _], _, rfl, tFa_mk (x := (⟨1, [11, 12]⟩ : Fa)) (a (sl tU _ _ [11, 12]) (by repeat constructor)), [_, _], [], rfl, tFa_mk (x := (⟨1, [12, 13]⟩ : Fa)) (a (sl tU _ _ [12, 13]) (by repeat constructor)), rfl⟩) (by decide) ?_
   refine go_bslice Tk rfl rfl rfl rfl rfl rfl rfl rfl (fun h => nomatch h) ?_
   intro bs
   refine go_lit tCl (b := bs) [wc14] (by repeat constructor) (fun hp a => ⟨[.int .u32 wc14.h.p, .slice (some ⟨u1, 0, none⟩) wc14.h.a.length 2, .slice (some ⟨u5, 0, none⟩) wc14.b.length 2], [], rfl, tCl_mk (a (sl tTm (some ⟨u1, 0, none⟩) 2 wc14.h.a) (by repeat constructor)) (a (sl tLi (some ⟨u5, 0, none⟩) 2 wc14.b) (by repeat constructor)), rfl⟩) (by simp) ?_
   iterate 2 refine go_pure1 Tk rfl rfl rfl ?_
   refine go_nil ?_
   refine go_env [(0, _), (1, _)] ⟨rfl, rfl, trivial⟩ ?_
   refine go_ret ⟨rfl, rfl⟩ _ _ (res2 (by rfl) (.tmp rfl) (.tmp rfl)) ⟨_, _, rfl, rfl, rfl⟩ (by repeat constructor) (by repeat constructor)
  refine go_two ?_ ?_
  ·skip
   refine go_bslice Tk rfl rfl rfl rfl rfl rfl rfl rfl (fun _ _ => satA) ?_
   intro b54
   refine go_lit_int (kk := .u32) [11, 12] (by repeat constructor) (by simp) ?_
   refine go_two ?_ ?_
   ·skip
    refine go_bslice Tk rfl rfl rfl rfl rfl rfl rfl rfl (fun h => nomatch h) ?_
    intro bs
    refine go_lit tCl (b := bs) [wc14] (by repeat constructor) (fun hp a => ⟨[.int .u32 wc14.h.p, .slice (some ⟨u1, 0, none⟩) wc14.h.a.length 2, .slice (some ⟨u5, 0, none⟩) wc14.b.length 2], [], rfl, tCl_mk (a (sl tTm (some ⟨u1, 0, none⟩) 2 wc14.h.a) (by repeat constructor)) (a (sl tLi (some ⟨u5, 0, none⟩) 2 wc14.b) (by repeat constructor)), rfl⟩) (by simp) ?_
    refine go_two ?_ ?_
    ·skip
     refine go_call (law13F 1 _ 2 2) rfl rfl (by rfl) rfl (by repeat constructor) (by repeat constructor) (fun _ v Ps' Os' hq => by obtain ⟨rfl, rfl, rfl⟩ := hq; exact satS (by repeat constructor) (by repeat constructor)) ?_
     rintro _ _ _ ⟨rfl, rfl, rfl⟩
     refine go_two ?_ ?_
     ·skip
      refine go_call (law13F 1 _ 2 2) rfl rfl (by rfl) rfl (by repeat constructor) (by repeat constructor) (fun _ v Ps' Os' hq => by obtain ⟨rfl, rfl, rfl⟩ := hq; exact satS (by repeat constructor) (by repeat constructor)) ?_
      rintro _ _ _ ⟨rfl, rfl, rfl⟩
      refine go_bslice Tk rfl rfl rfl rfl rfl rfl rfl rfl (fun _ _ => satA) ?_
      intro b55
      refine go_lit_int (kk := .u32) [12, 13] (by repeat constructor) (by simp) ?_
      refine go_call (law13F 1 _ 2 2) rfl rfl (by rfl) rfl (by repeat constructor) (by repeat constructor) (fun _ v Ps' Os' hq => by obtain ⟨rfl, rfl, rfl⟩ := hq; exact satS (by repeat constructor) (by repeat constructor)) ?_
      rintro _ _ _ ⟨rfl, rfl, rfl⟩
      refine go_pure1 Tk rfl rfl rfl ?_
      refine go_bslice Tk rfl rfl rfl rfl rfl rfl rfl rfl (fun _ _ => satA) ?_
      intro bf
      refine go_lit tFa (b := bf) wn14 (by repeat constructor) (fun hp a => ⟨[_, _], _, rfl, tFa_mk (x := (⟨1, [10, 11]⟩ : Fa)) (a (sl tU _ _ [10, 11]) (by repeat constructor)), [_, _], _, rfl, tFa_mk (x := (⟨1, [11, 12]⟩ : Fa)) (a (sl tU _ _ [11, 12]) (by repeat constructor)), [_, _], [], rfl, tFa_mk (x := (⟨1, [12, 13]⟩ : Fa)) (a (sl tU _ _ [12, 13]) (by repeat constructor)), rfl⟩) (by decide) ?_
      refine go_pure1 Tk rfl rfl rfl ?_
      refine go_nil ?_
      refine go_env [(0, _), (1, _)] ⟨rfl, rfl, trivial⟩ ?_
      refine go_ret ⟨rfl, rfl⟩ _ _ (res2 (by rfl) (.tmp rfl) (.tmp rfl)) ⟨_, _, rfl, rfl, rfl⟩ (by repeat constructor) (by repeat constructor)
     refine go_bslice Tk rfl rfl rfl rfl rfl rfl rfl rfl (fun _ _ => satA) ?_
     intro b56
     refine go_lit_int (kk := .u32) [12, 13] (by repeat constructor) (by simp) ?_
     refine go_call (law13F 1 _ 2 2) rfl rfl (by rfl) rfl (by repeat constructor) (by repeat constructor) (fun _ v Ps' Os' hq => by obtain ⟨rfl, rfl, rfl⟩ := hq; exact satS (by repeat constructor) (by repeat constructor)) ?_
     rintro _ _ _ ⟨rfl, rfl, rfl⟩
     refine go_call (law13F 1 _ 2 2) rfl rfl (by rfl) rfl (by repeat constructor) (by repeat constructor) (fun _ v Ps' Os' hq => by obtain ⟨rfl, rfl, rfl⟩ := hq; exact satS (by repeat constructor) (by repeat constructor)) ?_
     rintro _ _ _ ⟨rfl, rfl, rfl⟩
     refine go_pure1 Tk rfl rfl rfl ?_
     refine go_bslice Tk rfl rfl rfl rfl rfl rfl rfl rfl (fun _ _ => satA) ?_
     intro bf
     refine go_lit tFa (b := bf) wn14 (by repeat constructor) (fun hp a => ⟨[_, _], _, rfl, tFa_mk (x := (⟨1, [10, 11]⟩ : Fa)) (a (sl tU _ _ [10, 11]) (by repeat constructor)), [_, _], _, rfl, tFa_mk (x := (⟨1, [11, 12]⟩ : Fa)) (a (sl tU _ _ [11, 12]) (by repeat constructor)), [_, _], [], rfl, tFa_mk (x := (⟨1, [12, 13]⟩ : Fa)) (a (sl tU _ _ [12, 13]) (by repeat constructor)), rfl⟩) (by decide) ?_
     refine go_pure1 Tk rfl rfl rfl ?_
     refine go_nil ?_
     refine go_env [(0, _), (1, _)] ⟨rfl, rfl, trivial⟩ ?_
     refine go_ret ⟨rfl, rfl⟩ _ _ (res2 (by rfl) (.tmp rfl) (.tmp rfl)) ⟨_, _, rfl, rfl, rfl⟩ (by repeat constructor) (by repeat constructor)
    refine go_bslice Tk rfl rfl rfl rfl rfl rfl rfl rfl (fun _ _ => satA) ?_
    intro b57
    refine go_lit_int (kk := .u32) [12, 13] (by repeat constructor) (by simp) ?_
    refine go_call (law13F 1 _ 2 2) rfl rfl (by rfl) rfl (by repeat constructor) (by repeat constructor) (fun _ v Ps' Os' hq => by obtain ⟨rfl, rfl, rfl⟩ := hq; exact satS (by repeat constructor) (by repeat constructor)) ?_
    rintro _ _ _ ⟨rfl, rfl, rfl⟩
    refine go_call (law13F 1 _ 2 2) rfl rfl (by rfl) rfl (by repeat constructor) (by repeat constructor) (fun _ v Ps' Os' hq => by obtain ⟨rfl, rfl, rfl⟩ := hq; exact satS (by repeat constructor) (by repeat constructor)) ?_
    rintro _ _ _ ⟨rfl, rfl, rfl⟩
    refine go_call (law13F 1 _ 2 2) rfl rfl (by rfl) rfl (by repeat constructor) (by repeat constructor) (fun _ v Ps' Os' hq => by obtain ⟨rfl, rfl, rfl⟩ := hq; exact satS (by repeat constructor) (by repeat constructor)) ?_
    rintro _ _ _ ⟨rfl, rfl, rfl⟩
    refine go_pure1 Tk rfl rfl rfl ?_
    refine go_bslice Tk rfl rfl rfl rfl rfl rfl rfl rfl (fun _ _ => satA) ?_
    intro bf
    refine go_lit tFa (b := bf) wn14 (by repeat constructor) (fun hp a => ⟨[_, _], _, rfl, tFa_mk (x := (⟨1, [10, 11]⟩ : Fa)) (a (sl tU _ _ [10, 11]) (by repeat constructor)), [_, _], _, rfl, tFa_mk (x := (⟨1, [11, 12]⟩ : Fa)) (a (sl tU _ _ [11, 12]) (by repeat constructor)), [_, _], [], rfl, tFa_mk (x := (⟨1, [12, 13]⟩ : Fa)) (a (sl tU _ _ [12, 13]) (by repeat constructor)), rfl⟩) (by decide) ?_
    refine go_pure1 Tk rfl rfl rfl ?_
    refine go_nil ?_
    refine go_env [(0, _), (1, _)] ⟨rfl, rfl, trivial⟩ ?_
    refine go_ret ⟨rfl, rfl⟩ _ _ (res2 (by rfl) (.tmp rfl) (.tmp rfl)) ⟨_, _, rfl, rfl, rfl⟩ (by repeat constructor) (by repeat constructor)
   refine go_two ?_ ?_
   ·skip
    refine go_call (law13F 1 _ 2 2) rfl rfl (by rfl) rfl (by repeat constructor) (by repeat constructor) (fun _ v Ps' Os' hq => by obtain ⟨rfl, rfl, rfl⟩ := hq; exact satS (by repeat constructor) (by repeat constructor)) ?_
    rintro _ _ _ ⟨rfl, rfl, rfl⟩
    refine go_two ?_ ?_
    ·skip
     refine go_bslice Tk rfl rfl rfl rfl rfl rfl rfl rfl (fun h => nomatch h) ?_
     intro bs
     refine go_lit tCl (b := bs) [wc14] (by repeat constructor) (fun hp a => ⟨[.int .u32 wc14.h.p, .slice (some ⟨u1, 0, none⟩) wc14.h.a.length 2, .slice (some ⟨u5, 0, none⟩) wc14.b.length 2], [], rfl, tCl_mk (a (sl tTm (some ⟨u1, 0, none⟩) 2 wc14.h.a) (by repeat constructor)) (a (sl tLi (some ⟨u5, 0, none⟩) 2 wc14.b) (by repeat constructor)), rfl⟩) (by simp) ?_
     refine go_two ?_ ?_
     ·skip
      refine go_call (law13F 1 _ 2 2) rfl rfl (by rfl) rfl (by repeat constructor) (by repeat constructor) (fun _ v Ps' Os' hq => by obtain ⟨rfl, rfl, rfl⟩ := hq; exact satS (by repeat constructor) (by repeat constructor)) ?_
      rintro _ _ _ ⟨rfl, rfl, rfl⟩
      refine go_bslice Tk rfl rfl rfl rfl rfl rfl rfl rfl (fun _ _ => satA) ?_
      intro b58
      refine go_lit_int (kk := .u32) [12, 13] (by repeat constructor) (by simp) ?_
      refine go_call (law13F 1 _ 2 2) rfl rfl (by rfl) rfl (by repeat constructor) (by repeat constructor) (fun _ v Ps' Os' hq => by obtain ⟨rfl, rfl, rfl⟩ := hq; exact satS (by repeat constructor) (by repeat constructor)) ?_
      rintro _ _ _ ⟨rfl, rfl, rfl⟩
      refine go_pure1 Tk rfl rfl rfl ?_
      refine go_bslice Tk rfl rfl rfl rfl rfl rfl rfl rfl (fun _ _ => satA) ?_
      intro bf
      refine go_lit tFa (b := bf) wn14 (by repeat constructor) (fun hp a => ⟨[_, _], _, rfl, tFa_mk (x := (⟨1, [10, 11]⟩ : Fa)) (a (sl tU _ _ [10, 11]) (by repeat constructor)), [_, _], _, rfl, tFa_mk (x := (⟨1, [11, 12]⟩ : Fa)) (a (sl tU _ _ [11, 12]) (by repeat constructor)), [_, _], [], rfl, tFa_mk (x := (⟨1, [12, 13]⟩ : Fa)) (a (sl tU _ _ [12, 13]) (by repeat constructor)), rfl⟩) (by decide) ?_
      refine go_pure1 Tk rfl rfl rfl ?_
      refine go_nil ?_
      refine go_env [(0, _), (1, _)] ⟨rfl, rfl, trivial⟩ ?_
      refine go_ret ⟨rfl, rfl⟩ _ _ (res2 (by rfl) (.tmp rfl) (.tmp rfl)) ⟨_, _, rfl, rfl, rfl⟩ (by repeat constructor) (by repeat constructor)
     refine go_bslice Tk rfl rfl rfl rfl rfl rfl rfl rfl (fun _ _ => satA) ?_
     intro b59
     refine go_lit_int (kk := .u32) [12, 13] (by repeat constructor) (by simp) ?_
     refine go_call (law13F 1 _ 2 2) rfl rfl (by rfl) rfl (by repeat constructor) (by repeat constructor) (fun _ v Ps' Os' hq => by obtain ⟨rfl, rfl, rfl⟩ := hq; exact satS (by repeat constructor) (by repeat constructor)) ?_
     rintro _ _ _ ⟨rfl, rfl, rfl⟩
     refine go_call (law13F 1 _ 2 2) rfl rfl (by rfl) rfl (by repeat constructor) (by repeat constructor) (fun _ v Ps' Os' hq => by obtain ⟨rfl, rfl, rfl⟩ := hq; exact satS (by repeat constructor) (by repeat constructor)) ?_
     rintro _ _ _ ⟨rfl, rfl, rfl⟩
     refine go_pure1 Tk rfl rfl rfl ?_
     refine go_bslice Tk rfl rfl rfl rfl rfl rfl rfl rfl (fun _ _ => satA) ?_
     intro bf
     refine go_lit tFa (b := bf) wn14 (by repeat constructor) (fun hp a => ⟨[_, _], _, rfl, tFa_mk (x := (⟨1, [10, 11]⟩ : Fa)) (a (sl tU _ _ [10, 11]) (by repeat constructor)), [_, _], _, rfl, tFa_mk (x := (⟨1, [11, 12]⟩ : Fa)) (a (sl tU _ _ [11, 12]) (by repeat constructor)), [_, _], [], rfl, tFa_mk (x := (⟨1, [12, 13]⟩ : Fa)) (a (sl tU _ _ [12, 13]) (by repeat constructor)), rfl⟩) (by decide) ?_
     refine go_pure1 Tk rfl rfl rfl ?_
     refine go_nil ?_
     refine go_env [(0, _), (1, _)] ⟨rfl, rfl, trivial⟩ ?_
     refine go_ret ⟨rfl, rfl⟩ _ _ (res2 (by rfl) (.tmp rfl) (.tmp rfl)) ⟨_, _, rfl, rfl, rfl⟩ (by repeat constructor) (by repeat constructor)
    refine go_two ?_ ?_
    ·skip
     refine go_call (law13F 1 _ 2 2) rfl rfl (by rfl) rfl (by repeat constructor) (by repeat constructor) (fun _ v Ps' Os' hq => by obtain ⟨rfl, rfl, rfl⟩ := hq; exact satS (by repeat constructor) (by repeat constructor)) ?_
     rintro _ _ _ ⟨rfl, rfl, rfl⟩
     refine go_two ?_ ?_
     ·skip
      refine go_bslice Tk rfl rfl rfl rfl rfl rfl rfl rfl (fun h => nomatch h) ?_
      intro bs
      refine go_lit tCl (b := bs) [wc14] (by repeat constructor) (fun hp a => ⟨[.int .u32 wc14.h.p, .slice (some ⟨u1, 0, none⟩) wc14.h.a.length 2, .slice (some ⟨u5, 0, none⟩) wc14.b.length 2], [], rfl, tCl_mk (a (sl tTm (some ⟨u1, 0, none⟩) 2 wc14.h.a) (by repeat constructor)) (a (sl tLi (some ⟨u5, 0, none⟩) 2 wc14.b) (by repeat constructor)), rfl⟩) (by simp) ?_
      refine go_bslice Tk rfl rfl rfl rfl rfl rfl rfl rfl (fun _ _ => satA) ?_
      intro b60
      refine go_lit_int (kk := .u32) [12, 13] (by repeat constructor) (by simp) ?_
      refine go_call (law13F 1 _ 2 2) rfl rfl (by rfl) rfl (by repeat constructor) (by repeat constructor) (fun _ v Ps' Os' hq => by obtain ⟨rfl, rfl, rfl⟩ := hq; exact satS (by repeat constructor) (by repeat constructor)) ?_
      rintro _ _ _ ⟨rfl, rfl, rfl⟩
      refine go_pure1 Tk rfl rfl rfl ?_
      refine go_bslice Tk rfl rfl rfl rfl rfl rfl rfl rfl (fun _ _ => satA) ?_
      intro bf
      refine go_lit tFa (b := bf) wn14 (by repeat constructor) (fun hp a => ⟨[_, _], _, rfl, tFa_mk (x := (⟨1, [10, 11]⟩ : Fa)) (a (sl tU _ _ [10, 11]) (by repeat constructor)), [_, _], _, rfl, tFa_mk (x := (⟨1, [11, 12]⟩ : Fa)) (a (sl tU _ _ [11, 12]) (by repeat constructor)), [_, _], [], rfl, tFa_mk (x := (⟨1, [12, 13]⟩ : Fa)) (a (sl tU _ _ [12, 13]) (by repeat constructor)), rfl⟩) (by decide) ?_
      refine go_pure1 Tk rfl rfl rfl ?_
      refine go_nil ?_
      refine go_env [(0, _), (1, _)] ⟨rfl, rfl, trivial⟩ ?_
      refine go_ret ⟨rfl, rfl⟩ _ _ (res2 (by rfl) (.tmp rfl) (.tmp rfl)) ⟨_, _, rfl, rfl, rfl⟩ (by repeat constructor) (by repeat constructor)
     refine go_bslice Tk rfl rfl rfl rfl rfl rfl rfl rfl (fun _ _ => satA) ?_
     intro b61
     refine go_lit_int (kk := .u32) [12, 13] (by repeat constructor) (by simp) ?_
     refine go_two ?_ ?_
     ·skip
      refine go_bslice Tk rfl rfl rfl rfl rfl rfl rfl rfl (fun h => nomatch h) ?_
      intro bs
      refine go_lit tCl (b := bs) [wc14] (by repeat constructor) (fun hp a => ⟨[.int .u32 wc14.h.p, .slice (some ⟨u1, 0, none⟩) wc14.h.a.length 2, .slice (some ⟨u5, 0, none⟩) wc14.b.length 2], [], rfl, tCl_mk (a (sl tTm (some ⟨u1, 0, none⟩) 2 wc14.h.a) (by repeat constructor)) (a (sl tLi (some ⟨u5, 0, none⟩) 2 wc14.b) (by repeat constructor)), rfl⟩) (by simp) ?_
      refine go_call (law13F 1 _ 2 2) rfl rfl (by rfl) rfl (by repeat constructor) (by repeat constructor) (fun _ v Ps' Os' hq => by obtain ⟨rfl, rfl, rfl⟩ := hq; exact satS (by repeat constructor) (by repeat constructor)) ?_
      rintro _ _ _ ⟨rfl, rfl, rfl⟩
      refine go_pure1 Tk rfl rfl rfl ?_
      refine go_bslice Tk rfl rfl rfl rfl rfl rfl rfl rfl (fun _ _ => satA) ?_
      intro bf
      refine go_lit tFa (b := bf) wn14 (by repeat constructor) (fun hp a => ⟨[_, _], _, rfl, tFa_mk (x := (⟨1, [10, 11]⟩ : Fa)) (a (sl tU _ _ [10, 11]) (by repeat constructor)), [_, _], _, rfl, tFa_mk (x := (⟨1, [11, 12]⟩ : Fa)) (a (sl tU _ _ [11, 12]) (by repeat constructor)), [_, _], [], rfl, tFa_mk (x := (⟨1, [12, 13]⟩ : Fa)) (a (sl tU _ _ [12, 13]) (by repeat constructor)), rfl⟩) (by decide) ?_
      refine go_pure1 Tk rfl rfl rfl ?_
      refine go_nil ?_
      refine go_env [(0, _), (1, _)] ⟨rfl, rfl, trivial⟩ ?_
      refine go_ret ⟨rfl, rfl⟩ _ _ (res2 (by rfl) (.tmp rfl) (.tmp rfl)) ⟨_, _, rfl, rfl, rfl⟩ (by repeat constructor) (by repeat constructor)
     refine go_call (law13F 1 _ 2 2) rfl rfl (by rfl) rfl (by repeat constructor) (by repeat constructor) (fun _ v Ps' Os' hq => by obtain ⟨rfl, rfl, rfl⟩ := hq; exact satS (by repeat constructor) (by repeat constructor)) ?_
     rintro _ _ _ ⟨rfl, rfl, rfl⟩
     refine go_two ?_ ?_
     ·skip
      refine go_bslice Tk rfl rfl rfl rfl rfl rfl rfl rfl (fun h => nomatch h) ?_
      intro bs
      refine go_lit tCl (b := bs) [wc14] (by repeat constructor) (fun hp a => ⟨[.int .u32 wc14.h.p, .slice (some ⟨u1, 0, none⟩) wc14.h.a.length 2, .slice (some ⟨u5, 0, none⟩) wc14.b.length 2], [], rfl, tCl_mk (a (sl tTm (some ⟨u1, 0, none⟩) 2 wc14.h.a) (by repeat constructor)) (a (sl tLi (some ⟨u5, 0, none⟩) 2 wc14.b) (by repeat constructor)), rfl⟩) (by simp) ?_
      refine go_pure1 Tk rfl rfl rfl ?_
      refine go_bslice Tk rfl rfl rfl rfl rfl rfl rfl rfl (fun _ _ => satA) ?_
      intro bf
      refine go_lit tFa (b := bf) wn14 (by repeat constructor) (fun hp a => ⟨[_, _], _, rfl, tFa_mk (x := (⟨1, [10, 11]⟩ : Fa)) (a (sl tU _ _ [10, 11]) (by repeat constructor)), [_, _], _, rfl, tFa_mk (x := (⟨1, [11, 12]⟩ : Fa)) (a (sl tU _ _ [11, 12]) (by repeat constructor)), [_, _], [], rfl, tFa_mk (x := (⟨1, [12, 13]⟩ : Fa)) (a (sl tU _ _ [12, 13]) (by repeat constructor)), rfl⟩) (by decide) ?_
      refine go_pure1 Tk rfl rfl rfl ?_
      refine go_nil ?_
      refine go_env [(0, _), (1, _)] ⟨rfl, rfl, trivial⟩ ?_
      refine go_ret ⟨rfl, rfl⟩ _ _ (res2 (by rfl) (.tmp rfl) (.tmp rfl)) ⟨_, _, rfl, rfl, rfl⟩ (by repeat constructor) (by repeat constructor)
     refine go_bslice Tk rfl rfl rfl rfl rfl rfl rfl rfl (fun _ _ => satA) ?_
     intro bf
     refine go_lit tFa (b := bf) wn14 (by repeat constructor) (fun hp a => ⟨[_, _], _, rfl, tFa_mk (x := (⟨1, [10, 11]⟩ : Fa)) (a (sl tU _ _ [10, 11]) (by repeat constructor)), [_, _], _, rfl, tFa_mk (x := (⟨1, [11, 12]⟩ : Fa)) (a (sl tU _ _ [11, 12]) (by repeat constructor)), [_, _], [], rfl, tFa_mk (x := (⟨1, [12, 13]⟩ : Fa)) (a (sl tU _ _ [12, 13]) (by repeat constructor)), rfl⟩) (by decide) ?_
     refine go_bslice Tk rfl rfl rfl rfl rfl rfl rfl rfl (fun h => nomatch h) ?_
     intro bs
     refine go_lit tCl (b := bs) [wc14] (by repeat constructor) (fun hp a => ⟨[.int .u32 wc14.h.p, .slice (some ⟨u1, 0, none⟩) wc14.h.a.length 2, .slice (some ⟨u5, 0, none⟩) wc14.b.length 2], [], rfl, tCl_mk (a (sl tTm (some ⟨u1, 0, none⟩) 2 wc14.h.a) (by repeat constructor)) (a (sl tLi (some ⟨u5, 0, none⟩) 2 wc14.b) (by repeat constructor)), rfl⟩) (by simp) ?_
     iterate 2 refine go_pure1 Tk rfl rfl rfl ?_
     refine go_nil ?_
     refine go_env [(0, _), (1, _)] ⟨rfl, rfl, trivial⟩ ?_
     refine go_ret ⟨rfl, rfl⟩ _ _ (res2 (by rfl) (.tmp rfl) (.tmp rfl)) ⟨_, _, rfl, rfl, rfl⟩ (by repeat constructor) (by repeat constructor)
    refine go_bslice Tk rfl rfl rfl rfl rfl rfl rfl rfl (fun _ _ => satA) ?_
    intro b62
    refine go_lit_int (kk := .u32) [12, 13] (by repeat constructor) (by simp) ?_
    refine go_two ?_ ?_
    ·skip
     refine go_bslice Tk rfl rfl rfl rfl rfl rfl rfl rfl (fun h => nomatch h) ?_
     intro bs
     refine go_lit tCl (b := bs) [wc14] (by repeat constructor) (fun hp a => ⟨[.int .u32 wc14.h.p, .slice (some ⟨u1, 0, none⟩) wc14.h.a.length 2, .slice (some ⟨u5, 0, none⟩) wc14.b.length 2], [], rfl, tCl_mk (a (sl tTm (some ⟨u1, 0, none⟩) 2 wc14.h.a) (by repeat constructor)) (a (sl tLi (some ⟨u5, 0, none⟩) 2 wc14.b) (by repeat constructor)), rfl⟩) (by simp) ?_
     refine go_call (law13F 1 _ 2 2) rfl rfl (by rfl) rfl (by repeat constructor) (by repeat constructor) (fun _ v Ps' Os' hq => by obtain ⟨rfl, rfl, rfl⟩ := hq; exact satS (by repeat constructor) (by repeat constructor)) ?_
     rintro _ _ _ ⟨rfl, rfl, rfl⟩
     refine go_call (law13F 1 _ 2 2) rfl rfl (by rfl) rfl (by repeat constructor) (by repeat constructor) (fun _ v Ps' Os' hq => by obtain ⟨rfl, rfl, rfl⟩ := hq; exact satS (by repeat constructor) (by repeat constructor)) ?_
     rintro _ _ _ ⟨rfl, rfl, rfl⟩
     refine go_pure1 Tk rfl rfl rfl ?_
     refine go_bslice Tk rfl rfl rfl rfl rfl rfl rfl rfl (fun _ _ => satA) ?_
     intro bf
     refine go_lit tFa (b := bf) wn14 (by repeat constructor) (fun hp a => ⟨[_, _], _, rfl, tFa_mk (x := (⟨1, [10, 11]⟩ : Fa)) (a (sl tU _ _ [10, 11]) (by repeat constructor)), [_, _], _, rfl, tFa_mk (x := (⟨1, [11, 12]⟩ : Fa)) (a (sl tU _ _ [11, 12]) (by repeat constructor)), [_, _], [], rfl, tFa_mk (x := (⟨1, [12, 13]⟩ : Fa)) (a (sl tU _ _ [12, 13]) (by repeat constructor)), rfl⟩) (by decide) ?_
     refine go_pure1 Tk rfl rfl rfl ?_
     refine go_nil ?_
     refine go_env [(0, _), (1, _)] ⟨rfl, rfl, trivial⟩ ?_
     refine go_ret ⟨rfl, rfl⟩ _ _ (res2 (by rfl) (.tmp rfl) (.tmp rfl)) ⟨_, _, rfl, rfl, rfl⟩ (by repeat constructor) (by repeat constructor)
    refine go_call (law13F 1 _ 2 2) rfl rfl (by rfl) rfl (by repeat constructor) (by repeat constructor) (fun _ v Ps' Os' hq => by obtain ⟨rfl, rfl, rfl⟩ := hq; exact satS (by repeat constructor) (by repeat constructor)) ?_
    rintro _ _ _ ⟨rfl, rfl, rfl⟩
    refine go_two ?_ ?_
    ·skip
     refine go_bslice Tk rfl rfl rfl rfl rfl rfl rfl rfl (fun h => nomatch h) ?_
     intro bs
     refine go_lit tCl (b := bs) [wc14] (by repeat constructor) (fun hp a => ⟨[.int .u32 wc14.h.p, .slice (some ⟨u1, 0, none⟩) wc14.h.a.length 2, .slice (some ⟨u5, 0, none⟩) wc14.b.length 2], [], rfl, tCl_mk (a (sl tTm (some ⟨u1, 0, none⟩) 2 wc14.h.a) (by repeat constructor)) (a (sl tLi (some ⟨u5, 0, none⟩) 2 wc14.b) (by repeat constructor)), rfl⟩) (by simp) ?_
     refine go_call (law13F 1 _ 2 2) rfl rfl (by rfl) rfl (by repeat constructor) (by repeat constructor) (fun _ v Ps' Os' hq => by obtain ⟨rfl, rfl, rfl⟩ := hq; exact satS (by repeat constructor) (by repeat constructor)) ?_
     rintro _ _ _ ⟨rfl, rfl, rfl⟩
     refine go_pure1 Tk rfl rfl rfl ?_
     refine go_bslice Tk rfl rfl rfl rfl rfl rfl rfl rfl (fun _ _ => satA) ?_
     intro bf
     refine go_lit tFa (b := bf) wn14 (by repeat constructor) (fun hp a => ⟨[_, _], _, rfl, tFa_mk (x := (⟨1, [10, 11]⟩ : Fa)) (a (sl tU _ _ [10, 11]) (by repeat constructor)), [_, _], _, rfl, tFa_mk (x := (⟨1, [11, 12]⟩ : Fa)) (a (sl tU _ _ [11, 12]) (by repeat constructor)), [_, _], [], rfl, tFa_mk (x := (⟨1, [12, 13]⟩ : Fa)) (a (sl tU _ _ [12, 13]) (by repeat constructor)), rfl⟩) (by decide) ?_
     refine go_pure1 Tk rfl rfl rfl ?_
     refine go_nil ?_
     refine go_env [(0, _), (1, _)] ⟨rfl, rfl, trivial⟩ ?_
     refine go_ret ⟨rfl, rfl⟩ _ _ (res2 (by rfl) (.tmp rfl) (.tmp rfl)) ⟨_, _, rfl, rfl, rfl⟩ (by repeat constructor) (by repeat constructor)
    refine go_call (law13F 1 _ 2 2) rfl rfl (by rfl) rfl (by repeat constructor) (by repeat constructor) (fun _ v Ps' Os' hq => by obtain ⟨rfl, rfl, rfl⟩ := hq; exact satS (by repeat constructor) (by repeat constructor)) ?_
    rintro _ _ _ ⟨rfl, rfl, rfl⟩
    refine go_two ?_ ?_
    ·skip
     refine go_bslice Tk rfl rfl rfl rfl rfl rfl rfl rfl (fun h => nomatch h) ?_
     intro bs
     refine go_lit tCl (b := bs) [wc14] (by repeat constructor) (fun hp a => ⟨[.int .u32 wc14.h.p, .slice (some ⟨u1, 0, none⟩) wc14.h.a.length 2, .slice (some ⟨u5, 0, none⟩) wc14.b.length 2], [], rfl, tCl_mk (a (sl tTm (some ⟨u1, 0, none⟩) 2 wc14.h.a) (by repeat constructor)) (a (sl tLi (some ⟨u5, 0, none⟩) 2 wc14.b) (by repeat constructor)), rfl⟩) (by simp) ?_
     refine go_pure1 Tk rfl rfl rfl ?_
     refine go_bslice Tk rfl rfl rfl rfl rfl rfl rfl rfl (fun _ _ => satA) ?_
     intro bf
     refine go_lit tFa (b := bf) wn14 (by repeat constructor) (fun hp a => ⟨[_, _], _, rfl, tFa_mk (x := (⟨1, [10, 11]⟩ : Fa)) (a (sl tU _ _ [10, 11]) (by repeat constructor)), [_, _], _, rfl, tFa_mk (x := (⟨1, [11, 12]⟩ : Fa)) (a (sl tU _ _ [11, 12]) (by repeat constructor)), [_, _], [], rfl, tFa_mk (x := (⟨1, [12, 13]⟩ : Fa)) (a (sl tU _ _ [12, 13]) (by repeat constructor)), rfl⟩) (by decide) ?_
     refine go_pure1 Tk rfl rfl rfl ?_
     refine go_nil ?_
     refine go_env [(0, _), (1, _)] ⟨rfl, rfl, trivial⟩ ?_
     refine go_ret ⟨rfl, rfl⟩ _ _ (res2 (by rfl) (.tmp rfl) (.tmp rfl)) ⟨_, _, rfl, rfl, rfl⟩ (by repeat constructor) (by repeat constructor)
    refine go_bslice Tk rfl rfl rfl rfl rfl rfl rfl rfl (fun _ _ => satA) ?_
    intro bf
    refine go_lit tFa (b := bf) wn14 (by repeat constructor) (fun hp a => ⟨[_, _], _, rfl, tFa_mk (x := (⟨1, [10, 11]⟩ : Fa)) (a (sl tU _ _ [10, 11]) (by repeat constructor)), [_, _], _, rfl, tFa_mk (x := (⟨1, [11, 12]⟩ : Fa)) (a (sl tU _ _ [11, 12]) (by repeat constructor)), [_, _], [], rfl, tFa_mk (x := (⟨1, [12, 13]⟩ : Fa)) (a (sl tU _ _ [12, 13]) (by repeat constructor)), rfl⟩) (by decide) ?_
    refine go_bslice Tk rfl rfl rfl rfl rfl rfl rfl rfl (fun h => nomatch h) ?_
    intro bs
    refine go_lit tCl (b := bs) [wc14] (by repeat constructor) (fun hp a => ⟨[.int .u32 wc14.h.p, .slice (some ⟨u1, 0, none⟩) wc14.h.a.length 2, .slice (some ⟨u5, 0, none⟩) wc14.b.length 2], [], rfl, tCl_mk (a (sl tTm (some ⟨u1, 0, none⟩) 2 wc14.h.a) (by repeat constructor)) (a (sl tLi (some ⟨u5, 0, none⟩) 2 wc14.b) (by repeat constructor)), rfl⟩) (by simp) ?_
    iterate 2 refine go_pure1 Tk rfl rfl rfl ?_
    refine go_nil ?_
    refine go_env [(0, _), (1, _)] ⟨rfl, rfl, trivial⟩ ?_
    refine go_ret ⟨rfl, rfl⟩ _ _ (res2 (by rfl) (.tmp rfl) (.tmp rfl)) ⟨_, _, rfl, rfl, rfl⟩ (by repeat constructor) (by repeat constructor)
   refine go_bslice Tk rfl rfl rfl rfl rfl rfl rfl rfl (fun _ _ => satA) ?_
   intro b63
   refine go_lit_int (kk := .u32) [12, 13] (by repeat constructor) (by simp) ?_
   refine go_two ?_ ?_
   ·skip
    refine go_bslice Tk rfl rfl rfl rfl rfl rfl rfl rfl (fun h => nomatch h) ?_
    intro bs
    refine go_lit tCl (b := bs) [wc14] (by repeat constructor) (fun hp a => ⟨[.int .u32 wc14.h.p, .slice (some ⟨u1, 0, none⟩) wc14.h.a.length 2, .slice (some ⟨u5, 0, none⟩) wc14.b.length 2], [], rfl, tCl_mk (a (sl tTm (some ⟨u1, 0, none⟩) 2 wc14.h.a) (by repeat constructor)) (a (sl tLi (some ⟨u5, 0, none⟩) 2 wc14.b) (by repeat constructor)), rfl⟩) (by simp) ?_
    refine go_call (law13F 1 _ 2 2) rfl rfl (by rfl) rfl (by repeat constructor) (by repeat constructor) (fun _ v Ps' Os' hq => by obtain ⟨rfl, rfl, rfl⟩ := hq; exact satS (by repeat constructor) (by repeat constructor)) ?_
    rintro _ _ _ ⟨rfl, rfl, rfl⟩
    refine go_call (law13F 1 _ 2 2) rfl rfl (by rfl) rfl (by repeat constructor) (by repeat constructor) (fun _ v Ps' Os' hq => by obtain ⟨rfl, rfl, rfl⟩ := hq; exact satS (by repeat constructor) (by repeat constructor)) ?_
    rintro _ _ _ ⟨rfl, rfl, rfl⟩
    refine go_call (law13F 1 _ 2 2) rfl rfl (by rfl) rfl (by repeat constructor) (by repeat constructor) (fun _ v Ps' Os' hq => by obtain ⟨rfl, rfl, rfl⟩ := hq; exact satS (by repeat constructor) (by repeat constructor)) ?_
    rintro _ _ _ ⟨rfl, rfl, rfl⟩
    refine go_pure1 Tk rfl rfl rfl ?_
    refine go_bslice Tk rfl rfl rfl rfl rfl rfl rfl rfl (fun _ _ => satA) ?_
    intro bf
    refine go_lit tFa (b := bf) wn14 (by repeat constructor) (fun hp a => ⟨[_, _], _, rfl, tFa_mk (x := (⟨1, [10, 11]⟩ : Fa)) (a (sl tU _ _ [10, 11]) (by repeat constructor)), [_, _], _, rfl, tFa_mk (x := (⟨1, [11, 12]⟩ : Fa)) (a (sl tU _ _ [11, 12]) (by repeat constructor)), [_, _], [], rfl, tFa_mk (x := (⟨1, [12, 13]⟩ : Fa)) (a (sl tU _ _ [12, 13]) (by repeat constructor)), rfl⟩) (by decide) ?_
    refine go_pure1 Tk rfl rfl rfl ?_
    refine go_nil ?_
    refine go_env [(0, _), (1, _)] ⟨rfl, rfl, trivial⟩ ?_
    refine go_ret ⟨rfl, rfl⟩ _ _ (res2 (by rfl) (.tmp rfl) (.tmp rfl)) ⟨_, _, rfl, rfl, rfl⟩ (by repeat constructor) (by repeat constructor)
   refine go_call (law13F 1 _ 2 2) rfl rfl (by rfl) rfl (by repeat constructor) (by repeat constructor) (fun _ v Ps' Os' hq => by obtain ⟨rfl, rfl, rfl⟩ := hq; exact satS (by repeat constructor) (by repeat constructor)) ?_
   rintro _ _ _ ⟨rfl, rfl, rfl⟩
   refine go_two ?_ ?_
   ·skip
    refine go_bslice Tk rfl rfl rfl rfl rfl rfl rfl rfl (fun h => nomatch h) ?_
    intro bs
    refine go_lit tCl (b := bs) [wc14] (by repeat constructor) (fun hp a => ⟨[.int .u32 wc14.h.p, .slice (some ⟨u1, 0, none⟩) wc14.h.a.length 2, .slice (some ⟨u5, 0, none⟩) wc14.b.length 2], [], rfl, tCl_mk (a (sl tTm (some ⟨u1, 0, none⟩) 2 wc14.h.a) (by repeat constructor)) (a (sl tLi (some ⟨u5, 0, none⟩) 2 wc14.b) (by repeat constructor)), rfl⟩) (by simp) ?_
    refine go_call (law13F 1 _ 2 2) rfl rfl (by rfl) rfl (by repeat constructor) (by repeat constructor) (fun _ v Ps' Os' hq => by obtain ⟨rfl, rfl, rfl⟩ := hq; exact satS (by repeat constructor) (by repeat constructor)) ?_
    rintro _ _ _ ⟨rfl, rfl, rfl⟩
    refine go_call (law13F 1 _ 2 2) rfl rfl (by rfl) rfl (by repeat constructor) (by repeat constructor) (fun _ v Ps' Os' hq => by obtain ⟨rfl, rfl, rfl⟩ := hq; exact satS (by repeat constructor) (by repeat constructor)) ?_
    rintro _ _ _ ⟨rfl, rfl, rfl⟩
    refine go_pure1 Tk rfl rfl rfl ?_
    refine go_bslice Tk rfl rfl rfl rfl rfl rfl rfl rfl (fun _ _ => satA) ?_
    intro bf
    refine go_lit tFa (b := bf) wn14 (by repeat constructor) (fun hp a => ⟨[_, _], _, rfl, tFa_mk (x := (⟨1, [10, 11]⟩ : Fa)) (a (sl tU _ _ [10, 11]) (by repeat constructor)), [_, _], _, rfl, tFa_mk (x := (⟨1, [11, 12]⟩ : Fa)) (a (sl tU _ _ [11, 12]) (by repeat constructor)), [_, _], [], rfl, tFa_mk (x := (⟨1, [12, 13]⟩ : Fa)) (a (sl tU _ _ [12, 13]) (by repeat constructor)), rfl⟩) (by decide) ?_
    refine go_pure1 Tk rfl rfl rfl ?_
    refine go_nil ?_
    refine go_env [(0, _), (1, _)] ⟨rfl, rfl, trivial⟩ ?_
    refine go_ret ⟨rfl, rfl⟩ _ _ (res2 (by rfl) (.tmp rfl) (.tmp rfl)) ⟨_, _, rfl, rfl, rfl⟩ (by repeat constructor) (by repeat constructor)
   refine go_call (law13F 1 _ 2 2) rfl rfl (by rfl) rfl (by repeat constructor) (by repeat constructor) (fun _ v Ps' Os' hq => by obtain ⟨rfl, rfl, rfl⟩ := hq; exact satS (by repeat constructor) (by repeat constructor)) ?_
   rintro _ _ _ ⟨rfl, rfl, rfl⟩
   refine go_two ?_ ?_
   ·skip
    refine go_bslice Tk rfl rfl rfl rfl rfl rfl rfl rfl (fun h => nomatch h) ?_
    intro bs
    refine go_lit tCl (b := bs) [wc14] (by repeat constructor) (fun hp a => ⟨[.int .u32 wc14.h.p, .slice (some ⟨u1, 0, none⟩) wc14.h.a.length 2, .slice (some ⟨u5, 0, none⟩) wc14.b.length 2], [], rfl, tCl_mk (a (sl tTm (some ⟨u1, 0, none⟩) 2 wc14.h.a) (by repeat constructor)) (a (sl tLi (some ⟨u5, 0, none⟩) 2 wc14.b) (by repeat constructor)), rfl⟩) (by simp) ?_
    refine go_call (law13F 1 _ 2 2) rfl rfl (by rfl) rfl (by repeat constructor) (by repeat constructor) (fun _ v Ps' Os' hq => by obtain ⟨rfl, rfl, rfl⟩ := hq; exact satS (by repeat constructor) (by repeat constructor)) ?_
    rintro _ _ _ ⟨rfl, rfl, rfl⟩
    refine go_pure1 Tk rfl rfl rfl ?_
    refine go_bslice Tk rfl rfl rfl rfl rfl rfl rfl rfl (fun _ _ => satA) ?_
    intro bf
    refine go_lit tFa (b := bf) wn14 (by repeat constructor) (fun hp a => ⟨[_, _], _, rfl, tFa_mk (x := (⟨1, [10, 11]⟩ : Fa)) (a (sl tU _ _ [10, 11]) (by repeat constructor)), [_, _], _, rfl, tFa_mk (x := (⟨1, [11, 12]⟩ : Fa)) (a (sl tU _ _ [11, 12]) (by repeat constructor)), [_, _], [], rfl, tFa_mk (x := (⟨1, [12, 13]⟩ : Fa)) (a (sl tU _ _ [12, 13]) (by repeat constructor)), rfl⟩) (by decide) ?_
    refine go_pure1 Tk rfl rfl rfl ?_
    refine go_nil ?_
    refine go_env [(0, _), (1, _)] ⟨rfl, rfl, trivial⟩ ?_
    refine go_ret ⟨rfl, rfl⟩ _ _ (res2 (by rfl) (.tmp rfl) (.tmp rfl)) ⟨_, _, rfl, rfl, rfl⟩ (by repeat constructor) (by repeat constructor)
   refine go_call (law13F 1 _ 2 2) rfl rfl (by rfl) rfl (by repeat constructor) (by repeat constructor) (fun _ v Ps' Os' hq => by obtain ⟨rfl, rfl, rfl⟩ := hq; exact satS (by repeat constructor) (by repeat constructor)) ?_
   rintro _ _ _ ⟨rfl, rfl, rfl⟩
   refine go_two ?_ ?_
   ·skip
    refine go_bslice Tk rfl rfl rfl rfl rfl rfl rfl rfl (fun h => nomatch h) ?_
    intro bs
    refine go_lit tCl (b := bs) [wc14] (by repeat constructor) (fun hp a => ⟨[.int .u32 wc14.h.p, .slice (some ⟨u1, 0, none⟩) wc14.h.a.length 2, .slice (some ⟨u5, 0, none⟩) wc14.b.length 2], [], rfl, tCl_mk (a (sl tTm (some ⟨u1, 0, none⟩) 2 wc14.h.a) (by repeat constructor)) (a (sl tLi (some ⟨u5, 0, none⟩) 2 wc14.b) (by repeat constructor)), rfl⟩) (by simp) ?_
    refine go_pure1 Tk rfl rfl rfl ?_
    refine go_bslice Tk rfl rfl rfl rfl rfl rfl rfl rfl (fun _ _ => satA) ?_
    intro bf
    refine go_lit tFa (b := bf) wn14 (by repeat constructor) (fun hp a => ⟨[_, _], _, rfl, tFa_mk (x := (⟨1, [10, 11]⟩ : Fa)) (a (sl tU _ _ [10, 11]) (by repeat constructor)), [_, _], _, rfl, tFa_mk (x := (⟨1, [11, 12]⟩ : Fa)) (a (sl tU _ _ [11, 12]) (by repeat constructor)), [_, _], [], rfl, tFa_mk (x := (⟨1, [12, 13]⟩ : Fa)) (a (sl tU _ _ [12, 13]) (by repeat constructor)), rfl⟩) (by decide) ?_
    refine go_pure1 Tk rfl rfl rfl ?_
    refine go_nil ?_
    refine go_env [(0, _), (1, _)] ⟨rfl, rfl, trivial⟩ ?_
    refine go_ret ⟨rfl, rfl⟩ _ _ (res2 (by rfl) (.tmp rfl) (.tmp rfl)) ⟨_, _, rfl, rfl, rfl⟩ (by repeat constructor) (by repeat constructor)
   refine go_bslice Tk rfl rfl rfl rfl rfl rfl rfl rfl (fun _ _ => satA) ?_
   intro bf
   refine go_lit tFa (b := bf) wn14 (by repeat constructor) (fun hp a => ⟨[_, _], _, rfl, tFa_mk (x := (⟨1, [10, 11]⟩ : Fa)) (a (sl tU _ _ [10, 11]) (by repeat constructor)), [_, _], _, rfl, tFa_mk (x := (⟨1, [11, 12]⟩ : Fa)) (a (sl tU _ _ [11, 12]) (by repeat constructor)), [_, _], [], rfl, tFa_mk (x := (⟨1, [12, 13]⟩ : Fa)) (a (sl tU _ _ [12, 13]) (by repeat constructor)), rfl⟩) (by decide) ?_
   refine go_bslice Tk rfl rfl rfl rfl rfl rfl rfl rfl (fun h => nomatch h) ?_
   intro bs
   refine go_lit tCl (b := bs) [wc14] (by repeat constructor) (fun hp a => ⟨[.int .u32 wc14.h.p, .slice (some ⟨u1, 0, none⟩) wc14.h.a.length 2, .slice (some ⟨u5, 0, none⟩) wc14.b.length 2], [], rfl, tCl_mk (a (sl tTm (some ⟨u1, 0, none⟩) 2 wc14.h.a) (by repeat constructor)) (a (sl tLi (some ⟨u5, 0, none⟩) 2 wc14.b) (by repeat constructor)), rfl⟩) (by simp) ?_
   iterate 2 refine go_pure1 Tk rfl rfl rfl ?_
   refine go_nil ?_
   refine go_env [(0, _), (1, _)] ⟨rfl, rfl, trivial⟩ ?_
   refine go_ret ⟨rfl, rfl⟩ _ _ (res2 (by rfl) (.tmp rfl) (.tmp rfl)) ⟨_, _, rfl, rfl, rfl⟩ (by repeat constructor) (by repeat constructor)
  refine go_bslice Tk rfl rfl rfl rfl rfl rfl rfl rfl (fun _ _ => satA) ?_
  intro b64
  refine go_lit_int (kk := .u32) [12, 13] (by repeat constructor) (by simp) ?_
  refine go_two ?_ ?_
  ·skip
   refine go_bslice Tk rfl rfl rfl rfl rfl rfl rfl rfl (fun h => nomatch h) ?_
   intro bs
   refine go_lit tCl (b := bs) [wc14] (by repeat constructor) (fun hp a => ⟨[.int .u32 wc14.h.p, .slice (some ⟨u1, 0, none⟩) wc14.h.a.length 2, .slice (some ⟨u5, 0, none⟩) wc14.b.length 2], [], rfl, tCl_mk (a (sl tTm (some ⟨u1, 0, none⟩) 2 wc14.h.a) (by repeat constructor)) (a (sl tLi (some ⟨u5, 0, none⟩) 2 wc14.b) (by repeat constructor)), rfl⟩) (by simp) ?_
   refine go_two ?_ ?_
   ·skip
    refine go_call (law13F 1 _ 2 2) rfl rfl (by rfl) rfl (by repeat constructor) (by repeat constructor) (fun _ v Ps' Os' hq => by obtain ⟨rfl, rfl, rfl⟩ := hq; exact satS (by repeat constructor) (by repeat constructor)) ?_
    rintro _ _ _ ⟨rfl, rfl, rfl⟩
    refine go_bslice Tk rfl rfl rfl rfl rfl rfl rfl rfl (fun _ _ => satA) ?_
    intro b65
    refine go_lit_int (kk := .u32) [11, 12] (by repeat constructor) (by simp) ?_
    refine go_call (law13F 1 _ 2 2) rfl rfl (by rfl) rfl (by repeat constructor) (by repeat constructor) (fun _ v Ps' Os' hq => by obtain ⟨rfl, rfl, rfl⟩ := hq; exact satS (by repeat constructor) (by repeat constructor)) ?_
    rintro _ _ _ ⟨rfl, rfl, rfl⟩
    refine go_call (law13F 1 _ 2 2) rfl rfl (by rfl) rfl (by repeat constructor) (by repeat constructor) (fun _ v Ps' Os' hq => by obtain ⟨rfl, rfl, rfl⟩ := hq; exact satS (by repeat constructor) (by repeat constructor)) ?_
    rintro _ _ _ ⟨rfl, rfl, rfl⟩
    refine go_pure1 Tk rfl rfl rfl ?_
    refine go_bslice Tk rfl rfl rfl rfl rfl rfl rfl rfl (fun _ _ => satA) ?_
    intro bf
    refine go_lit tFa (b := bf) wn14 (by repeat constructor) (fun hp a => ⟨[_, _], _, rfl, tFa_mk (x := (⟨1, [10, 11]⟩ : Fa)) (a (sl tU _ _ [10, 11]) (by repeat constructor)), [_, _], _, rfl, tFa_mk (x := (⟨1, [11, 12]⟩ : Fa)) (a (sl tU _ _ [11, 12]) (by repeat constructor)), [_, _], [], rfl, tFa_mk (x := (⟨1, [12, 13]⟩ : Fa)) (a (sl tU _ _ [12, 13]) (by repeat constructor)), rfl⟩) (by decide) ?_
    refine go_pure1 Tk rfl rfl rfl ?_
    refine go_nil ?_
    refine go_env [(0, _), (1, _)] ⟨rfl, rfl, trivial⟩ ?_
    refine go_ret ⟨rfl, rfl⟩ _ _ (res2 (by rfl) (.tmp rfl) (.tmp rfl)) ⟨_, _, rfl, rfl, rfl⟩ (by repeat constructor) (by repeat constructor)
   refine go_bslice Tk rfl rfl rfl rfl rfl rfl rfl rfl (fun _ _ => satA) ?_
   intro b66
   refine go_lit_int (kk := .u32) [11, 12] (by repeat constructor) (by simp) ?_
   refine go_call (law13F 1 _ 2 2) rfl rfl (by rfl) rfl (by repeat constructor) (by repeat constructor) (fun _ v Ps' Os' hq => by obtain ⟨rfl, rfl, rfl⟩ := hq; exact satS (by repeat constructor) (by repeat constructor)) ?_
   rintro _ _ _ ⟨rfl, rfl, rfl⟩
   refine go_call (law13F 1 _ 2 2) rfl rfl (by rfl) rfl (by repeat constructor) (by repeat constructor) (fun _ v Ps' Os' hq => by obtain ⟨rfl, rfl, rfl⟩ := hq; exact satS (by repeat constructor) (by repeat constructor)) ?_
   rintro _ _ _ ⟨rfl, rfl, rfl⟩
   refine go_call (law13F 1 _ 2 2) rfl rfl (by rfl) rfl (by repeat constructor) (by repeat constructor) (fun _ v Ps' Os' hq => by obtain ⟨rfl, rfl, rfl⟩ := hq; exact satS (by repeat constructor) (by repeat constructor)) ?_
   rintro _ _ _ ⟨rfl, rfl, rfl⟩
   refine go_pure1 Tk rfl rfl rfl ?_
   refine go_bslice Tk rfl rfl rfl rfl rfl rfl rfl rfl (fun _ _ => satA) ?_
   intro bf
   refine go_lit tFa (b := bf) wn14 (by repeat constructor) (fun hp a => ⟨[_, _], _, rfl, tFa_mk (x := (⟨1, [10, 11]⟩ : Fa)) (a (sl tU _ _ [10, 11]) (by repeat constructor)), [_, _], _, rfl, tFa_mk (x := (⟨1, [11, 12]⟩ : Fa)) (a (sl tU _ _ [11, 12]) (by repeat constructor)), [_, _], [], rfl, tFa_mk (x := (⟨1, [12, 13]⟩ : Fa)) (a (sl tU _ _ [12, 13]) (by repeat constructor)), rfl⟩) (by decide) ?_
   refine go_pure1 Tk rfl rfl rfl ?_
   refine go_nil ?_
   refine go_env [(0, _), (1, _)] ⟨rfl, rfl, trivial⟩ ?_
   refine go_ret ⟨rfl, rfl⟩ _ _ (res2 (by rfl) (.tmp rfl) (.tmp rfl)) ⟨_, _, rfl, rfl, rfl⟩ (by repeat constructor) (by repeat constructor)
  refine go_two ?_ ?_
  ·skip
   refine go_call (law13F 1 _ 2 2) rfl rfl (by rfl) rfl (by repeat constructor) (by repeat constructor) (fun _ v Ps' Os' hq => by obtain ⟨rfl, rfl, rfl⟩ := hq; exact satS (by repeat constructor) (by repeat constructor)) ?_
   rintro _ _ _ ⟨rfl, rfl, rfl⟩
   refine go_two ?_ ?_
   ·skip
    refine go_bslice Tk rfl rfl rfl rfl rfl rfl rfl rfl (fun h => nomatch h) ?_
    intro bs
    refine go_lit tCl (b := bs) [wc14] (by repeat constructor) (fun hp a => ⟨[.int .u32 wc14.h.p, .slice (some ⟨u1, 0, none⟩) wc14.h.a.length 2, .slice (some ⟨u5, 0, none⟩) wc14.b.length 2], [], rfl, tCl_mk (a (sl tTm (some ⟨u1, 0, none⟩) 2 wc14.h.a) (by repeat constructor)) (a (sl tLi (some ⟨u5, 0, none⟩) 2 wc14.b) (by repeat constructor)), rfl⟩) (by simp) ?_
    refine go_bslice Tk rfl rfl rfl rfl rfl rfl rfl rfl (fun _ _ => satA) ?_
    intro b67
    refine go_lit_int (kk := .u32) [11, 12] (by repeat constructor) (by simp) ?_
    refine go_call (law13F 1 _ 2 2) rfl rfl (by rfl) rfl (by repeat constructor) (by repeat constructor) (fun _ v Ps' Os' hq => by obtain ⟨rfl, rfl, rfl⟩ := hq; exact satS (by repeat constructor) (by repeat constructor)) ?_
    rintro _ _ _ ⟨rfl, rfl, rfl⟩
    refine go_call (law13F 1 _ 2 2) rfl rfl (by rfl) rfl (by repeat constructor) (by repeat constructor) (fun _ v Ps' Os' hq => by obtain ⟨rfl, rfl, rfl⟩ := hq; exact satS (by repeat constructor) (by repeat constructor)) ?_
    rintro _ _ _ ⟨rfl, rfl, rfl⟩
    refine go_pure1 Tk rfl rfl rfl ?_
    refine go_bslice Tk rfl rfl rfl rfl rfl rfl rfl rfl (fun _ _ => satA) ?_
    intro bf
    refine go_lit tFa (b := bf) wn14 (by repeat constructor) (fun hp a => ⟨[_, _], _, rfl, tFa_mk (x := (⟨1, [10, 11]⟩ : Fa)) (a (sl tU _ _ [10, 11]) (by repeat constructor)), [_, _], _, rfl, tFa_mk (x := (⟨1, [11, 12]⟩ : Fa)) (a (sl tU _ _ [11, 12]) (by repeat constructor)), [_, _], [], rfl, tFa_mk (x := (⟨1, [12, 13]⟩ : Fa)) (a (sl tU _ _ [12, 13]) (by repeat constructor)), rfl⟩) (by decide) ?_
    refine go_pure1 Tk rfl rfl rfl ?_
    refine go_nil ?_
    refine go_env [(0, _), (1, _)] ⟨rfl, rfl, trivial⟩ ?_
    refine go_ret ⟨rfl, rfl⟩ _ _ (res2 (by rfl) (.tmp rfl) (.tmp rfl)) ⟨_, _, rfl, rfl, rfl⟩ (by repeat constructor) (by repeat constructor)
   refine go_bslice Tk rfl rfl rfl rfl rfl rfl rfl rfl (fun _ _ => satA) ?_
   intro b68
   refine go_lit_int (kk := .u32) [11, 12] (by repeat constructor) (by simp) ?_
   refine go_two ?_ ?_
   ·skip
    refine go_bslice Tk rfl rfl rfl rfl rfl rfl rfl rfl (fun h => nomatch h) ?_
    intro bs
    refine go_lit tCl (b := bs) [wc14] (by repeat constructor) (fun hp a => ⟨[.int .u32 wc14.h.p, .slice (some ⟨u1, 0, none⟩) wc14.h.a.length 2, .slice (some ⟨u5, 0, none⟩) wc14.b.length 2], [], rfl, tCl_mk (a (sl tTm (some ⟨u1, 0, none⟩) 2 wc14.h.a) (by repeat constructor)) (a (sl tLi (some ⟨u5, 0, none⟩) 2 wc14.b) (by repeat constructor)), rfl⟩) (by simp) ?_
    refine go_call (law13F 1 _ 2 2) rfl rfl (by rfl) rfl (by repeat constructor) (by repeat constructor) (fun _ v Ps' Os' hq => by obtain ⟨rfl, rfl, rfl⟩ := hq; exact satS (by repeat constructor) (by repeat constructor)) ?_
    rintro _ _ _ ⟨rfl, rfl, rfl⟩
    refine go_call (law13F 1 _ 2 2) rfl rfl (by rfl) rfl (by repeat constructor) (by repeat constructor) (fun _ v Ps' Os' hq => by obtain ⟨rfl, rfl, rfl⟩ := hq; exact satS (by repeat constructor) (by repeat constructor)) ?_
    rintro _ _ _ ⟨rfl, rfl, rfl⟩
    refine go_pure1 Tk rfl rfl rfl ?_
    refine go_bslice Tk rfl rfl rfl rfl rfl rfl rfl rfl (fun _ _ => satA) ?_
    intro bf
    refine go_lit tFa (b := bf) wn14 (by repeat constructor) (fun hp a => ⟨[_, _], _, rfl, tFa_mk (x := (⟨1, [10, 11]⟩ : Fa)) (a (sl tU _ _ [10, 11]) (by repeat constructor)), [_, _], _, rfl, tFa_mk (x := (⟨1, [11, 12]⟩ : Fa)) (a (sl tU _ _ [11, 12]) (by repeat constructor)), [_, _], [], rfl, tFa_mk (x := (⟨1, [12, 13]⟩ : Fa)) (a (sl tU _ _ [12, 13]) (by repeat constructor)), rfl⟩) (by decide) ?_
    refine go_pure1 Tk rfl rfl rfl ?_
    refine go_nil ?_
    refine go_env [(0, _), (1, _)] ⟨rfl, rfl, trivial⟩ ?_
    refine go_ret ⟨rfl, rfl⟩ _ _ (res2 (by rfl) (.tmp rfl) (.tmp rfl)) ⟨_, _, rfl, rfl, rfl⟩ (by repeat constructor) (by repeat constructor)
   refine go_call (law13F 1 _ 2 2) rfl rfl (by rfl) rfl (by repeat constructor) (by repeat constructor) (fun _ v Ps' Os' hq => by obtain ⟨rfl, rfl, rfl⟩ := hq; exact satS (by repeat constructor) (by repeat constructor)) ?_
   rintro _ _ _ ⟨rfl, rfl, rfl⟩
   refine go_two ?_ ?_
   ·skip
    refine go_bslice Tk rfl rfl rfl rfl rfl rfl rfl rfl (fun h => nomatch h) ?_
    intro bs
    refine go_lit tCl (b := bs) [wc14] (by repeat constructor) (fun hp a => ⟨[.int .u32 wc14.h.p, .slice (some ⟨u1, 0, none⟩) wc14.h.a.length 2, .slice (some ⟨u5, 0, none⟩) wc14.b.length 2], [], rfl, tCl_mk (a (sl tTm (some ⟨u1, 0, none⟩) 2 wc14.h.a) (by repeat constructor)) (a (sl tLi (some ⟨u5, 0, none⟩) 2 wc14.b) (by repeat constructor)), rfl⟩) (by simp) ?_
    refine go_call (law13F 1 _ 2 2) rfl rfl (by rfl) rfl (by repeat constructor) (by repeat constructor) (fun _ v Ps' Os' hq => by obtain ⟨rfl, rfl, rfl⟩ := hq; exact satS (by repeat constructor) (by repeat constructor)) ?_
    rintro _ _ _ ⟨rfl, rfl, rfl⟩
    refine go_pure1 Tk rfl rfl rfl ?_
    refine go_bslice Tk rfl rfl rfl rfl rfl rfl rfl rfl (fun _ _ => satA) ?_
    intro bf
    refine go_lit tFa (b := bf) wn14 (by repeat constructor) (fun hp a => ⟨[_, _], _, rfl, tFa_mk (x := (⟨1, [10, 11]⟩ : Fa)) (a (sl tU _ _ [10, 11]) (by repeat constructor)), [_, _], _, rfl, tFa_mk (x := (⟨1, [11, 12]⟩ : Fa)) (a (sl tU _ _ [11, 12]) (by repeat constructor)), [_, _], [], rfl, tFa_mk (x := (⟨1, [12, 13]⟩ : Fa)) (a (sl tU _ _ [12, 13]) (by repeat constructor)), rfl⟩) (by decide) ?_
    refine go_pure1 Tk rfl rfl rfl ?_
    refine go_nil ?_
    refine go_env [(0, _), (1, _)] ⟨rfl, rfl, trivial⟩ ?_
    refine go_ret ⟨rfl, rfl⟩ _ _ (res2 (by rfl) (.tmp rfl) (.tmp rfl)) ⟨_, _, rfl, rfl, rfl⟩ (by repeat constructor) (by repeat constructor)
   refine go_call (law13F 1 _ 2 2) rfl rfl (by rfl) rfl (by repeat constructor) (by repeat constructor) (fun _ v Ps' Os' hq => by obtain ⟨rfl, rfl, rfl⟩ := hq; exact satS (by repeat constructor) (by repeat constructor)) ?_
   rintro _ _ _ ⟨rfl, rfl, rfl⟩
   refine go_two ?_ ?_
   ·skip
    refine go_bslice Tk rfl rfl rfl rfl rfl rfl rfl rfl (fun h => nomatch h) ?_
    intro bs
    refine go_lit tCl (b := bs) [wc14] (by repeat constructor) (fun hp a => ⟨[.int .u32 wc14.h.p, .slice (some ⟨u1, 0, none⟩) wc14.h.a.length 2, .slice (some ⟨u5, 0, none⟩) wc14.b.length 2], [], rfl, tCl_mk (a (sl tTm (some ⟨u1, 0, none⟩) 2 wc14.h.a) (by repeat constructor)) (a (sl tLi (some ⟨u5, 0, none⟩) 2 wc14.b) (by repeat constructor)), rfl⟩) (by simp) ?_
    refine go_pure1 Tk rfl rfl rfl ?_
    refine go_bslice Tk rfl rfl rfl rfl rfl rfl rfl rfl (fun _ _ => satA) ?_
    intro bf
    refine go_lit tFa (b := bf) wn14 (by repeat constructor) (fun hp a => ⟨[_, _], _, rfl, tFa_mk (x := (⟨1, [10, 11]⟩ : Fa)) (a (sl tU _ _ [10, 11]) (by repeat constructor)), [_, _], _, rfl, tFa_mk (x := (⟨1, [11, 12]⟩ : Fa)) (a (sl tU _ _ [11, 12]) (by repeat constructor)), [_, _], [], rfl, tFa_mk (x := (⟨1, [12, 13]⟩ : Fa)) (a (sl tU _ _ [12, 13]) (by repeat constructor)), rfl⟩) (by decide) ?_
    refine go_pure1 Tk rfl rfl rfl ?_
    refine go_nil ?_
    refine go_env [(0, _), (1, _)] ⟨rfl, rfl, trivial⟩ ?_
    refine go_ret ⟨rfl, rfl⟩ _ _ (res2 (by rfl) (.tmp rfl) (.tmp rfl)) ⟨_, _, rfl, rfl, rfl⟩ (by repeat constructor) (by repeat constructor)
   refine go_bslice Tk rfl rfl rfl rfl rfl rfl rfl rfl (fun _ _ => satA) ?_
   intro bf
   refine go_lit tFa (b := bf) wn14 (by repeat constructor) (fun hp a => ⟨[_, _], _, rfl, tFa_mk (x := (⟨1, [10, 11]⟩ : Fa)) (a (sl tU _ _ [10, 11]) (by repeat constructor)), [_, _], _, rfl, tFa_mk (x := (⟨1, [11, 12]⟩ : Fa)) (a (sl tU _ _ [11, 12]) (by repeat constructor)), [_, _], [], rfl, tFa_mk (x := (⟨1, [12, 13]⟩ : Fa)) (a (sl tU _ _ [12, 13]) (by repeat constructor)), rfl⟩) (by decide) ?_
   refine go_bslice Tk rfl rfl rfl rfl rfl rfl rfl rfl (fun h => nomatch h) ?_
   intro bs
   refine go_lit tCl (b := bs) [wc14] (by repeat constructor) (fun hp a => ⟨[.int .u32 wc14.h.p, .slice (some ⟨u1, 0, none⟩) wc14.h.a.length 2, .slice (some ⟨u5, 0, none⟩) wc14.b.length 2], [], rfl, tCl_mk (a (sl tTm (some ⟨u1, 0, none⟩) 2 wc14.h.a) (by repeat constructor)) (a (sl tLi (some ⟨u5, 0, none⟩) 2 wc14.b) (by repeat constructor)), rfl⟩) (by simp) ?_
   iterate 2 refine go_pure1 Tk rfl rfl rfl ?_
   refine go_nil ?_
   refine go_env [(0, _), (1, _)] ⟨rfl, rfl, trivial⟩ ?_
   refine go_ret ⟨rfl, rfl⟩ _ _ (res2 (by rfl) (.tmp rfl) (.tmp rfl)) ⟨_, _, rfl, rfl, rfl⟩ (by repeat constructor) (by repeat constructor)
  refine go_bslice Tk rfl rfl rfl rfl rfl rfl rfl rfl (fun _ _ => satA) ?_
  intro b69
  refine go_lit_int (kk := .u32) [11, 12] (by repeat constructor) (by simp) ?_
  refine go_two ?_ ?_
  ·skip
   refine go_bslice Tk rfl rfl rfl rfl rfl rfl rfl rfl (fun h => nomatch h) ?_
   intro bs
   refine go_lit tCl (b := bs) [wc14] (by repeat constructor) (fun hp a => ⟨[.int .u32 wc14.h.p, .slice (some ⟨u1, 0, none⟩) wc14.h.a.length 2, .slice (some ⟨u5, 0, none⟩) wc14.b.length 2], [], rfl, tCl_mk (a (sl tTm (some ⟨u1, 0, none⟩) 2 wc14.h.a) (by repeat constructor)) (a (sl tLi (some ⟨u5, 0, none⟩) 2 wc14.b) (by repeat constructor)), rfl⟩) (by simp) ?_
   refine go_call (law13F 1 _ 2 2) rfl rfl (by rfl) rfl (by repeat constructor) (by repeat constructor) (fun _ v Ps' Os' hq => by obtain ⟨rfl, rfl, rfl⟩ := hq; exact satS (by repeat constructor) (by repeat constructor)) ?_
   rintro _ _ _ ⟨rfl, rfl, rfl⟩
   refine go_call (law13F 1 _ 2 2) rfl rfl (by rfl) rfl (by repeat constructor) (by repeat constructor) (fun _ v Ps' Os' hq => by obtain ⟨rfl, rfl, rfl⟩ := hq; exact satS (by repeat constructor) (by repeat constructor)) ?_
   rintro _ _ _ ⟨rfl, rfl, rfl⟩
   refine go_call (law13F 1 _ 2 2) rfl rfl (by rfl) rfl (by repeat constructor) (by repeat constructor) (fun _ v Ps' Os' hq => by obtain ⟨rfl, rfl, rfl⟩ := hq; exact satS (by repeat constructor) (by repeat constructor)) ?_
   rintro _ _ _ ⟨rfl, rfl, rfl⟩
   refine go_pure1 Tk rfl rfl rfl ?_
   refine go_bslice Tk rfl rfl rfl rfl rfl rfl rfl rfl (fun _ _ => satA) ?_
   intro bf
   refine go_lit tFa (b := bf) wn14 (by repeat constructor) (fun hp a => ⟨[_, _], _, rfl, tFa_mk (x := (⟨1, [10, 11]⟩ : Fa)) (a (sl tU _ _ [10, 11]) (by repeat constructor)), [_, _], _, rfl, tFa_mk (x := (⟨1, [11, 12]⟩ : Fa)) (a (sl tU _ _ [11, 12]) (by repeat constructor)), [_, _], [], rfl, tFa_mk (x := (⟨1, [12, 13]⟩ : Fa)) (a (sl tU _ _ [12, 13]) (by repeat constructor)), rfl⟩) (by decide) ?_
   refine go_pure1 Tk rfl rfl rfl ?_
   refine go_nil ?_
   refine go_env [(0, _), (1, _)] ⟨rfl, rfl, trivial⟩ ?_
   refine go_ret ⟨rfl, rfl⟩ _ _ (res2 (by rfl) (.tmp rfl) (.tmp rfl)) ⟨_, _, rfl, rfl, rfl⟩ (by repeat constructor) (by repeat constructor)
  refine go_call (law13F 1 _ 2 2) rfl rfl (by rfl) rfl (by repeat constructor) (by repeat constructor) (fun _ v Ps' Os' hq => by obtain ⟨rfl, rfl, rfl⟩ := hq; exact satS (by repeat constructor) (by repeat constructor)) ?_
  rintro _ _ _ ⟨rfl, rfl, rfl⟩
  refine go_two ?_ ?_
  ·skip
   refine go_bslice Tk rfl rfl rfl rfl rfl rfl rfl rfl (fun h => nomatch h) ?_
   intro bs
   refine go_lit tCl (b := bs) [wc14] (by repeat constructor) (fun hp a => ⟨[.int .u32 wc14.h.p, .slice (some ⟨u1, 0, none⟩) wc14.h.a.length 2, .slice (some ⟨u5, 0, none⟩) wc14.b.length 2], [], rfl, tCl_mk (a (sl tTm (some ⟨u1, 0, none⟩) 2 wc14.h.a) (by repeat constructor)) (a (sl tLi (some ⟨u5, 0, none⟩) 2 wc14.b) (by repeat constructor)), rfl⟩) (by simp) ?_
   refine go_call (law13F 1 _ 2 2) rfl rfl (by rfl) rfl (by repeat constructor) (by repeat constructor) (fun _ v Ps' Os' hq => by obtain ⟨rfl, rfl, rfl⟩ := hq; exact satS (by repeat constructor) (by repeat constructor)) ?_
   rintro _ _ _ ⟨rfl, rfl, rfl⟩
   refine go_call (law13F 1 _ 2 2) rfl rfl (by rfl) rfl (by repeat constructor) (by repeat constructor) (fun _ v Ps' Os' hq => by obtain ⟨rfl, rfl, rfl⟩ := hq; exact satS (by repeat constructor) (by repeat constructor)) ?_
   rintro _ _ _ ⟨rfl, rfl, rfl⟩
   refine go_pure1 Tk rfl rfl rfl ?_
   refine go_bslice Tk rfl rfl rfl rfl rfl rfl rfl rfl (fun _ _ => satA) ?_
   intro bf
   refine go_lit tFa (b := bf) wn14 (by repeat constructor) (fun hp a => ⟨[_, _], _, rfl, tFa_mk (x := (⟨1, [10, 11]⟩ : Fa)) (a (sl tU _ _ [10, 11]) (by repeat constructor)), [_, _], _, rfl, tFa_mk (x := (⟨1, [11, 12]⟩ : Fa)) (a (sl tU _ _ [11, 12]) (by repeat constructor)), [_, _], [], rfl, tFa_mk (x := (⟨1, [12, 13]⟩ : Fa)) (a (sl tU _ _ [12, 13]) (by repeat constructor)), rfl⟩) (by decide) ?_
   refine go_pure1 Tk rfl rfl rfl ?_
   refine go_nil ?_
   refine go_env [(0, _), (1, _)] ⟨rfl, rfl, trivial⟩ ?_
   refine go_ret ⟨rfl, rfl⟩ _ _ (res2 (by rfl) (.tmp rfl) (.tmp rfl)) ⟨_, _, rfl, rfl, rfl⟩ (by repeat constructor) (by repeat constructor)
  refine go_call (law13F 1 _ 2 2) rfl rfl (by rfl) rfl (by repeat constructor) (by repeat constructor) (fun _ v Ps' Os' hq => by obtain ⟨rfl, rfl, rfl⟩ := hq; exact satS (by repeat constructor) (by repeat constructor)) ?_
  rintro _ _ _ ⟨rfl, rfl, rfl⟩
  refine go_two ?_ ?_
  ·skip
   refine go_bslice Tk rfl rfl rfl rfl rfl rfl rfl rfl (fun h => nomatch h) ?_
   intro bs
   refine go_lit tCl (b := bs) [wc14] (by repeat constructor) (fun hp a => ⟨[.int .u32 wc14.h.p, .slice (some ⟨u1, 0, none⟩) wc14.h.a.length 2, .slice (some ⟨u5, 0, none⟩) wc14.b.length 2], [], rfl, tCl_mk (a (sl tTm (some ⟨u1, 0, none⟩) 2 wc14.h.a) (by repeat constructor)) (a (sl tLi (some ⟨u5, 0, none⟩) 2 wc14.b) (by repeat constructor)), rfl⟩) (by simp) ?_
   refine go_call (law13F 1 _ 2 2) rfl rfl (by rfl) rfl (by repeat constructor) (by repeat constructor) (fun _ v Ps' Os' hq => by obtain ⟨rfl, rfl, rfl⟩ := hq; exact satS (by repeat constructor) (by repeat constructor)) ?_
   rintro _ _ _ ⟨rfl, rfl, rfl⟩
   refine go_pure1 Tk rfl rfl rfl ?_
   refine go_bslice Tk rfl rfl rfl rfl rfl rfl rfl rfl (fun _ _ => satA) ?_
   intro bf
   refine go_lit tFa (b := bf) wn14 (by repeat constructor) (fun hp a => ⟨[_, _], _, rfl, tFa_mk (x := (⟨1, [10, 11]⟩ : Fa)) (a (sl tU _ _ [10, 11]) (by repeat constructor)), [_, _], _, rfl, tFa_mk (x := (⟨1, [11, 12]⟩ : Fa)) (a (sl tU _ _ [11, 12]) (by repeat constructor)), [_, _], [], rfl, tFa_mk (x := (⟨1, [12, 13]⟩ : Fa)) (a (sl tU _ _ [12, 13]) (by repeat constructor)), rfl⟩) (by decide) ?_
   refine go_pure1 Tk rfl rfl rfl ?_
   refine go_nil ?_
   refine go_env [(0, _), (1, _)] ⟨rfl, rfl, trivial⟩ ?_
   refine go_ret ⟨rfl, rfl⟩ _ _ (res2 (by rfl) (.tmp rfl) (.tmp rfl)) ⟨_, _, rfl, rfl, rfl⟩ (by repeat constructor) (by repeat constructor)
  refine go_call (law13F 1 _ 2 2) rfl rfl (by rfl) rfl (by repeat constructor) (by repeat constructor) (fun _ v Ps' Os' hq => by obtain ⟨rfl, rfl, rfl⟩ := hq; exact satS (by repeat constructor) (by repeat constructor)) ?_
  rintro _ _ _ ⟨rfl, rfl, rfl⟩
  refine go_two ?_ ?_
  ·skip
   refine go_bslice Tk rfl rfl rfl rfl rfl rfl rfl rfl (fun h => nomatch h) ?_
   intro bs
   refine go_lit tCl (b := bs) [wc14] (by repeat constructor) (fun hp a => ⟨[.int .u32 wc14.h.p, .slice (some ⟨u1, 0, none⟩) wc14.h.a.length 2, .slice (some ⟨u5, 0, none⟩) wc14.b.length 2], [], rfl, tCl_mk (a (sl tTm (some ⟨u1, 0, none⟩) 2 wc14.h.a) (by repeat constructor)) (a (sl tLi (some ⟨u5, 0, none⟩) 2 wc14.b) (by repeat constructor)), rfl⟩) (by simp) ?_
   refine go_pure1 Tk rfl rfl rfl ?_
   refine go_bslice Tk rfl rfl rfl rfl rfl rfl rfl rfl (fun _ _ => satA) ?_
   intro bf
   refine go_lit tFa (b := bf) wn14 (by repeat constructor) (fun hp a => ⟨[_, _], _, rfl, tFa_mk (x := (⟨1, [10, 11]⟩ : Fa)) (a (sl tU _ _ [10, 11]) (by repeat constructor)), [_, _], _, rfl, tFa_mk (x := (⟨1, [11, 12]⟩ : Fa)) (a (sl tU _ _ [11, 12]) (by repeat constructor)), [_, _], [], rfl, tFa_mk (x := (⟨1, [12, 13]⟩ : Fa)) (a (sl tU _ _ [12, 13]) (by repeat constructor)), rfl⟩) (by decide) ?_
   refine go_pure1 Tk rfl rfl rfl ?_
   refine go_nil ?_
   refine go_env [(0, _), (1, _)] ⟨rfl, rfl, trivial⟩ ?_
   refine go_ret ⟨rfl, rfl⟩ _ _ (res2 (by rfl) (.tmp rfl) (.tmp rfl)) ⟨_, _, rfl, rfl, rfl⟩ (by repeat constructor) (by repeat constructor)
  refine go_bslice Tk rfl rfl rfl rfl rfl rfl rfl rfl (fun _ _ => satA) ?_
  intro bf
  refine go_lit tFa (b := bf) wn14 (by repeat constructor) (fun hp a => ⟨[_, _], _, rfl, tFa_mk (x := (⟨1, [10, 11]⟩ : Fa)) (a (sl tU _ _ [10, 11]) (by repeat constructor)), [_, _], _, rfl, tFa_mk (x := (⟨1, [11, 12]⟩ : Fa)) (a (sl tU _ _ [11, 12]) (by repeat constructor)), [_, _], [], rfl, tFa_mk (x := (⟨1, [12, 13]⟩ : Fa)) (a (sl tU _ _ [12, 13]) (by repeat constructor)), rfl⟩) (by decide) ?_
  refine go_bslice Tk rfl rfl rfl rfl rfl rfl rfl rfl (fun h => nomatch h) ?_
  intro bs
  refine go_lit tCl (b := bs) [wc14] (by repeat constructor) (fun hp a => ⟨[.int .u32 wc14.h.p, .slice (some ⟨u1, 0, none⟩) wc14.h.a.length 2, .slice (some ⟨u5, 0, none⟩) wc14.b.length 2], [], rfl, tCl_mk (a (sl tTm (some ⟨u1, 0, none⟩) 2 wc14.h.a) (by repeat constructor)) (a (sl tLi (some ⟨u5, 0, none⟩) 2 wc14.b) (by repeat constructor)), rfl⟩) (by simp) ?_
  iterate 2 refine go_pure1 Tk rfl rfl rfl ?_
  refine go_nil ?_
  refine go_env [(0, _), (1, _)] ⟨rfl, rfl, trivial⟩ ?_
  refine go_ret ⟨rfl, rfl⟩ _ _ (res2 (by rfl) (.tmp rfl) (.tmp rfl)) ⟨_, _, rfl, rfl, rfl⟩ (by repeat constructor) (by repeat constructor)
 refine go_two ?_ ?_
 ·skip
  refine go_bslice Tk rfl rfl rfl rfl rfl rfl rfl rfl (fun _ _ => satA) ?_
  intro b70
  refine go_lit_int (kk := .u32) [11, 12] (by repeat constructor) (by simp) ?_
  refine go_two ?_ ?_
  ·skip
   refine go_bslice Tk rfl rfl rfl rfl rfl rfl rfl rfl (fun h => nomatch h) ?_
   intro bs
   refine go_lit tCl (b := bs) [wc14] (by repeat constructor) (fun hp a => ⟨[.int .u32 wc14.h.p, .slice (some ⟨u1, 0, none⟩) wc14.h.a.length 2, .slice (some ⟨u5, 0, none⟩) wc14.b.length 2], [], rfl, tCl_mk (a (sl tTm (some ⟨u1, 0, none⟩) 2 wc14.h.a) (by repeat constructor)) (a (sl tLi (some ⟨u5, 0, none⟩) 2 wc14.b) (by repeat constructor)), rfl⟩) (by simp) ?_
   refine go_two ?_ ?_
   ·skip
    refine go_bslice Tk rfl rfl rfl rfl rfl rfl rfl rfl (fun _ _ => satA) ?_
    intro b71
    refine go_lit_int (kk := .u32) [10, 11] (by repeat constructor) (by simp) ?_
    refine go_two ?_ ?_
    ·skip
     refine go_call (law13F 1 _ 2 2) rfl rfl (by rfl) rfl (by repeat constructor) (by repeat constructor) (fun _ v Ps' Os' hq => by obtain ⟨rfl, rfl, rfl⟩ := hq; exact satS (by repeat constructor) (by repeat constructor)) ?_
     rintro _ _ _ ⟨rfl, rfl, rfl⟩
     refine go_two ?_ ?_
     ·skip
      refine go_call (law13F 1 _ 2 2) rfl rfl (by rfl) rfl (by repeat constructor) (by repeat constructor) (fun _ v Ps' Os' hq => by obtain ⟨rfl, rfl, rfl⟩ := hq; exact satS (by repeat constructor) (by repeat constructor)) ?_
      rintro _ _ _ ⟨rfl, rfl, rfl⟩
      refine go_bslice Tk rfl rfl rfl rfl rfl rfl rfl rfl (fun _ _ => satA) ?_
      intro b72
      refine go_lit_int (kk := .u32) [12, 13] (by repeat constructor) (by simp) ?_
      refine go_call (law13F 1 _ 2 2) rfl rfl (by rfl) rfl (by repeat constructor) (by repeat constructor) (fun _ v Ps' Os' hq => by obtain ⟨rfl, rfl, rfl⟩ := hq; exact satS (by repeat constructor) (by repeat constructor)) ?_
      rintro _ _ _ ⟨rfl, rfl, rfl⟩
      refine go_pure1 Tk rfl rfl rfl ?_
      refine go_bslice Tk rfl rfl rfl rfl rfl rfl rfl rfl (fun _ _ => satA) ?_
      intro bf
      refine go_lit tFa (b := bf) wn14 (by repeat constructor) (fun hp a => ⟨[_, _], _, rfl, tFa_mk (x := (⟨1, [10, 11]⟩ : Fa)) (a (sl tU _ _ [10, 11]) (by repeat constructor)), [_, _], _, rfl, tFa_mk (x := (⟨1, [11, 12]⟩ : Fa)) (a (sl tU _ _ [11, 12]) (by repeat constructor)), [_, _], [], rfl, tFa_mk (x := (⟨1, [12, 13]⟩ : Fa)) (a (sl tU _ _ [12, 13]) (by repeat constructor)), rfl⟩) (by decide) ?_
      refine go_pure1 Tk rfl rfl rfl ?_
      refine go_nil ?_
      refine go_env [(0, _), (1, _)] ⟨rfl, rfl, trivial⟩ ?_
      refine go_ret ⟨rfl, rfl⟩ _ _ (res2 (by rfl) (.tmp rfl) (.tmp rfl)) ⟨_, _, rfl, rfl, rfl⟩ (by repeat constructor) (by repeat constructor)
     refine go_bslice Tk rfl rfl rfl rfl rfl rfl rfl rfl (fun _ _ => satA) ?_
     intro b73
     refine go_lit_int (kk := .u32) [12, 13] (by repeat constructor) (by simp) ?_
     refine go_call (law13F 1 _ 2 2) rfl rfl (by rfl) rfl (by repeat constructor) (by repeat constructor) (fun _ v Ps' Os' hq => by obtain ⟨rfl, rfl, rfl⟩ := hq; exact satS (by repeat constructor) (by repeat constructor)) ?_
     rintro _ _ _ ⟨rfl, rfl, rfl⟩
     refine go_call (law13F 1 _ 2 2) rfl rfl (by rfl) rfl (by repeat constructor) (by repeat constructor) (fun _ v Ps' Os' hq => by obtain ⟨rfl, rfl, rfl⟩ := hq; exact satS (by repeat constructor) (by repeat constructor)) ?_
     rintro _ _ _ ⟨rfl, rfl, rfl⟩
     refine go_pure1 Tk rfl rfl rfl ?_
     refine go_bslice Tk rfl rfl rfl rfl rfl rfl rfl rfl (fun _ _ => satA) ?_
     intro bf
     refine go_lit tFa (b := bf) wn14 (by repeat constructor) (fun hp a => ⟨[_, _], _, rfl, tFa_mk (x := (⟨1, [10, 11]⟩ : Fa)) (a (sl tU _ _ [10, 11]) (by repeat constructor)), [_, _], _, rfl, tFa_mk (x := (⟨1, [11, 12]⟩ : Fa)) (a (sl tU _ _ [11, 12]) (by repeat constructor)), [_, _], [], rfl, tFa_mk (x := (⟨1, [12, 13]⟩ : Fa)) (a (sl tU _ _ [12, 13]) (by repeat constructor)), rfl⟩) (by decide) ?_
     refine go_pure1 Tk rfl rfl rfl ?_
     refine go_nil ?_
     refine go_env [(0, _), (1, _)] ⟨rfl, rfl, trivial⟩ ?_
     refine go_ret ⟨rfl, rfl⟩ _ _ (res2 (by rfl) (.tmp rfl) (.tmp rfl)) ⟨_, _, rfl, rfl, rfl⟩ (by repeat constructor) (by repeat constructor)
    refine go_bslice Tk rfl rfl rfl rfl rfl rfl rfl rfl (fun _ _ => satA) ?_
    intro b74
    refine go_lit_int (kk := .u32) [12, 13] (by repeat constructor) (by simp) ?_
    refine go_call (law13F 1 _ 2 2) rfl rfl (by rfl) rfl (by repeat constructor) (by repeat constructor) (fun _ v Ps' Os' hq => by obtain ⟨rfl, rfl, rfl⟩ := hq; exact satS (by repeat constructor) (by repeat constructor)) ?_
    rintro _ _ _ ⟨rfl, rfl, rfl⟩
    refine go_call (law13F 1 _ 2 2) rfl rfl (by rfl) rfl (by repeat constructor) (by repeat constructor) (fun _ v Ps' Os' hq => by obtain ⟨rfl, rfl, rfl⟩ := hq; exact satS (by repeat constructor) (by repeat constructor)) ?_
    rintro _ _ _ ⟨rfl, rfl, rfl⟩
    refine go_call (law13F 1 _ 2 2) rfl rfl (by rfl) rfl (by repeat constructor) (by repeat constructor) (fun _ v Ps' Os' hq => by obtain ⟨rfl, rfl, rfl⟩ := hq; exact satS (by repeat constructor) (by repeat constructor)) ?_
    rintro _ _ _ ⟨rfl, rfl, rfl⟩
    refine go_pure1 Tk rfl rfl rfl ?_
    refine go_bslice Tk rfl rfl rfl rfl rfl rfl rfl rfl (fun _ _ => satA) ?_
    intro bf
    refine go_lit tFa (b := bf) wn14 (by repeat constructor) (fun hp a => ⟨[_, _], _, rfl, tFa_mk (x := (⟨1, [10, 11]⟩ : Fa)) (a (sl tU _ _ [10, 11]) (by repeat constructor)), [_, _], _, rfl, tFa_mk (x := (⟨1, [11, 12]⟩ : Fa)) (a (sl tU _ _ [11, 12]) (by repeat constructor)), [_, _], [], rfl, tFa_mk (x := (⟨1, [12, 13]⟩ : Fa)) (a (sl tU _ _ [12, 13]) (by repeat constructor)), rfl⟩) (by decide) ?_
    refine go_pure1 Tk rfl rfl rfl ?_
    refine go_nil ?_
    refine go_env [(0, _), (1, _)] ⟨rfl, rfl, trivial⟩ ?_
    refine go_ret ⟨rfl, rfl⟩ _ _ (res2 (by rfl) (.tmp rfl) (.tmp rfl)) ⟨_, _, rfl, rfl, rfl⟩ (by repeat constructor) (by repeat constructor)
   refine go_bslice Tk rfl rfl rfl rfl rfl rfl rfl rfl (fun _ _ => satA) ?_
   intro b75
   refine go_lit_int (kk := .u32) [12, 13] (by repeat constructor) (by simp) ?_
   refine go_bslice Tk rfl rfl rfl rfl rfl rfl rfl rfl (fun _ _ => satA) ?_
   intro b76
   refine go_lit_int (kk := .u32) [10, 11] (by repeat constructor) (by simp) ?_
   refine go_call (law13F 1 _ 2 2) rfl rfl (by rfl) rfl (by repeat constructor) (by repeat constructor) (fun _ v Ps' Os' hq => by obtain ⟨rfl, rfl, rfl⟩ := hq; exact satS (by repeat constructor) (by repeat constructor)) ?_
   rintro _ _ _ ⟨rfl, rfl, rfl⟩
   refine go_call (law13F 1 _ 2 2) rfl rfl (by rfl) rfl (by repeat constructor) (by repeat constructor) (fun _ v Ps' Os' hq => by obtain ⟨rfl, rfl, rfl⟩ := hq; exact satS (by repeat constructor) (by repeat constructor)) ?_
   rintro _ _ _ ⟨rfl, rfl, rfl⟩
   refine go_call (law13F 1 _ 2 2) rfl rfl (by rfl) rfl (by repeat constructor) (by repeat constructor) (fun _ v Ps' Os' hq => by obtain ⟨rfl, rfl, rfl⟩ := hq; exact satS (by repeat constructor) (by repeat constructor)) ?_
   rintro _ _ _ ⟨rfl, rfl, rfl⟩
   refine go_pure1 Tk rfl rfl rfl ?_
   refine go_bslice Tk rfl rfl rfl rfl rfl rfl rfl rfl (fun _ _ => satA) ?_
   intro bf
   refine go_lit tFa (b := bf) wn14 (by repeat constructor) (fun hp a => ⟨[_, _], _, rfl, tFa_mk (x := (⟨1, [10, 11]⟩ : Fa)) (a (sl tU _ _ [10, 11]) (by repeat constructor)), [_, _], _, rfl, tFa_mk (x := (⟨1, [11, 12]⟩ : Fa)) (a (sl tU _ _ [11, 12]) (by repeat constructor)), [_, _], [], rfl, tFa_mk (x := (⟨1, [12, 13]⟩ : Fa)) (a (sl tU _ _ [12, 13]) (by repeat constructor)), rfl⟩) (by decide) ?_
   refine go_pure1 Tk rfl rfl rfl ?_
   refine go_nil ?_
   refine go_env [(0, _), (1, _)] ⟨rfl, rfl, trivial⟩ ?_
   refine go_ret ⟨rfl, rfl⟩ _ _ (res2 (by rfl) (.tmp rfl) (.tmp rfl)) ⟨_, _, rfl, rfl, rfl⟩ (by repeat constructor) (by repeat constructor)
  refine go_two ?_ ?_
  ·skip
   refine go_bslice Tk rfl rfl rfl rfl rfl rfl rfl rfl (fun _ _ => satA) ?_
   intro b77
   refine go_lit_int (kk := .u32) [10, 11] (by repeat constructor) (by simp) ?_
   refine go_two ?_ ?_
   ·skip
    refine go_bslice Tk rfl rfl rfl rfl rfl rfl rfl rfl (fun h => nomatch h) ?_
    intro bs
    refine go_lit tCl (b := bs) [wc14] (by repeat constructor) (fun hp a => ⟨[.int .u32 wc14.h.p, .slice (some ⟨u1, 0, none⟩) wc14.h.a.length 2, .slice (some ⟨u5, 0, none⟩) wc14.b.length 2], [], rfl, tCl_mk (a (sl tTm (some ⟨u1, 0, none⟩) 2 wc14.h.a) (by repeat constructor)) (a (sl tLi (some ⟨u5, 0, none⟩) 2 wc14.b) (by repeat constructor)), rfl⟩) (by simp) ?_
    refine go_two ?_ ?_
    ·skip
     refine go_call (law13F 1 _ 2 2) rfl rfl (by rfl) rfl (by repeat constructor) (by repeat constructor) (fun _ v Ps' Os' hq => by obtain ⟨rfl, rfl, rfl⟩ := hq; exact satS (by repeat constructor) (by repeat constructor)) ?_
     rintro _ _ _ ⟨rfl, rfl, rfl⟩
     refine go_two ?_ ?_
     ·skip
      refine go_call (law13F 1 _ 2 2) rfl rfl (by rfl) rfl (by repeat constructor) (by repeat constructor) (fun _ v Ps' Os' hq => by obtain ⟨rfl, rfl, rfl⟩ := hq; exact satS (by repeat constructor) (by repeat constructor)) ?_
      rintro _ _ _ ⟨rfl, rfl, rfl⟩
      refine go_bslice Tk rfl rfl rfl rfl rfl rfl rfl rfl (fun _ _ => satA) ?_
      intro b78
      refine go_lit_int (kk := .u32) [12, 13] (by repeat constructor) (by simp) ?_
      refine go_call (law13F 1 _ 2 2) rfl rfl (by rfl) rfl (by repeat constructor) (by repeat constructor) (fun _ v Ps' Os' hq => by obtain ⟨rfl, rfl, rfl⟩ := hq; exact satS (by repeat constructor) (by repeat constructor)) ?_
      rintro _ _ _ ⟨rfl, rfl, rfl⟩
      refine go_pure1 Tk rfl rfl rfl ?_
      refine go_bslice Tk rfl rfl rfl rfl rfl rfl rfl rfl (fun _ _ => satA) ?_
      intro bf
      refine go_lit tFa (b := bf) wn14 (by repeat constructor) (fun hp a => ⟨[_, _], _, rfl, tFa_mk (x := (⟨1, [10, 11]⟩ : Fa)) (a (sl tU _ _ [10, 11]) (by repeat constructor)), [_, _], _, rfl, tFa_mk (x := (⟨1, [11, 12]⟩ : Fa)) (a (sl tU _ _ [11, 12]) (by repeat constructor)), [_, _], [], rfl, tFa_mk (x := (⟨1, [12, 13]⟩ : Fa)) (a (sl tU _ _ [12, 13]) (by repeat constructor)), rfl⟩) (by decide) ?_
      refine go_pure1 Tk rfl rfl rfl ?_
      refine go_nil ?_
      refine go_env [(0, _), (1, _)] ⟨rfl, rfl, trivial⟩ ?_
      refine go_ret ⟨rfl, rfl⟩ _ _ (res2 (by rfl) (.tmp rfl) (.tmp rfl)) ⟨_, _, rfl, rfl, rfl⟩ (by repeat constructor) (by repeat constructor)
     refine go_bslice Tk rfl rfl rfl rfl rfl rfl rfl rfl (fun _ _ => satA) ?_
     intro b79
     refine go_lit_int (kk := .u32) [12, 13] (by repeat constructor) (by simp) ?_
     refine go_call (law13F 1 _ 2 2) rfl rfl (by rfl) rfl (by repeat constructor) (by repeat constructor) (fun _ v Ps' Os' hq => by obtain ⟨rfl, rfl, rfl⟩ := hq; exact satS (by repeat constructor) (by repeat constructor)) ?_
     rintro _ _ _ ⟨rfl, rfl, rfl⟩
     refine go_call (law13F 1 _ 2 2) rfl rfl (by rfl) rfl (by repeat constructor) (by repeat constructor) (fun _ v Ps' Os' hq => by obtain ⟨rfl, rfl, rfl⟩ := hq; exact satS (by repeat constructor) (by repeat constructor)) ?_
     rintro _ _ _ ⟨rfl, rfl, rfl⟩
     refine go_pure1 Tk rfl rfl rfl ?_
     refine go_bslice Tk rfl rfl rfl rfl rfl rfl rfl rfl (fun _ _ => satA) ?_
     intro bf
     refine go_lit tFa (b := bf) wn14 (by repeat constructor) (fun hp a => ⟨[_, _], _, rfl, tFa_mk (x := (⟨1, [10, 11]⟩ : Fa)) (a (sl tU _ _ [10, 11]) (by repeat constructor)), [_, _], _, rfl, tFa_mk (x := (⟨1, [11, 12]⟩ : Fa)) (a (sl tU _ _ [11, 12]) (by repeat constructor)), [_, _], [], rfl, tFa_mk (x := (⟨1, [12, 13]⟩ : Fa)) (a (sl tU _ _ [12, 13]) (by repeat constructor)), rfl⟩) (by decide) ?_
     refine go_pure1 Tk rfl rfl rfl ?_
     refine go_nil ?_
     refine go_env [(0, _), (1, _)] ⟨rfl, rfl, trivial⟩ ?_
     refine go_ret ⟨rfl, rfl⟩ _ _ (res2 (by rfl) (.tmp rfl) (.tmp rfl)) ⟨_, _, rfl, rfl, rfl⟩ (by repeat constructor) (by repeat constructor)
    refine go_bslice Tk rfl rfl rfl rfl rfl rfl rfl rfl (fun _ _ => satA) ?_
    intro b80
    refine go_lit_int (kk := .u32) [12, 13] (by repeat constructor) (by simp) ?_
    refine go_call (law13F 1 _ 2 2) rfl rfl (by rfl) rfl (by repeat constructor) (by repeat constructor) (fun _ v Ps' Os' hq => by obtain ⟨rfl, rfl, rfl⟩ := hq; exact satS (by repeat constructor) (by repeat constructor)) ?_
    rintro _ _ _ ⟨rfl, rfl, rfl⟩
    refine go_call (law13F 1 _ 2 2) rfl rfl (by rfl) rfl (by repeat constructor) (by repeat constructor) (fun _ v Ps' Os' hq => by obtain ⟨rfl, rfl, rfl⟩ := hq; exact satS (by repeat constructor) (by repeat constructor)) ?_
    rintro _ _ _ ⟨rfl, rfl, rfl⟩
    refine go_call (law13F 1 _ 2 2) rfl rfl (by rfl) rfl (by repeat constructor) (by repeat constructor) (fun _ v Ps' Os' hq => by obtain ⟨rfl, rfl, rfl⟩ := hq; exact satS (by repeat constructor) (by repeat constructor)) ?_
    rintro _ _ _ ⟨rfl, rfl, rfl⟩
    refine go_pure1 Tk rfl rfl rfl ?_
    refine go_bslice Tk rfl rfl rfl rfl rfl rfl rfl rfl (fun _ _ => satA) ?_
    intro bf
    refine go_lit tFa (b := bf) wn14 (by repeat constructor) (fun hp a => ⟨[_, _], _, rfl, tFa_mk (x := (⟨1, [10, 11]⟩ : Fa)) (a (sl tU _ _ [10, 11]) (by repeat constructor)), [_, _], _, rfl, tFa_mk (x := (⟨1, [11, 12]⟩ : Fa)) (a (sl tU _ _ [11, 12]) (by repeat constructor)), [_, _], [], rfl, tFa_mk (x := (⟨1, [12, 13]⟩ : Fa)) (a (sl tU _ _ [12, 13]) (by repeat constructor)), rfl⟩) (by decide) ?_
    refine go_pure1 Tk rfl rfl rfl ?_
    refine go_nil ?_
    refine go_env [(0, _), (1, _)] ⟨rfl, rfl, trivial⟩ ?_
    refine go_ret ⟨rfl, rfl⟩ _ _ (res2 (by rfl) (.tmp rfl) (.tmp rfl)) ⟨_, _, rfl, rfl, rfl⟩ (by repeat constructor) (by repeat constructor)
   refine go_two ?_ ?_
   ·skip
    refine go_call (law13F 1 _ 2 2) rfl rfl (by rfl) rfl (by repeat constructor) (by repeat constructor) (fun _ v Ps' Os' hq => by obtain ⟨rfl, rfl, rfl⟩ := hq; exact satS (by repeat constructor) (by repeat constructor)) ?_
    rintro _ _ _ ⟨rfl, rfl, rfl⟩
    refine go_two ?_ ?_
    ·skip
     refine go_bslice Tk rfl rfl rfl rfl rfl rfl rfl rfl (fun h => nomatch h) ?_
     intro bs
     refine go_lit tCl (b := bs) [wc14] (by repeat constructor) (fun hp a => ⟨[.int .u32 wc14.h.p, .slice (some ⟨u1, 0, none⟩) wc14.h.a.length 2, .slice (some ⟨u5, 0, none⟩) wc14.b.length 2], [], rfl, tCl_mk (a (sl tTm (some ⟨u1, 0, none⟩) 2 wc14.h.a) (by repeat constructor)) (a (sl tLi (some ⟨u5, 0, none⟩) 2 wc14.b) (by repeat constructor)), rfl⟩) (by simp) ?_
     refine go_two ?_ ?_
     ·skip
      refine go_call (law13F 1 _ 2 2) rfl rfl (by rfl) rfl (by repeat constructor) (by repeat constructor) (fun _ v Ps' Os' hq => by obtain ⟨rfl, rfl, rfl⟩ := hq; exact satS (by repeat constructor) (by repeat constructor)) ?_
      rintro _ _ _ ⟨rfl, rfl, rfl⟩
      refine go_bslice Tk rfl rfl rfl rfl rfl rfl rfl rfl (fun _ _ => satA) ?_
      intro b81
      refine go_lit_int (kk := .u32) [12, 13] (by repeat constructor) (by simp) ?_
      refine go_call (law13F 1 _ 2 2) rfl rfl (by rfl) rfl (by repeat constructor) (by repeat constructor) (fun _ v Ps' Os' hq => by obtain ⟨rfl, rfl, rfl⟩ := hq; exact satS (by repeat constructor) (by repeat constructor)) ?_
      rintro _ _ _ ⟨rfl, rfl, rfl⟩
      refine go_pure1 Tk rfl rfl rfl ?_
      refine go_bslice Tk rfl rfl rfl rfl rfl rfl rfl rfl (fun _ _ => satA) ?_
      intro bf
      refine go_lit tFa (b := bf) wn14 (by repeat constructor) (fun hp a => ⟨[_, _], _, rfl, tFa_mk (x := (⟨1, [10, 11]⟩ : Fa)) (a (sl tU _ _ [10, 11]) (by repeat constructor)), [_, _], _, rfl, tFa_mk (x := (⟨1, [11, 12]⟩ : Fa)) (a (sl tU _ _ [11, 12]) (by repeat constructor)), [_, _], [], rfl, tFa_mk (x := (⟨1, [12, 13]⟩ : Fa)) (a (sl tU _ _ [12, 13]) (by repeat constructor)), rfl⟩) (by decide) ?_
      refine go_pure1 Tk rfl rfl rfl ?_
      refine go_nil ?_
      refine go_env [(0, _), (1, _)] ⟨rfl, rfl, trivial⟩ ?_
      refine go_ret ⟨rfl, rfl⟩ _ _ (res2 (by rfl) (.tmp rfl) (.tmp rfl)) ⟨_, _, rfl, rfl, rfl⟩ (by repeat constructor) (by repeat constructor)
     refine go_bslice Tk rfl rfl rfl rfl rfl rfl rfl rfl (fun _ _ => satA) ?_
     intro b82
     refine go_lit_int (kk := .u32) [12, 13] (by repeat constructor) (by simp) ?_
     refine go_call (law13F 1 _ 2 2) rfl rfl (by rfl) rfl (by repeat constructor) (by repeat constructor) (fun _ v Ps' Os' hq => by obtain ⟨rfl, rfl, rfl⟩ := hq; exact satS (by repeat constructor) (by repeat constructor)) ?_
     rintro _ _ _ ⟨rfl, rfl, rfl⟩
     refine go_call (law13F 1 _ 2 2) rfl rfl (by rfl) rfl (by repeat constructor) (by repeat constructor) (fun _ v Ps' Os' hq => by obtain ⟨rfl, rfl, rfl⟩ := hq; exact satS (by repeat constructor) (by repeat constructor)) ?_
     rintro _ _ _ ⟨rfl, rfl, rfl⟩
     refine go_pure1 Tk rfl rfl rfl ?_
     refine go_bslice Tk rfl rfl rfl rfl rfl rfl rfl rfl (fun _ _ => satA) ?_
     intro bf
     refine go_lit tFa (b := bf) wn14 (by repeat constructor) (fun hp a => ⟨[_, _], _, rfl, tFa_mk (x := (⟨1, [10, 11]⟩ : Fa)) (a (sl tU _ _ [10, 11]) (by repeat constructor)), [_, _], _, rfl, tFa_mk (x := (⟨1, [11, 12]⟩ : Fa)) (a (sl tU _ _ [11, 12]) (by repeat constructor)), [_, _], [], rfl, tFa_mk (x := (⟨1, [12, 13]⟩ : Fa)) (a (sl tU _ _ [12, 13]) (by repeat constructor)), rfl⟩) (by decide) ?_
     refine go_pure1 Tk rfl rfl rfl ?_
     refine go_nil ?_
     refine go_env [(0, _), (1, _)] ⟨rfl, rfl, trivial⟩ ?_
     refine go_ret ⟨rfl, rfl⟩ _ _ (res2 (by rfl) (.tmp rfl) (.tmp rfl)) ⟨_, _, rfl, rfl, rfl⟩ (by repeat constructor) (by repeat constructor)
    refine go_two ?_ ?_
    ·skip
     refine go_call (law13F 1 _ 2 2) rfl rfl (by rfl) rfl (by repeat constructor) (by repeat constructor) (fun _ v Ps' Os' hq => by obtain ⟨rfl, rfl, rfl⟩ := hq; exact satS (by repeat constructor) (by repeat constructor)) ?_
     rintro _ _ _ ⟨rfl, rfl, rfl⟩
     refine go_two ?_ ?_
     ·skip
      refine go_bslice Tk rfl rfl rfl rfl rfl rfl rfl rfl (fun h => nomatch h) ?_
      intro bs
      refine go_lit tCl (b := bs) [wc14] (by repeat constructor) (fun hp a => ⟨[.int .u32 wc14.h.p, .slice (some ⟨u1, 0, none⟩) wc14.h.a.length 2, .slice (some ⟨u5, 0, none⟩) wc14.b.length 2], [], rfl, tCl_mk (a (sl tTm (some ⟨u1, 0, none⟩) 2 wc14.h.a) (by repeat constructor)) (a (sl tLi (some ⟨u5, 0, none⟩) 2 wc14.b) (by repeat constructor)), rfl⟩) (by simp) ?_
      refine go_bslice Tk rfl rfl rfl rfl rfl rfl rfl rfl (fun _ _ => satA) ?_
      intro b83
      refine go_lit_int (kk := .u32) [12, 13] (by repeat constructor) (by simp) ?_
      refine go_call (law13F 1 _ 2 2) rfl rfl (by rfl) rfl (by repeat constructor) (by repeat constructor) (fun _ v Ps' Os' hq => by obtain ⟨rfl, rfl, rfl⟩ := hq; exact satS (by repeat constructor) (by repeat constructor)) ?_
      rintro _ _ _ ⟨rfl, rfl, rfl⟩
      refine go_pure1 Tk rfl rfl rfl ?_
      refine go_bslice Tk rfl rfl rfl rfl rfl rfl rfl rfl (fun _ _ => satA) ?_
      intro bf
      refine go_lit tFa (b := bf) wn14 (by repeat constructor) (fun hp a => ⟨[_, _], _, rfl, tFa_mk (x := (⟨1, [10, 11]⟩ : Fa)) (a (sl tU _ _ [10, 11]) (by repeat constructor)), [_, _], _, rfl, tFa_mk (x := (⟨1, [11, 12]⟩ : Fa)) (a (sl tU _ _ [11, 12]) (by repeat constructor)), [_, _], [], rfl, tFa_mk (x := (⟨1, [12, 13]⟩ : Fa)) (a (sl tU _ _ [12, 13]) (by repeat constructor)), rfl⟩) (by decide) ?_
      refine go_pure1 Tk rfl rfl rfl ?_
      refine go_nil ?_
      refine go_env [(0, _), (1, _)] ⟨rfl, rfl, trivial⟩ ?_
      refine go_ret ⟨rfl, rfl⟩ _ _ (res2 (by rfl) (.tmp rfl) (.tmp rfl)) ⟨_, _, rfl, rfl, rfl⟩ (by repeat constructor) (by repeat constructor)
     refine go_bslice Tk rfl rfl rfl rfl rfl rfl rfl rfl (fun _ _ => satA) ?_
     intro b84
     refine go_lit_int (kk := .u32) [12, 13] (by repeat constructor) (by simp) ?_
     refine go_two ?_ ?_
     ·skip
      refine go_bslice Tk rfl rfl rfl rfl rfl rfl rfl rfl (fun h => nomatch h) ?_
      intro bs
      refine go_lit tCl (b := bs) [wc14] (by repeat constructor) (fun hp a => ⟨[.int .u32 wc14.h.p, .slice (some ⟨u1, 0, none⟩) wc14.h.a.length 2, .slice (some ⟨u5, 0, none⟩) wc14.b.length 2], [], rfl, tCl_mk (a (sl tTm (some ⟨u1, 0, none⟩) 2 wc14.h.a) (by repeat constructor)) (a (sl tLi (some ⟨u5, 0, none⟩) 2 wc14.b) (by repeat constructor)), rfl⟩) (by simp) ?_
      refine go_call (law13F 1 _ 2 2) rfl rfl (by rfl) rfl (by repeat constructor) (by repeat constructor) (fun _ v Ps' Os' hq => by obtain ⟨rfl, rfl, rfl⟩ := hq; exact satS (by repeat constructor) (by repeat constructor)) ?_
      rintro _ _ _ ⟨rfl, rfl, rfl⟩
      refine go_pure1 Tk rfl rfl rfl ?_
      refine go_bslice Tk rfl rfl rfl rfl rfl rfl rfl rfl (fun _ _ => satA) ?_
      intro bf
      refine go_lit tFa (b := bf) wn14 (by repeat constructor) (fun hp a => ⟨[_, _], _, rfl, tFa_mk (x := (⟨1, [10, 11]⟩ : Fa)) (a (sl tU _ _ [10, 11]) (by repeat constructor)), [_, _], _, rfl, tFa_mk (x := (⟨1, [11, 12]⟩ : Fa)) (a (sl tU _ _ [11, 12]) (by repeat constructor)), [_, _], [], rfl, tFa_mk (x := (⟨1, [12, 13]⟩ : Fa)) (a (sl tU _ _ [12, 13]) (by repeat constructor)), rfl⟩) (by decide) ?_
      refine go_pure1 Tk rfl rfl rfl ?_
      refine go_nil ?_
      refine go_env [(0, _), (1, _)] ⟨rfl, rfl, trivial⟩ ?_
      refine go_ret ⟨rfl, rfl⟩ _ _ (res2 (by rfl) (.tmp rfl) (.tmp rfl)) ⟨_, _, rfl, rfl, rfl⟩ (by repeat constructor) (by repeat constructor)
     refine go_call (law13F 1 _ 2 2) rfl rfl (by rfl) rfl (by repeat constructor) (by repeat constructor) (fun _ v Ps' Os' hq => by obtain ⟨rfl, rfl, rfl⟩ := hq; exact satS (by repeat constructor) (by repeat constructor)) ?_
     rintro _ _ _ ⟨rfl, rfl, rfl⟩
     refine go_two ?_ ?_
     ·skip
      refine go_bslice Tk rfl rfl rfl rfl rfl rfl rfl rfl (fun h => nomatch h) ?_
      intro bs
      refine go_lit tCl (b := bs) [wc14] (by repeat constructor) (fun hp a => ⟨[.int .u32 wc14.h.p, .slice (some ⟨u1, 0, none⟩) wc14.h.a.length 2, .slice (some ⟨u5, 0, none⟩) wc14.b.length 2], [], rfl, tCl_mk (a (sl tTm (some ⟨u1, 0, none⟩) 2 wc14.h.a) (by repeat constructor)) (a (sl tLi (some ⟨u5, 0, none⟩) 2 wc14.b) (by repeat constructor)), rfl⟩) (by simp) ?_
      refine go_pure1 Tk rfl rfl rfl ?_
      refine go_bslice Tk rfl rfl rfl rfl rfl rfl rfl rfl (fun _ _ => satA) ?_
      intro bf
      refine go_lit tFa (b := bf) wn14 (by repeat constructor) (fun hp a => ⟨[_, _], _, rfl, tFa_mk (x := (⟨1, [10, 11]⟩ : Fa)) (a (sl tU _ _ [10, 11]) (by repeat constructor)), [_, _], _, rfl, tFa_mk (x := (⟨1, [11, 12]⟩ : Fa)) (a (sl tU _ _ [11, 12]) (by repeat constructor)), [_, _], [], rfl, tFa_mk (x := (⟨1, [12, 13]⟩ : Fa)) (a (sl tU _ _ [12, 13]) (by repeat constructor)), rfl⟩) (by decide) ?_
      refine go_pure1 Tk rfl rfl rfl ?_
      refine go_nil ?_
      refine go_env [(0, _), (1, _)] ⟨rfl, rfl, trivial⟩ ?_
      refine go_ret ⟨rfl, rfl⟩ _ _ (res2 (by rfl) (.tmp rfl) (.tmp rfl)) ⟨_, _, rfl, rfl, rfl⟩ (by repeat constructor) (by repeat constructor)
     refine go_bslice Tk rfl rfl rfl rfl rfl rfl rfl rfl (fun _ _ => satA) ?_
     intro bf
     refine go_lit tFa (b := bf) wn14 (by repeat constructor) (fun hp a => ⟨[_, _], _, rfl, tFa_mk (x := (⟨1, [10, 11]⟩ : Fa)) (a (sl tU _ _ [10, 11]) (by repeat constructor)), [_, _], _, rfl, tFa_mk (x := (⟨1, [11, 12]⟩ : Fa)) (a (sl tU _ _ [11, 12]) (by repeat constructor)), [_, _], [], rfl, tFa_mk (x := (⟨1, [12, 13]⟩ : Fa)) (a (sl tU _ _ [12, 13]) (by repeat constructor)), rfl⟩) (by decide) ?_
     refine go_bslice Tk rfl rfl rfl rfl rfl rfl rfl rfl (fun h => nomatch h) ?_
     intro bs
     refine go_lit tCl (b := bs) [wc14] (by repeat constructor) (fun hp a => ⟨[.int .u32 wc14.h.p, .slice (some ⟨u1, 0, none⟩) wc14.h.a.length 2, .slice (some ⟨u5, 0, none⟩) wc14.b.length 2], [], rfl, tCl_mk (a (sl tTm (some ⟨u1, 0, none⟩) 2 wc14.h.a) (by repeat constructor)) (a (sl tLi (some ⟨u5, 0, none⟩) 2 wc14.b) (by repeat constructor)), rfl⟩) (by simp) ?_
     iterate 2 refine go_pure1 Tk rfl rfl rfl ?_
     refine go_nil ?_
     refine go_env [(0, _), (1, _)] ⟨rfl, rfl, trivial⟩ ?_
     refine go_ret ⟨rfl, rfl⟩ _ _ (res2 (by rfl) (.tmp rfl) (.tmp rfl)) ⟨_, _, rfl, rfl, rfl⟩ (by repeat constructor) (by repeat constructor)
    refine go_bslice Tk rfl rfl rfl rfl rfl rfl rfl rfl (fun _ _ => satA) ?_
    intro b85
    refine go_lit_int (kk := .u32) [12, 13] (by repeat constructor) (by simp) ?_
    refine go_two ?_ ?_
    ·skip
     refine go_bslice Tk rfl rfl rfl rfl rfl rfl rfl rfl (fun h => nomatch h) ?_
     intro bs
     refine go_lit tCl (b := bs) [wc14] (by repeat constructor) (fun hp a => ⟨[.int .u32 wc14.h.p, .slice (some ⟨u1, 0, none⟩) wc14.h.a.length 2, .slice (some ⟨u5, 0, none⟩) wc14.b.length 2], [], rfl, tCl_mk (a (sl tTm (some ⟨u1, 0, none⟩) 2 wc14.h.a) (by repeat constructor)) (a (sl tLi (some ⟨u5, 0, none⟩) 2 wc14.b) (by repeat constructor)), rfl⟩) (by simp) ?_
     refine go_call (law13F 1 _ 2 2) rfl rfl (by rfl) rfl (by repeat constructor) (by repeat constructor) (fun _ v Ps' Os' hq => by obtain ⟨rfl, rfl, rfl⟩ := hq; exact satS (by repeat constructor) (by repeat constructor)) ?_
     rintro _ _ _ ⟨rfl, rfl, rfl⟩
     refine go_call (law13F 1 _ 2 2) rfl rfl (by rfl) rfl (by repeat constructor) (by repeat constructor) (fun _ v Ps' Os' hq => by obtain ⟨rfl, rfl, rfl⟩ := hq; exact satS (by repeat constructor) (by repeat constructor)) ?_
     rintro _ _ _ ⟨rfl, rfl, rfl⟩
     refine go_pure1 Tk rfl rfl rfl ?_
     refine go_bslice Tk rfl rfl rfl rfl rfl rfl rfl rfl (fun _ _ => satA) ?_
     intro bf
     refine go_lit tFa (b := bf) wn14 (by repeat constructor) (fun hp a => ⟨[_, _], _, rfl, tFa_mk (x := (⟨1, [10, 11]⟩ : Fa)) (a (sl tU _ _ [10, 11]) (by repeat constructor)), [_, _], _, rfl, tFa_mk (x := (⟨1, [11, 12]⟩ : Fa)) (a (sl tU _ _ [11, 12]) (by repeat constructor)), [_, _], [], rfl, tFa_mk (x := (⟨1, [12, 13]⟩ : Fa)) (a (sl tU _ _ [12, 13]) (by repeat constructor)), rfl⟩) (by decide) ?_
     refine go_pure1 Tk rfl rfl rfl ?_
     refine go_nil ?_
     refine go_env [(0, _), (1, _)] ⟨rfl, rfl, trivial⟩ ?_
     refine go_ret ⟨rfl, rfl⟩ _ _ (res2 (by rfl) (.tmp rfl) (.tmp rfl)) ⟨_, _, rfl, rfl, rfl⟩ (by repeat constructor) (by repeat constructor)
    refine go_call (law13F 1 _ 2 2) rfl rfl (by rfl) rfl (by repeat constructor) (by repeat constructor) (fun _ v Ps' Os' hq => by obtain ⟨rfl, rfl, rfl⟩ := hq; exact satS (by repeat constructor) (by repeat constructor)) ?_
    rintro _ _ _ ⟨rfl, rfl, rfl⟩
    refine go_two ?_ ?_
    ·skip
     refine go_bslice Tk rfl rfl rfl rfl rfl rfl rfl rfl (fun h => nomatch h) ?_
     intro bs
     refine go_lit tCl (b := bs) [wc14] (by repeat constructor) (fun hp a => ⟨[.int .u32 wc14.h.p, .slice (some ⟨u1, 0, none⟩) wc14.h.a.length 2, .slice (some ⟨u5, 0, none⟩) wc14.b.length 2], [], rfl, tCl_mk (a (sl tTm (some ⟨u1, 0, none⟩) 2 wc14.h.a) (by repeat constructor)) (a (sl tLi (some ⟨u5, 0, none⟩) 2 wc14.b) (by repeat constructor)), rfl⟩) (by simp) ?_
     refine go_call (law13F 1 _ 2 2) rfl rfl (by rfl) rfl (by repeat constructor) (by repeat constructor) (fun _ v Ps' Os' hq => by obtain ⟨rfl, rfl, rfl⟩ := hq; exact satS (by repeat constructor) (by repeat constructor)) ?_
     rintro _ _ _ ⟨rfl, rfl, rfl⟩
     refine go_pure1 Tk rfl rfl rfl ?_
     refine go_bslice Tk rfl rfl rfl rfl rfl rfl rfl rfl (fun _ _ => satA) ?_
     intro bf
     refine go_lit tFa (b := bf) wn14 (by repeat constructor) (fun hp a => ⟨[_, _], _, rfl, tFa_mk (x := (⟨1, [10, 11]⟩ : Fa)) (a (sl tU _ _ [10, 11]) (by repeat constructor)), [_, _], _, rfl, tFa_mk (x := (⟨1, [11, 12]⟩ : Fa)) (a (sl tU _ _ [11, 12]) (by repeat constructor)), [_, _], [], rfl, tFa_mk (x := (⟨1, [12, 13]⟩ : Fa)) (a (sl tU _ _ [12, 13]) (by repeat constructor)), rfl⟩) (by decide) ?_
     refine go_pure1 Tk rfl rfl rfl ?_
     refine go_nil ?_
     refine go_env [(0, _), (1, _)] ⟨rfl, rfl, trivial⟩ ?_
     refine go_ret ⟨rfl, rfl⟩ _ _ (res2 (by rfl) (.tmp rfl) (.tmp rfl)) ⟨_, _, rfl, rfl, rfl⟩ (by repeat constructor) (by repeat constructor)
    refine go_call (law13F 1 _ 2 2) rfl rfl (by rfl) rfl (by repeat constructor) (by repeat constructor) (fun _ v Ps' Os' hq => by obtain ⟨rfl, rfl, rfl⟩ := hq; exact satS (by repeat constructor) (by repeat constructor)) ?_
    rintro _ _ _ ⟨rfl, rfl, rfl⟩
    refine go_two ?_ ?_
    ·skip
     refine go_bslice Tk rfl rfl rfl rfl rfl rfl rfl rfl (fun h => nomatch h) ?_
     intro bs
     refine go_lit tCl (b := bs) [wc14] (by repeat constructor) (fun hp a => ⟨[.int .u32 wc14.h.p, .slice (some ⟨u1, 0, none⟩) wc14.h.a.length 2, .slice (some ⟨u5, 0, none⟩) wc14.b.length 2], [], rfl, tCl_mk (a (sl tTm (some ⟨u1, 0, none⟩) 2 wc14.h.a) (by repeat constructor)) (a (sl tLi (some ⟨u5, 0, none⟩) 2 wc14.b) (by repeat constructor)), rfl⟩) (by simp) ?_
     refine go_pure1 Tk rfl rfl rfl ?_
     refine go_bslice Tk rfl rfl rfl rfl rfl rfl rfl rfl (fun _ _ => satA) ?_
     intro bf
     refine go_lit tFa (b := bf) wn14 (by repeat constructor) (fun hp a => ⟨[_, _], _, rfl, tFa_mk (x := (⟨1, [10, 11]⟩ : Fa)) (a (sl tU _ _ [10, 11]) (by repeat constructor)), [_, _], _, rfl, tFa_mk (x := (⟨1, [11, 12]⟩ : Fa)) (a (sl tU _ _ [11, 12]) (by repeat constructor)), [_, _], [], rfl, tFa_mk (x := (⟨1, [12, 13]⟩ : Fa)) (a (sl tU _ _ [12, 13]) (by repeat constructor)), rfl⟩) (by decide) ?_
     refine go_pure1 Tk rfl rfl rfl ?_
     refine go_nil ?_
     refine go_env [(0, _), (1, _)] ⟨rfl, rfl, trivial⟩ ?_
     refine go_ret ⟨rfl, rfl⟩ _ _ (res2 (by rfl) (.tmp rfl) (.tmp rfl)) ⟨_, _, rfl, rfl, rfl⟩ (by repeat constructor) (by repeat constructor)
    refine go_bslice Tk rfl rfl rfl rfl rfl rfl rfl rfl (fun _ _ => satA) ?_
    intro bf
    refine go_lit tFa (b := bf) wn14 (by repeat constructor) (fun hp a => ⟨[_, _], _, rfl, tFa_mk (x := (⟨1, [10, 11]⟩ : Fa)) (a (sl tU _ _ [10, 11]) (by repeat constructor)), [_, _], _, rfl, tFa_mk (x := (⟨1, [11, 12]⟩ : Fa)) (a (sl tU _ _ [11, 12]) (by repeat constructor)), [_, _], [], rfl, tFa_mk (x := (⟨1, [12, 13]⟩ : Fa)) (a (sl tU _ _ [12, 13]) (by repeat constructor)), rfl⟩) (by decide) ?_
    refine go_bslice Tk rfl rfl rfl rfl rfl rfl rfl rfl (fun h => nomatch h) ?_
    intro bs
    refine go_lit tCl (b := bs) [wc14] (by repeat constructor) (fun hp a => ⟨[.int .u32 wc14.h.p, .slice (some ⟨u1, 0, none⟩) wc14.h.a.length 2, .slice (some ⟨u5, 0, none⟩) wc14.b.length 2], [], rfl, tCl_mk (a (sl tTm (some ⟨u1, 0, none⟩) 2 wc14.h.a) (by repeat constructor)) (a (sl tLi (some ⟨u5, 0, none⟩) 2 wc14.b) (by repeat constructor)), rfl⟩) (by simp) ?_
    iterate 2 refine go_pure1 Tk rfl rfl rfl ?_
    refine go_nil ?_
    refine go_env [(0, _), (1, _)] ⟨rfl, rfl, trivial⟩ ?_
    refine go_ret ⟨rfl, rfl⟩ _ _ (res2 (by rfl) (.tmp rfl) (.tmp rfl)) ⟨_, _, rfl, rfl, rfl⟩ (by repeat constructor) (by repeat constructor)
   refine go_bslice Tk rfl rfl rfl rfl rfl rfl rfl rfl (fun _ _ => satA) ?_
   intro b86
   refine go_lit_int (kk := .u32) [12, 13] (by repeat constructor) (by simp) ?_
   refine go_two ?_ ?_
   ·skip
    refine go_bslice Tk rfl rfl rfl rfl rfl rfl rfl rfl (fun h => nomatch h) ?_
    intro bs
    refine go_lit tCl (b := bs) [wc14] (by repeat constructor) (fun hp a => ⟨[.int .u32 wc14.h.p, .slice (some ⟨u1, 0, none⟩) wc14.h.a.length 2, .slice (some ⟨u5, 0, none⟩) wc14.b.length 2], [], rfl, tCl_mk (a (sl tTm (some ⟨u1, 0, none⟩) 2 wc14.h.a) (by repeat constructor)) (a (sl tLi (some ⟨u5, 0, none⟩) 2 wc14.b) (by repeat constructor)), rfl⟩) (by simp) ?_
    refine go_call (law13F 1 _ 2 2) rfl rfl (by rfl) rfl (by repeat constructor) (by repeat constructor) (fun _ v Ps' Os' hq => by obtain ⟨rfl, rfl, rfl⟩ := hq; exact satS (by repeat constructor) (by repeat constructor)) ?_
    rintro _ _ _ ⟨rfl, rfl, rfl⟩
    refine go_call (law13F 1 _ 2 2) rfl rfl (by rfl) rfl (by repeat constructor) (by repeat constructor) (fun _ v Ps' Os' hq => by obtain ⟨rfl, rfl, rfl⟩ := hq; exact satS (by repeat constructor) (by repeat constructor)) ?_
    rintro _ _ _ ⟨rfl, rfl, rfl⟩
    refine go_call (law13F 1 _ 2 2) rfl rfl (by rfl) rfl (by repeat constructor) (by repeat constructor) (fun _ v Ps' Os' hq => by obtain ⟨rfl, rfl, rfl⟩ := hq; exact satS (by repeat constructor) (by repeat constructor)) ?_
    rintro _ _ _ ⟨rfl, rfl, rfl⟩
    refine go_pure1 Tk rfl rfl rfl ?_
    refine go_bslice Tk rfl rfl rfl rfl rfl rfl rfl rfl (fun _ _ => satA) ?_
    intro bf
    refine go_lit tFa (b := bf) wn14 (by repeat constructor) (fun hp a => ⟨[_, _], _, rfl, tFa_mk (x := (⟨1, [10, 11]⟩ : Fa)) (a (sl tU _ _ [10, 11]) (by repeat constructor)), [_, _], _, rfl, tFa_mk (x := (⟨1, [11, 12]⟩ : Fa)) (a (sl tU _ _ [11, 12]) (by repeat constructor)), [_, _], [], rfl, tFa_mk (x := (⟨1, [12, 13]⟩ : Fa)) (a (sl tU _ _ [12, 13]) (by repeat constructor)), rfl⟩) (by decide) ?_
    refine go_pure1 Tk rfl rfl rfl ?_
    refine go_nil ?_
    refine go_env [(0, _), (1, _)] ⟨rfl, rfl, trivial⟩ ?_
    refine go_ret ⟨rfl, rfl⟩ _ _ (res2 (by rfl) (.tmp rfl) (.tmp rfl)) ⟨_, _, rfl, rfl, rfl⟩ (by repeat constructor) (by repeat constructor)
   refine go_call (law13F 1 _ 2 2) rfl rfl (by rfl) rfl (by repeat constructor) (by repeat constructor) (fun _ v Ps' Os' hq => by obtain ⟨rfl, rfl, rfl⟩ := hq; exact satS (by repeat constructor) (by repeat constructor)) ?_
   rintro _ _ _ ⟨rfl, rfl, rfl⟩
   refine go_two ?_ ?_
   ·skip
    refine go_bslice Tk rfl rfl rfl rfl rfl rfl rfl rfl (fun h => nomatch h) ?_
    intro bs
    refine go_lit tCl (b := bs) [wc14] (by repeat constructor) (fun hp a => ⟨[.int .u32 wc14.h.p, .slice (some ⟨u1, 0, none⟩) wc14.h.a.length 2, .slice (some ⟨u5, 0, none⟩) wc14.b.length 2], [], rfl, tCl_mk (a (sl tTm (some ⟨u1, 0, none⟩) 2 wc14.h.a) (by repeat constructor)) (a (sl tLi (some ⟨u5, 0, none⟩) 2 wc14.b) (by repeat constructor)), rfl⟩) (by simp) ?_
    refine go_call (law13F 1 _ 2 2) rfl rfl (by rfl) rfl (by repeat constructor) (by repeat constructor) (fun _ v Ps' Os' hq => by obtain ⟨rfl, rfl, rfl⟩ := hq; exact satS (by repeat constructor) (by repeat constructor)) ?_
    rintro _ _ _ ⟨rfl, rfl, rfl⟩
    refine go_call (law13F 1 _ 2 2) rfl rfl (by rfl) rfl (by repeat constructor) (by repeat constructor) (fun _ v Ps' Os' hq => by obtain ⟨rfl, rfl, rfl⟩ := hq; exact satS (by repeat constructor) (by repeat constructor)) ?_
    rintro _ _ _ ⟨rfl, rfl, rfl⟩
    refine go_pure1 Tk rfl rfl rfl ?_
    refine go_bslice Tk rfl rfl rfl rfl rfl rfl rfl rfl (fun _ _ => satA) ?_
    intro bf
    refine go_lit tFa (b := bf) wn14 (by repeat constructor) (fun hp a => ⟨[_, _], _, rfl, tFa_mk (x := (⟨1, [10, 11]⟩ : Fa)) (a (sl tU _ _ [10, 11]) (by repeat constructor)), [_, _], _, rfl, tFa_mk (x := (⟨1, [11, 12]⟩ : Fa)) (a (sl tU _ _ [11, 12]) (by repeat constructor)), [_, _], [], rfl, tFa_mk (x := (⟨1, [12, 13]⟩ : Fa)) (a (sl tU _ _ [12, 13]) (by repeat constructor)), rfl⟩) (by decide) ?_
    refine go_pure1 Tk rfl rfl rfl ?_
    refine go_nil ?_
    refine go_env [(0, _), (1, _)] ⟨rfl, rfl, trivial⟩ ?_
    refine go_ret ⟨rfl, rfl⟩ _ _ (res2 (by rfl) (.tmp rfl) (.tmp rfl)) ⟨_, _, rfl, rfl, rfl⟩ (by repeat constructor) (by repeat constructor)
   refine go_call (law13F 1 _ 2 2) rfl rfl (by rfl) rfl (by repeat constructor) (by repeat constructor) (fun _ v Ps' Os' hq => by obtain ⟨rfl, rfl, rfl⟩ := hq; exact satS (by repeat constructor) (by repeat constructor)) ?_
   rintro _ _ _ ⟨rfl, rfl, rfl⟩
   refine go_two ?_ ?_
   ·skip
    refine go_bslice Tk rfl rfl rfl rfl rfl rfl rfl rfl (fun h => nomatch h) ?_
    intro bs
    refine go_lit tCl (b := bs) [wc14] (by repeat constructor) (fun hp a => ⟨[.int .u32 wc14.h.p, .slice (some ⟨u1, 0, none⟩) wc14.h.a.length 2, .slice (some ⟨u5, 0, none⟩) wc14.b.length 2], [], rfl, tCl_mk (a (sl tTm (some ⟨u1, 0, none⟩) 2 wc14.h.a) (by repeat constructor)) (a (sl tLi (some ⟨u5, 0, none⟩) 2 wc14.b) (by repeat constructor)), rfl⟩) (by simp) ?_
    refine go_call (law13F 1 _ 2 2) rfl rfl (by rfl) rfl (by repeat constructor) (by repeat constructor) (fun _ v Ps' Os' hq => by obtain ⟨rfl, rfl, rfl⟩ := hq; exact satS (by repeat constructor) (by repeat constructor)) ?_
    rintro _ _ _ ⟨rfl, rfl, rfl⟩
    refine go_pure1 Tk rfl rfl rfl ?_
    refine go_bslice Tk rfl rfl rfl rfl rfl rfl rfl rfl (fun _ _ => satA) ?_
    intro bf
    refine go_lit tFa (b := bf) wn14 (by repeat constructor) (fun hp a => ⟨[_, _], _, rfl, tFa_mk (x := (⟨1, [10, 11]⟩ : Fa)) (a (sl tU _ _ [10, 11]) (by repeat constructor)), [_, _], _, rfl, tFa_mk (x := (⟨1, [11, 12]⟩ : Fa)) (a (sl tU _ _ [11, 12]) (by repeat constructor)), [_, _], [], rfl, tFa_mk (x := (⟨1, [12, 13]⟩ : Fa)) (a (sl tU _ _ [12, 13]) (by repeat constructor)), rfl⟩) (by decide) ?_
    refine go_pure1 Tk rfl rfl rfl ?_
    refine go_nil ?_
    refine go_env [(0, _), (1, _)] ⟨rfl, rfl, trivial⟩ ?_
    refine go_ret ⟨rfl, rfl⟩ _ _ (res2 (by rfl) (.tmp rfl) (.tmp rfl)) ⟨_, _, rfl, rfl, rfl⟩ (by repeat constructor) (by repeat constructor)
   refine go_call (law13F 1 _ 2 2) rfl rfl (by rfl) rfl (by repeat constructor) (by repeat constructor) (fun _ v Ps' Os' hq => by obtain ⟨rfl, rfl, rfl⟩ := hq; exact satS (by repeat constructor) (by repeat constructor)) ?_
   rintro _ _ _ ⟨rfl, rfl, rfl⟩
   refine go_two ?_ ?_
   ·skip
    refine go_bslice Tk rfl rfl rfl rfl rfl rfl rfl rfl (fun h => nomatch h) ?_
    intro bs
    refine go_lit tCl (b := bs) [wc14] (by repeat constructor) (fun hp a => ⟨[.int .u32 wc14.h.p, .slice (some ⟨u1, 0, none⟩) wc14.h.a.length 2, .slice (some ⟨u5, 0, none⟩) wc14.b.length 2], [], rfl, tCl_mk (a (sl tTm (some ⟨u1, 0, none⟩) 2 wc14.h.a) (by repeat constructor)) (a (sl tLi (some ⟨u5, 0, none⟩) 2 wc14.b) (by repeat constructor)), rfl⟩) (by simp) ?_
    refine go_pure1 Tk rfl rfl rfl ?_
    refine go_bslice Tk rfl rfl rfl rfl rfl rfl rfl rfl (fun _ _ => satA) ?_
    intro bf
    refine go_lit tFa (b := bf) wn14 (by repeat constructor) (fun hp a => ⟨[_, _], _, rfl, tFa_mk (x := (⟨1, [10, 11]⟩ : Fa)) (a (sl tU _ _ [10, 11]) (by repeat constructor)), [_, _], _, rfl, tFa_mk (x := (⟨1, [11, 12]⟩ : Fa)) (a (sl tU _ _ [11, 12]) (by repeat constructor)), [_, _], [], rfl, tFa_mk (x := (⟨1, [12, 13]⟩ : Fa)) (a (sl tU _ _ [12, 13]) (by repeat constructor)), rfl⟩) (by decide) ?_
    refine go_pure1 Tk rfl rfl rfl ?_
    refine go_nil ?_
    refine go_env [(0, _), (1, _)] ⟨rfl, rfl, trivial⟩ ?_
    refine go_ret ⟨rfl, rfl⟩ _ _ (res2 (by rfl) (.tmp rfl) (.tmp rfl)) ⟨_, _, rfl, rfl, rfl⟩ (by repeat constructor) (by repeat constructor)
   refine go_bslice Tk rfl rfl rfl rfl rfl rfl rfl rfl (fun _ _ => satA) ?_
   intro bf
   refine go_lit tFa (b := bf) wn14 (by repeat constructor) (fun hp a => ⟨[_, _], _, rfl, tFa_mk (x := (⟨1, [10, 11]⟩ : Fa)) (a (sl tU _ _ [10, 11]) (by repeat constructor)), [_, _], _, rfl, tFa_mk (x := (⟨1, [11, 12]⟩ : Fa)) (a (sl tU _ _ [11, 12]) (by repeat constructor)), [_, _], [], rfl, tFa_mk (x := (⟨1, [12, 13]⟩ : Fa)) (a (sl tU _ _ [12, 13]) (by repeat constructor)), rfl⟩) (by decide) ?_
   refine go_bslice Tk rfl rfl rfl rfl rfl rfl rfl rfl (fun h => nomatch h) ?_
   intro bs
   refine go_lit tCl (b := bs) [wc14] (by repeat constructor) (fun hp a => ⟨[.int .u32 wc14.h.p, .slice (some ⟨u1, 0, none⟩) wc14.h.a.length 2, .slice (some ⟨u5, 0, none⟩) wc14.b.length 2], [], rfl, tCl_mk (a (sl tTm (some ⟨u1, 0, none⟩) 2 wc14.h.a) (by repeat constructor)) (a (sl tLi (some ⟨u5, 0, none⟩) 2 wc14.b) (by repeat constructor)), rfl⟩) (by simp) ?_
   iterate 2 refine go_pure1 Tk rfl rfl rfl ?_
   refine go_nil ?_
   refine go_env [(0, _), (1, _)] ⟨rfl, rfl, trivial⟩ ?_
   refine go_ret ⟨rfl, rfl⟩ _ _ (res2 (by rfl) (.tmp rfl) (.tmp rfl)) ⟨_, _, rfl, rfl, rfl⟩ (by repeat constructor) (by repeat constructor)
  refine go_bslice Tk rfl rfl rfl rfl rfl rfl rfl rfl (fun _ _ => satA) ?_
  intro b87
  refine go_lit_int (kk := .u32) [12, 13] (by repeat constructor) (by simp) ?_
  refine go_two ?_ ?_
  ·skip
   refine go_bslice Tk rfl rfl rfl rfl rfl rfl rfl rfl (fun h => nomatch h) ?_
   intro bs
   refine go_lit tCl (b := bs) [wc14] (by repeat constructor) (fun hp a => ⟨[.int .u32 wc14.h.p, .slice (some ⟨u1, 0, none⟩) wc14.h.a.length 2, .slice (some ⟨u5, 0, none⟩) wc14.b.length 2], [], rfl, tCl_mk (a (sl tTm (some ⟨u1, 0, none⟩) 2 wc14.h.a) (by repeat constructor)) (a (sl tLi (some ⟨u5, 0, none⟩) 2 wc14.b) (by repeat constructor)), rfl⟩) (by simp) ?_
   refine go_bslice Tk rfl rfl rfl rfl rfl rfl rfl rfl (fun _ _ => satA) ?_
   intro b88
   refine go_lit_int (kk := .u32) [10, 11] (by repeat constructor) (by simp) ?_
   refine go_call (law13F 1 _ 2 2) rfl rfl (by rfl) rfl (by repeat constructor) (by repeat constructor) (fun _ v Ps' Os' hq => by obtain ⟨rfl, rfl, rfl⟩ := hq; exact satS (by repeat constructor) (by repeat constructor)) ?_
   rintro _ _ _ ⟨rfl, rfl, rfl⟩
   refine go_call (law13F 1 _ 2 2) rfl rfl (by rfl) rfl (by repeat constructor) (by repeat constructor) (fun _ v Ps' Os' hq => by obtain ⟨rfl, rfl, rfl⟩ := hq; exact satS (by repeat constructor) (by repeat constructor)) ?_
   rintro _ _ _ ⟨rfl, rfl, rfl⟩
   refine go_call (law13F 1 _ 2 2) rfl rfl (by rfl) rfl (by repeat constructor) (by repeat constructor) (fun _ v Ps' Os' hq => by obtain ⟨rfl, rfl, rfl⟩ := hq; exact satS (by repeat constructor) (by repeat constructor)) ?_
   rintro _ _ _ ⟨rfl, rfl, rfl⟩
   refine go_pure1 Tk rfl rfl rfl ?_
   refine go_bslice Tk rfl rfl rfl rfl rfl rfl rfl rfl (fun _ _ => satA) ?_
   intro bf
   refine go_lit tFa (b := bf) wn14 (by repeat constructor) (fun hp a => ⟨[_, _], _, rfl, tFa_mk (x := (⟨1, [10, 11]⟩ : Fa)) (a (sl tU _ _ [10, 11]) (by repeat constructor)), [_, _], _, rfl, tFa_mk (x := (⟨1, [11, 12]⟩ : Fa)) (a (sl tU _ _ [11, 12]) (by repeat constructor)), [_, _], [], rfl, tFa_mk (x := (⟨1, [12, 13]⟩ : Fa)) (a (sl tU _ _ [12, 13]) (by repeat constructor)), rfl⟩) (by decide) ?_
   refine go_pure1 Tk rfl rfl rfl ?_
   refine go_nil ?_
   refine go_env [(0, _), (1, _)] ⟨rfl, rfl, trivial⟩ ?_
   refine go_ret ⟨rfl, rfl⟩ _ _ (res2 (by rfl) (.tmp rfl) (.tmp rfl)) ⟨_, _, rfl, rfl, rfl⟩ (by repeat constructor) (by repeat constructor)
  refine go_bslice Tk rfl rfl rfl rfl rfl rfl rfl rfl (fun _ _ => satA) ?_
  intro b89
  refine go_lit_int (kk := .u32) [10, 11] (by repeat constructor) (by simp) ?_
  refine go_two ?_ ?_
  ·skip
   refine go_bslice Tk rfl rfl rfl rfl rfl rfl rfl rfl (fun h => nomatch h) ?_
   intro bs
   refine go_lit tCl (b := bs) [wc14] (by repeat constructor) (fun hp a => ⟨[.int .u32 wc14.h.p, .slice (some ⟨u1, 0, none⟩) wc14.h.a.length 2, .slice (some ⟨u5, 0, none⟩) wc14.b.length 2], [], rfl, tCl_mk (a (sl tTm (some ⟨u1, 0, none⟩) 2 wc14.h.a) (by repeat constructor)) (a (sl tLi (some ⟨u5, 0, none⟩) 2 wc14.b) (by repeat constructor)), rfl⟩) (by simp) ?_
   refine go_call (law13F 1 _ 2 2) rfl rfl (by rfl) rfl (by repeat constructor) (by repeat constructor) (fun _ v Ps' Os' hq => by obtain ⟨rfl, rfl, rfl⟩ := hq; exact satS (by repeat constructor) (by repeat constructor)) ?_
   rintro _ _ _ ⟨rfl, rfl, rfl⟩
   refine go_call (law13F 1 _ 2 2) rfl rfl (by rfl) rfl (by repeat constructor) (by repeat constructor) (fun _ v Ps' Os' hq => by obtain ⟨rfl, rfl, rfl⟩ := hq; exact satS (by repeat constructor) (by repeat constructor)) ?_
   rintro _ _ _ ⟨rfl, rfl, rfl⟩
   refine go_call (law13F 1 _ 2 2) rfl rfl (by rfl) rfl (by repeat constructor) (by repeat constructor) (fun _ v Ps' Os' hq => by obtain ⟨rfl, rfl, rfl⟩ := hq; exact satS (by repeat constructor) (by repeat constructor)) ?_
   rintro _ _ _ ⟨rfl, rfl, rfl⟩
   refine go_pure1 Tk rfl rfl rfl ?_
   refine go_bslice Tk rfl rfl rfl rfl rfl rfl rfl rfl (fun _ _ => satA) ?_
   intro bf
   refine go_lit tFa (b := bf) wn14 (by repeat constructor) (fun hp a => ⟨[_, _], _, rfl, tFa_mk (x := (⟨1, [10, 11]⟩ : Fa)) (a (sl tU _ _ [10, 11]) (by repeat constructor)), [_, _], _, rfl, tFa_mk (x := (⟨1, [11, 12]⟩ : Fa)) (a (sl tU _ _ [11, 12]) (by repeat constructor)), [_, _], [], rfl, tFa_mk (x := (⟨1, [12, 13]⟩ : Fa)) (a (sl tU _ _ [12, 13]) (by repeat constructor)), rfl⟩) (by decide) ?_
   refine go_pure1 Tk rfl rfl rfl ?_
   refine go_nil ?_
   refine go_env [(0, _), (1, _)] ⟨rfl, rfl, trivial⟩ ?_
   refine go_ret ⟨rfl, rfl⟩ _ _ (res2 (by rfl) (.tmp rfl) (.tmp rfl)) ⟨_, _, rfl, rfl, rfl⟩ (by repeat constructor) (by repeat constructor)
  refine go_call (law13F 1 _ 2 2) rfl rfl (by rfl) rfl (by repeat constructor) (by repeat constructor) (fun _ v Ps' Os' hq => by obtain ⟨rfl, rfl, rfl⟩ := hq; exact satS (by repeat constructor) (by repeat constructor)) ?_
  rintro _ _ _ ⟨rfl, rfl, rfl⟩
  refine go_two ?_ ?_
  ·skip
   refine go_bslice Tk rfl rfl rfl rfl rfl rfl rfl rfl (fun h => nomatch h) ?_
   intro bs
   refine go_lit tCl (b := bs) [wc14] (by repeat constructor) (fun hp a => ⟨[.int .u32 wc14.h.p, .slice (some ⟨u1, 0, none⟩) wc14.h.a.length 2, .slice (some ⟨u5, 0, none⟩) wc14.b.length 2], [], rfl, tCl_mk (a (sl tTm (some ⟨u1, 0, none⟩) 2 wc14.h.a) (by repeat constructor)) (a (sl tLi (some ⟨u5, 0, none⟩) 2 wc14.b) (by repeat constructor)), rfl⟩) (by simp) ?_
   refine go_call (law13F 1 _ 2 2) rfl rfl (by rfl) rfl (by repeat constructor) (by repeat constructor) (fun _ v Ps' Os' hq => by obtain ⟨rfl, rfl, rfl⟩ := hq; exact satS (by repeat constructor) (by repeat constructor)) ?_
   rintro _ _ _ ⟨rfl, rfl, rfl⟩
   refine go_call (law13F 1 _ 2 2) rfl rfl (by rfl) rfl (by repeat constructor) (by repeat constructor) (fun _ v Ps' Os' hq => by obtain ⟨rfl, rfl, rfl⟩ := hq; exact satS (by repeat constructor) (by repeat constructor)) ?_
   rintro _ _ _ ⟨rfl, rfl, rfl⟩
   refine go_pure1 Tk rfl rfl rfl ?_
   refine go_bslice Tk rfl rfl rfl rfl rfl rfl rfl rfl (fun _ _ => satA) ?_
   intro bf
   refine go_lit tFa (b := bf) wn14 (by repeat constructor) (fun hp a => ⟨[_, _], _, rfl, tFa_mk (x := (⟨1, [10, 11]⟩ : Fa)) (a (sl tU _ _ [10, 11]) (by repeat constructor)), [_, _], _, rfl, tFa_mk (x := (⟨1, [11, 12]⟩ : Fa)) (a (sl tU _ _ [11, 12]) (by repeat constructor)), [_, _], [], rfl, tFa_mk (x := (⟨1, [12, 13]⟩ : Fa)) (a (sl tU _ _ [12, 13]) (by repeat constructor)), rfl⟩) (by decide) ?_
   refine go_pure1 Tk rfl rfl rfl ?_
   refine go_nil ?_
   refine go_env [(0, _), (1, _)] ⟨rfl, rfl, trivial⟩ ?_
   refine go_ret ⟨rfl, rfl⟩ _ _ (res2 (by rfl) (.tmp rfl) (.tmp rfl)) ⟨_, _, rfl, rfl, rfl⟩ (by repeat constructor) (by repeat constructor)
  refine go_call (law13F 1 _ 2 2) rfl rfl (by rfl) rfl (by repeat constructor) (by repeat constructor) (fun _ v Ps' Os' hq => by obtain ⟨rfl, rfl, rfl⟩ := hq; exact satS (by repeat constructor) (by repeat constructor)) ?_
  rintro _ _ _ ⟨rfl, rfl, rfl⟩
  refine go_two ?_ ?_
  ·skip
   refine go_bslice Tk rfl rfl rfl rfl rfl rfl rfl rfl (fun h => nomatch h) ?_
   intro bs
   refine go_lit tCl (b := bs) [wc14] (by repeat constructor) (fun hp a => ⟨[.int .u32 wc14.h.p, .slice (some ⟨u1, 0, none⟩) wc14.h.a.length 2, .slice (some ⟨u5, 0, none⟩) wc14.b.length 2], [], rfl, tCl_mk (a (sl tTm (some ⟨u1, 0, none⟩) 2 wc14.h.a) (by repeat constructor)) (a (sl tLi (some ⟨u5, 0, none⟩) 2 wc14.b) (by repeat constructor)), rfl⟩) (by simp) ?_
   refine go_call (law13F 1 _ 2 2) rfl rfl (by rfl) rfl (by repeat constructor) (by repeat constructor) (fun _ v Ps' Os' hq => by obtain ⟨rfl, rfl, rfl⟩ := hq; exact satS (by repeat constructor) (by repeat constructor)) ?_
   rintro _ _ _ ⟨rfl, rfl, rfl⟩
   refine go_pure1 Tk rfl rfl rfl ?_
   refine go_bslice Tk rfl rfl rfl rfl rfl rfl rfl rfl (fun _ _ => satA) ?_
   intro bf
   refine go_lit tFa (b := bf) wn14 (by repeat constructor) (fun hp a => ⟨[_, _], _, rfl, tFa_mk (x := (⟨1, [10, 11]⟩ : Fa)) (a (sl tU _ _ [10, 11]) (by repeat constructor)), [_, _], _, rfl, tFa_mk (x := (⟨1, [11, 12]⟩ : Fa)) (a (sl tU _ _ [11, 12]) (by repeat constructor)), [_, _], [], rfl, tFa_mk (x := (⟨1, [12, 13]⟩ : Fa)) (a (sl tU _ _ [12, 13]) (by repeat constructor)), rfl⟩) (by decide) ?_
   refine go_pure1 Tk rfl rfl rfl ?_
   refine go_nil ?_
   refine go_env [(0, _), (1, _)] ⟨rfl, rfl, trivial⟩ ?_
   refine go_ret ⟨rfl, rfl⟩ _ _ (res2 (by rfl) (.tmp rfl) (.tmp rfl)) ⟨_, _, rfl, rfl, rfl⟩ (by repeat constructor) (by repeat constructor)
  refine go_call (law13F 1 _ 2 2) rfl rfl (by rfl) rfl (by repeat constructor) (by repeat constructor) (fun _ v Ps' Os' hq => by obtain ⟨rfl, rfl, rfl⟩ := hq; exact satS (by repeat constructor) (by repeat constructor)) ?_
  rintro _ _ _ ⟨rfl, rfl, rfl⟩
  refine go_two ?_ ?_
  ·skip
   refine go_bslice Tk rfl rfl rfl rfl rfl rfl rfl rfl (fun h => nomatch h) ?_
   intro bs
   refine go_lit tCl (b := bs) [wc14] (by repeat constructor) (fun hp a => ⟨[.int .u32 wc14.h.p, .slice (some ⟨u1, 0, none⟩) wc14.h.a.length 2, .slice (some ⟨u5, 0, none⟩) wc14.b.length 2], [], rfl, tCl_mk (a (sl tTm (some ⟨u1, 0, none⟩) 2 wc14.h.a) (by repeat constructor)) (a (sl tLi (some ⟨u5, 0, none⟩) 2 wc14.b) (by repeat constructor)), rfl⟩) (by simp) ?_
   refine go_pure1 Tk rfl rfl rfl ?_
   refine go_bslice Tk rfl rfl rfl rfl rfl rfl rfl rfl (fun _ _ => satA) ?_
   intro bf
   refine go_lit tFa (b := bf) wn14 (by repeat constructor) (fun hp a => ⟨[_, _], _, rfl, tFa_mk (x := (⟨1, [10, 11]⟩ : Fa)) (a (sl tU _ _ [10, 11]) (by repeat constructor)), [_, _], _, rfl, tFa_mk (x := (⟨1, [11, 12]⟩ : Fa)) (a (sl tU _ _ [11, 12]) (by repeat constructor)), [_, _], [], rfl, tFa_mk (x := (⟨1, [12, 13]⟩ : Fa)) (a (sl tU _ _ [12, 13]) (by repeat constructor)), rfl⟩) (by decide) ?_
   refine go_pure1 Tk rfl rfl rfl ?_
   refine go_nil ?_
   refine go_env [(0, _), (1, _)] ⟨rfl, rfl, trivial⟩ ?_
   refine go_ret ⟨rfl, rfl⟩ _ _ (res2 (by rfl) (.tmp rfl) (.tmp rfl)) ⟨_, _, rfl, rfl, rfl⟩ (by repeat constructor) (by repeat constructor)
  refine go_bslice Tk rfl rfl rfl rfl rfl rfl rfl rfl (fun _ _ => satA) ?_
  intro bf
  refine go_lit tFa (b := bf) wn14 (by repeat constructor) (fun hp a => ⟨[_, _], _, rfl, tFa_mk (x := (⟨1, [10, 11]⟩ : Fa)) (a (sl tU _ _ [10, 11]) (by repeat constructor)), [_, _], _, rfl, tFa_mk (x := (⟨1, [11, 12]⟩ : Fa)) (a (sl tU _ _ [11, 12]) (by repeat constructor)), [_, _], [], rfl, tFa_mk (x := (⟨1, [12, 13]⟩ : Fa)) (a (sl tU _ _ [12, 13]) (by repeat constructor)), rfl⟩) (by decide) ?_
  refine go_bslice Tk rfl rfl rfl rfl rfl rfl rfl rfl (fun h => nomatch h) ?_
  intro bs
  refine go_lit tCl (b := bs) [wc14] (by repeat constructor) (fun hp a => ⟨[.int .u32 wc14.h.p, .slice (some ⟨u1, 0, none⟩) wc14.h.a.length 2, .slice (some ⟨u5, 0, none⟩) wc14.b.length 2], [], rfl, tCl_mk (a (sl tTm (some ⟨u1, 0, none⟩) 2 wc14.h.a) (by repeat constructor)) (a (sl tLi (some ⟨u5, 0, none⟩) 2 wc14.b) (by repeat constructor)), rfl⟩) (by simp) ?_
  iterate 2 refine go_pure1 Tk rfl rfl rfl ?_
  refine go_nil ?_
  refine go_env [(0, _), (1, _)] ⟨rfl, rfl, trivial⟩ ?_
  refine go_ret ⟨rfl, rfl⟩ _ _ (res2 (by rfl) (.tmp rfl) (.tmp rfl)) ⟨_, _, rfl, rfl, rfl⟩ (by repeat constructor) (by repeat constructor)
 refine go_bslice Tk rfl rfl rfl rfl rfl rfl rfl rfl (fun _ _ => satA) ?_
 intro b90
 refine go_lit_int (kk := .u32) [12, 13] (by repeat constructor) (by simp) ?_
 refine go_two ?_ ?_
 ·skip
  refine go_bslice Tk rfl rfl rfl rfl rfl rfl rfl rfl (fun h => nomatch h) ?_
  intro bs
  refine go_lit tCl (b := bs) [wc14] (by repeat constructor) (fun hp a => ⟨[.int .u32 wc14.h.p, .slice (some ⟨u1, 0, none⟩) wc14.h.a.length 2, .slice (some ⟨u5, 0, none⟩) wc14.b.length 2], [], rfl, tCl_mk (a (sl tTm (some ⟨u1, 0, none⟩) 2 wc14.h.a) (by repeat constructor)) (a (sl tLi (some ⟨u5, 0, none⟩) 2 wc14.b) (by repeat constructor)), rfl⟩) (by simp) ?_
  refine go_two ?_ ?_
  ·skip
   refine go_bslice Tk rfl rfl rfl rfl rfl rfl rfl rfl (fun _ _ => satA) ?_
   intro b91
   refine go_lit_int (kk := .u32) [10, 11] (by repeat constructor) (by simp) ?_
   refine go_two ?_ ?_
   ·skip
    refine go_call (law13F 1 _ 2 2) rfl rfl (by rfl) rfl (by repeat constructor) (by repeat constructor) (fun _ v Ps' Os' hq => by obtain ⟨rfl, rfl, rfl⟩ := hq; exact satS (by repeat constructor) (by repeat constructor)) ?_
    rintro _ _ _ ⟨rfl, rfl, rfl⟩
    refine go_bslice Tk rfl rfl rfl rfl rfl rfl rfl rfl (fun _ _ => satA) ?_
    intro b92
    refine go_lit_int (kk := .u32) [11, 12] (by repeat constructor) (by simp) ?_
    refine go_call (law13F 1 _ 2 2) rfl rfl (by rfl) rfl (by repeat constructor) (by repeat constructor) (fun _ v Ps' Os' hq => by obtain ⟨rfl, rfl, rfl⟩ := hq; exact satS (by repeat constructor) (by repeat constructor)) ?_
    rintro _ _ _ ⟨rfl, rfl, rfl⟩
    refine go_call (law13F 1 _ 2 2) rfl rfl (by rfl) rfl (by repeat constructor) (by repeat constructor) (fun _ v Ps' Os' hq => by obtain ⟨rfl, rfl, rfl⟩ := hq; exact satS (by repeat constructor) (by repeat constructor)) ?_
    rintro _ _ _ ⟨rfl, rfl, rfl⟩
    refine go_pure1 Tk rfl rfl rfl ?_
    refine go_bslice Tk rfl rfl rfl rfl rfl rfl rfl rfl (fun _ _ => satA) ?_
    intro bf
    refine go_lit tFa (b := bf) wn14 (by repeat constructor) (fun hp a => ⟨[_, _], _, rfl, tFa_mk (x := (⟨1, [10, 11]⟩ : Fa)) (a (sl tU _ _ [10, 11]) (by repeat constructor)), [_, _], _, rfl, tFa_mk (x := (⟨1, [11, 12]⟩ : Fa)) (a (sl tU _ _ [11, 12]) (by repeat constructor)), [_, _], [], rfl, tFa_mk (x := (⟨1, [12, 13]⟩ : Fa)) (a (sl tU _ _ [12, 13]) (by repeat constructor)), rfl⟩) (by decide) ?_
    refine go_pure1 Tk rfl rfl rfl ?_
    refine go_nil ?_
    refine go_env [(0, _), (1, _)] ⟨rfl, rfl, trivial⟩ ?_
    refine go_ret ⟨rfl, rfl⟩ _ _ (res2 (by rfl) (.tmp rfl) (.tmp rfl)) ⟨_, _, rfl, rfl, rfl⟩ (by repeat constructor) (by repeat constructor)
   refine go_bslice Tk rfl rfl rfl rfl rfl rfl rfl rfl (fun _ _ => satA) ?_
   intro b93
   refine go_lit_int (kk := .u32) [11, 12] (by repeat constructor) (by simp) ?_
   refine go_call (law13F 1 _ 2 2) rfl rfl (by rfl) rfl (by repeat constructor) (by repeat constructor) (fun _ v Ps' Os' hq => by obtain ⟨rfl, rfl, rfl⟩ := hq; exact satS (by repeat constructor) (by repeat constructor)) ?_
   rintro _ _ _ ⟨rfl, rfl, rfl⟩
   refine go_call (law13F 1 _ 2 2) rfl rfl (by rfl) rfl (by repeat constructor) (by repeat constructor) (fun _ v Ps' Os' hq => by obtain ⟨rfl, rfl, rfl⟩ := hq; exact satS (by repeat constructor) (by repeat constructor)) ?_
   rintro _ _ _ ⟨rfl, rfl, rfl⟩
   refine go_call (law13F 1 _ 2 2) rfl rfl (by rfl) rfl (by repeat constructor) (by repeat constructor) (fun _ v Ps' Os' hq => by obtain ⟨rfl, rfl, rfl⟩ := hq; exact satS (by repeat constructor) (by repeat constructor)) ?_
   rintro _ _ _ ⟨rfl, rfl, rfl⟩
   refine go_pure1 Tk rfl rfl rfl ?_
   refine go_bslice Tk rfl rfl rfl rfl rfl rfl rfl rfl (fun _ _ => satA) ?_
   intro bf
   refine go_lit tFa (b := bf) wn14 (by repeat constructor) (fun hp a => ⟨[_, _], _, rfl, tFa_mk (x := (⟨1, [10, 11]⟩ : Fa)) (a (sl tU _ _ [10, 11]) (by repeat constructor)), [_, _], _, rfl, tFa_mk (x := (⟨1, [11, 12]⟩ : Fa)) (a (sl tU _ _ [11, 12]) (by repeat constructor)), [_, _], [], rfl, tFa_mk (x := (⟨1, [12, 13]⟩ : Fa)) (a (sl tU _ _ [12, 13]) (by repeat constructor)), rfl⟩) (by decide) ?_
   refine go_pure1 Tk rfl rfl rfl ?_
   refine go_nil ?_
   refine go_env [(0, _), (1, _)] ⟨rfl, rfl, trivial⟩ ?_
   refine go_ret ⟨rfl, rfl⟩ _ _ (res2 (by rfl) (.tmp rfl) (.tmp rfl)) ⟨_, _, rfl, rfl, rfl⟩ (by repeat constructor) (by repeat constructor)
  refine go_bslice Tk rfl rfl rfl rfl rfl rfl rfl rfl (fun _ _ => satA) ?_
  intro b94
  refine go_lit_int (kk := .u32) [11, 12] (by repeat constructor) (by simp) ?_
  refine go_bslice Tk rfl rfl rfl rfl rfl rfl rfl rfl (fun _ _ => satA) ?_
  intro b95
  refine go_lit_int (kk := .u32) [10, 11] (by repeat constructor) (by simp) ?_
  refine go_call (law13F 1 _ 2 2) rfl rfl (by rfl) rfl (by repeat constructor) (by repeat constructor) (fun _ v Ps' Os' hq => by obtain ⟨rfl, rfl, rfl⟩ := hq; exact satS (by repeat constructor) (by repeat constructor)) ?_
  rintro _ _ _ ⟨rfl, rfl, rfl⟩
  refine go_call (law13F 1 _ 2 2) rfl rfl (by rfl) rfl (by repeat constructor) (by repeat constructor) (fun _ v Ps' Os' hq => by obtain ⟨rfl, rfl, rfl⟩ := hq; exact satS (by repeat constructor) (by repeat constructor)) ?_
  rintro _ _ _ ⟨rfl, rfl, rfl⟩
  refine go_call (law13F 1 _ 2 2) rfl rfl (by rfl) rfl (by repeat constructor) (by repeat constructor) (fun _ v Ps' Os' hq => by obtain ⟨rfl, rfl, rfl⟩ := hq; exact satS (by repeat constructor) (by repeat constructor)) ?_
  rintro _ _ _ ⟨rfl, rfl, rfl⟩
  refine go_pure1 Tk rfl rfl rfl ?_
  refine go_bslice Tk rfl rfl rfl rfl rfl rfl rfl rfl (fun _ _ => satA) ?_
  intro bf
  refine go_lit tFa (b := bf) wn14 (by repeat constructor) (fun hp a => ⟨[_, _], _, rfl, tFa_mk (x := (⟨1, [10, 11]⟩ : Fa)) (a (sl tU _ _ [10, 11]) (by repeat constructor)), [_, _], _, rfl, tFa_mk (x := (⟨1, [11, 12]⟩ : Fa)) (a (sl tU _ _ [11, 12]) (by repeat constructor)), [_, _], [], rfl, tFa_mk (x := (⟨1, [12, 13]⟩ : Fa)) (a (sl tU _ _ [12, 13]) (by repeat constructor)), rfl⟩) (by decide) ?_
  refine go_pure1 Tk rfl rfl rfl ?_
  refine go_nil ?_
  refine go_env [(0, _), (1, _)] ⟨rfl, rfl, trivial⟩ ?_
  refine go_ret ⟨rfl, rfl⟩ _ _ (res2 (by rfl) (.tmp rfl) (.tmp rfl)) ⟨_, _, rfl, rfl, rfl⟩ (by repeat constructor) (by repeat constructor)
 refine go_two ?_ ?_
 ·skip
  refine go_bslice Tk rfl rfl rfl rfl rfl rfl rfl rfl (fun _ _ => satA) ?_
  intro b96
  refine go_lit_int (kk := .u32) [10, 11] (by repeat constructor) (by simp) ?_
  refine go_two ?_ ?_
  ·skip
   refine go_bslice Tk rfl rfl rfl rfl rfl rfl rfl rfl (fun h => nomatch h) ?_
   intro bs
   refine go_lit tCl (b := bs) [wc14] (by repeat constructor) (fun hp a => ⟨[.int .u32 wc14.h.p, .slice (some ⟨u1, 0, none⟩) wc14.h.a.length 2, .slice (some ⟨u5, 0, none⟩) wc14.b.length 2], [], rfl, tCl_mk (a (sl tTm (some ⟨u1, 0, none⟩) 2 wc14.h.a) (by repeat constructor)) (a (sl tLi (some ⟨u5, 0, none⟩) 2 wc14.b) (by repeat constructor)), rfl⟩) (by simp) ?_
   refine go_two ?_ ?_
   ·skip
    refine go_call (law13F 1 _ 2 2) rfl rfl (by rfl) rfl (by repeat constructor) (by repeat constructor) (fun _ v Ps' Os' hq => by obtain ⟨rfl, rfl, rfl⟩ := hq; exact satS (by repeat constructor) (by repeat constructor)) ?_
    rintro _ _ _ ⟨rfl, rfl, rfl⟩
    refine go_bslice Tk rfl rfl rfl rfl rfl rfl rfl rfl (fun _ _ => satA) ?_
    intro b97
    refine go_lit_int (kk := .u32) [11, 12] (by repeat constructor) (by simp) ?_
    refine go_call (law13F 1 _ 2 2) rfl rfl (by rfl) rfl (by repeat constructor) (by repeat constructor) (fun _ v Ps' Os' hq => by obtain ⟨rfl, rfl, rfl⟩ := hq; exact satS (by repeat constructor) (by repeat constructor)) ?_
    rintro _ _ _ ⟨rfl, rfl, rfl⟩
    refine go_call (law13F 1 _ 2 2) rfl rfl (by rfl) rfl (by repeat constructor) (by repeat constructor) (fun _ v Ps' Os' hq => by obtain ⟨rfl, rfl, rfl⟩ := hq; exact satS (by repeat constructor) (by repeat constructor)) ?_
    rintro _ _ _ ⟨rfl, rfl, rfl⟩
    refine go_pure1 Tk rfl rfl rfl ?_
    refine go_bslice Tk rfl rfl rfl rfl rfl rfl rfl rfl (fun _ _ => satA) ?_
    intro bf
    refine go_lit tFa (b := bf) wn14 (by repeat constructor) (fun hp a => ⟨[_, _], _, rfl, tFa_mk (x := (⟨1, [10, 11]⟩ : Fa)) (a (sl tU _ _ [10, 11]) (by repeat constructor)), [_, _], _, rfl, tFa_mk (x := (⟨1, [11, 12]⟩ : Fa)) (a (sl tU _ _ [11, 12]) (by repeat constructor)), [_, _], [], rfl, tFa_mk (x := (⟨1, [12, 13]⟩ : Fa)) (a (sl tU _ _ [12, 13]) (by repeat constructor)), rfl⟩) (by decide) ?_
    refine go_pure1 Tk rfl rfl rfl ?_
    refine go_nil ?_
    refine go_env [(0, _), (1, _)] ⟨rfl, rfl, trivial⟩ ?_
    refine go_ret ⟨rfl, rfl⟩ _ _ (res2 (by rfl) (.tmp rfl) (.tmp rfl)) ⟨_, _, rfl, rfl, rfl⟩ (by repeat constructor) (by repeat constructor)
   refine go_bslice Tk rfl rfl rfl rfl rfl rfl rfl rfl (fun _ _ => satA) ?_
   intro b98
   refine go_lit_int (kk := .u32) [11, 12] (by repeat constructor) (by simp) ?_
   refine go_call (law13F 1 _ 2 2) rfl rfl (by rfl) rfl (by repeat constructor) (by repeat constructor) (fun _ v Ps' Os' hq => by obtain ⟨rfl, rfl, rfl⟩ := hq; exact satS (by repeat constructor) (by repeat constructor)) ?_
   rintro _ _ _ ⟨rfl, rfl, rfl⟩
   refine go_call (law13F 1 _ 2 2) rfl rfl (by rfl) rfl (by repeat constructor) (by repeat constructor) (fun _ v Ps' Os' hq => by obtain ⟨rfl, rfl, rfl⟩ := hq; exact satS (by repeat constructor) (by repeat constructor)) ?_
   rintro _ _ _ ⟨rfl, rfl, rfl⟩
   refine go_call (law13F 1 _ 2 2) rfl rfl (by rfl) rfl (by repeat constructor) (by repeat constructor) (fun _ v Ps' Os' hq => by obtain ⟨rfl, rfl, rfl⟩ := hq; exact satS (by repeat constructor) (by repeat constructor)) ?_
   rintro _ _ _ ⟨rfl, rfl, rfl⟩
   refine go_pure1 Tk rfl rfl rfl ?_
   refine go_bslice Tk rfl rfl rfl rfl rfl rfl rfl rfl (fun _ _ => satA) ?_
   intro bf
   refine go_lit tFa (b := bf) wn14 (by repeat constructor) (fun hp a => ⟨[_, _], _, rfl, tFa_mk (x := (⟨1, [10, 11]⟩ : Fa)) (a (sl tU _ _ [10, 11]) (by repeat constructor)), [_, _], _, rfl, tFa_mk (x := (⟨1, [11, 12]⟩ : Fa)) (a (sl tU _ _ [11, 12]) (by repeat constructor)), [_, _], [], rfl, tFa_mk (x := (⟨1, [12, 13]⟩ : Fa)) (a (sl tU _ _ [12, 13]) (by repeat constructor)), rfl⟩) (by decide) ?_
   refine go_pure1 Tk rfl rfl rfl ?_
   refine go_nil ?_
   refine go_env [(0, _), (1, _)] ⟨rfl, rfl, trivial⟩ ?_
   refine go_ret ⟨rfl, rfl⟩ _ _ (res2 (by rfl) (.tmp rfl) (.tmp rfl)) ⟨_, _, rfl, rfl, rfl⟩ (by repeat constructor) (by repeat constructor)
  refine go_two ?_ ?_
  ·skip
   refine go_call (law13F 1 _ 2 2) rfl rfl (by rfl) rfl (by repeat constructor) (by repeat constructor) (fun _ v Ps' Os' hq => by obtain ⟨rfl, rfl, rfl⟩ := hq; exact satS (by repeat constructor) (by repeat constructor)) ?_
   rintro _ _ _ ⟨rfl, rfl, rfl⟩
   refine go_two ?_ ?_
   ·skip
    refine go_bslice Tk rfl rfl rfl rfl rfl rfl rfl rfl (fun h => nomatch h) ?_
    intro bs
    refine go_lit tCl (b := bs) [wc14] (by repeat constructor) (fun hp a => ⟨[.int .u32 wc14.h.p, .slice (some ⟨u1, 0, none⟩) wc14.h.a.length 2, .slice (some ⟨u5, 0, none⟩) wc14.b.length 2], [], rfl, tCl_mk (a (sl tTm (some ⟨u1, 0, none⟩) 2 wc14.h.a) (by repeat constructor)) (a (sl tLi (some ⟨u5, 0, none⟩) 2 wc14.b) (by repeat constructor)), rfl⟩) (by simp) ?_
    refine go_bslice Tk rfl rfl rfl rfl rfl rfl rfl rfl (fun _ _ => satA) ?_
    intro b99
    refine go_lit_int (kk := .u32) [11, 12] (by repeat constructor) (by simp) ?_
    refine go_call (law13F 1 _ 2 2) rfl rfl (by rfl) rfl (by repeat constructor) (by repeat constructor) (fun _ v Ps' Os' hq => by obtain ⟨rfl, rfl, rfl⟩ := hq; exact satS (by repeat constructor) (by repeat constructor)) ?_
    rintro _ _ _ ⟨rfl, rfl, rfl⟩
    refine go_call (law13F 1 _ 2 2) rfl rfl (by rfl) rfl (by repeat constructor) (by repeat constructor) (fun _ v Ps' Os' hq => by obtain ⟨rfl, rfl, rfl⟩ := hq; exact satS (by repeat constructor) (by repeat constructor)) ?_
    rintro _ _ _ ⟨rfl, rfl, rfl⟩
    refine go_pure1 Tk rfl rfl rfl ?_
    refine go_bslice Tk rfl rfl rfl rfl rfl rfl rfl rfl (fun _ _ => satA) ?_
    intro bf
    refine go_lit tFa (b := bf) wn14 (by repeat constructor) (fun hp a => ⟨[_, _], _, rfl, tFa_mk (x := (⟨1, [10, 11]⟩ : Fa)) (a (sl tU _ _ [10, 11]) (by repeat constructor)), [_, _], _, rfl, tFa_mk (x := (⟨1, [11, 12]⟩ : Fa)) (a (sl tU _ _ [11, 12]) (by repeat constructor)), [_, _], [], rfl, tFa_mk (x := (⟨1, [12, 13]⟩ : Fa)) (a (sl tU _ _ [12, 13]) (by repeat constructor)), rfl⟩) (by decide) ?_
    refine go_pure1 Tk rfl rfl rfl ?_
    refine go_nil ?_
    refine go_env [(0, _), (1, _)] ⟨rfl, rfl, trivial⟩ ?_
    refine go_ret ⟨rfl, rfl⟩ _ _ (res2 (by rfl) (.tmp rfl) (.tmp rfl)) ⟨_, _, rfl, rfl, rfl⟩ (by repeat constructor) (by repeat constructor)
   refine go_bslice Tk rfl rfl rfl rfl rfl rfl rfl rfl (fun _ _ => satA) ?_
   intro b100
   refine go_lit_int (kk := .u32) [11, 12] (by repeat constructor) (by simp) ?_
   refine go_two ?_ ?_
   ·skip
    refine go_bslice Tk rfl rfl rfl rfl rfl rfl rfl rfl (fun h => nomatch h) ?_
    intro bs
    refine go_lit tCl (b := bs) [wc14] (by repeat constructor) (fun hp a => ⟨[.int .u32 wc14.h.p, .slice (some ⟨u1, 0, none⟩) wc14.h.a.length 2, .slice (some ⟨u5, 0, none⟩) wc14.b.length 2], [], rfl, tCl_mk (a (sl tTm (some ⟨u1, 0, none⟩) 2 wc14.h.a) (by repeat constructor)) (a (sl tLi (some ⟨u5, 0, none⟩) 2 wc14.b) (by repeat constructor)), rfl⟩) (by simp) ?_
    refine go_call (law13F 1 _ 2 2) rfl rfl (by rfl) rfl (by repeat constructor) (by repeat constructor) (fun _ v Ps' Os' hq => by obtain ⟨rfl, rfl, rfl⟩ := hq; exact satS (by repeat constructor) (by repeat constructor)) ?_
    rintro _ _ _ ⟨rfl, rfl, rfl⟩
    refine go_call (law13F 1 _ 2 2) rfl rfl (by rfl) rfl (by repeat constructor) (by repeat constructor) (fun _ v Ps' Os' hq => by obtain ⟨rfl, rfl, rfl⟩ := hq; exact satS (by repeat constructor) (by repeat constructor)) ?_
    rintro _ _ _ ⟨rfl, rfl, rfl⟩
    refine go_pure1 Tk rfl rfl rfl ?_
    refine go_bslice Tk rfl rfl rfl rfl rfl rfl rfl rfl (fun _ _ => satA) ?_
    intro bf
    refine go_lit tFa (b := bf) wn14 (by repeat constructor) (fun hp a => ⟨[_, _], _, rfl, tFa_mk (x := (⟨1, [10, 11]⟩ : Fa)) (a (sl tU _ _ [10, 11]) (by repeat constructor)), [_, _], _, rfl, tFa_mk (x := (⟨1, [11, 12]⟩ : Fa)) (a (sl tU _ _ [11, 12]) (by repeat constructor)), [_, _], [], rfl, tFa_mk (x := (⟨1, [12, 13]⟩ : Fa)) (a (sl tU _ _ [12, 13]) (by repeat constructor)), rfl⟩) (by decide) ?_
    refine go_pure1 Tk rfl rfl rfl ?_
    refine go_nil ?_
    refine go_env [(0, _), (1, _)] ⟨rfl, rfl, trivial⟩ ?_
    refine go_ret ⟨rfl, rfl⟩ _ _ (res2 (by rfl) (.tmp rfl) (.tmp rfl)) ⟨_, _, rfl, rfl, rfl⟩ (by repeat constructor) (by repeat constructor)
   refine go_call (law13F 1 _ 2 2) rfl rfl (by rfl) rfl (by repeat constructor) (by repeat constructor) (fun _ v Ps' Os' hq => by obtain ⟨rfl, rfl, rfl⟩ := hq; exact satS (by repeat constructor) (by repeat constructor)) ?_
   rintro _ _ _ ⟨rfl, rfl, rfl⟩
   refine go_two ?_ ?_
   ·skip
    refine go_bslice Tk rfl rfl rfl rfl rfl rfl rfl rfl (fun h => nomatch h) ?_
    intro bs
    refine go_lit tCl (b := bs) [wc14] (by repeat constructor) (fun hp a => ⟨[.int .u32 wc14.h.p, .slice (some ⟨u1, 0, none⟩) wc14.h.a.length 2, .slice (some ⟨u5, 0, none⟩) wc14.b.length 2], [], rfl, tCl_mk (a (sl tTm (some ⟨u1, 0, none⟩) 2 wc14.h.a) (by repeat constructor)) (a (sl tLi (some ⟨u5, 0, none⟩) 2 wc14.b) (by repeat constructor)), rfl⟩) (by simp) ?_
    refine go_call (law13F 1 _ 2 2) rfl rfl (by rfl) rfl (by repeat constructor) (by repeat constructor) (fun _ v Ps' Os' hq => by obtain ⟨rfl, rfl, rfl⟩ := hq; exact satS (by repeat constructor) (by repeat constructor)) ?_
    rintro _ _ _ ⟨rfl, rfl, rfl⟩
    refine go_pure1 Tk rfl rfl rfl ?_
    refine go_bslice Tk rfl rfl rfl rfl rfl rfl rfl rfl (fun _ _ => satA) ?_
    intro bf
    refine go_lit tFa (b := bf) wn14 (by repeat constructor) (fun hp a => ⟨[_, _], _, rfl, tFa_mk (x := (⟨1, [10, 11]⟩ : Fa)) (a (sl tU _ _ [10, 11]) (by repeat constructor)), [_, _], _, rfl, tFa_mk (x := (⟨1, [11, 12]⟩ : Fa)) (a (sl tU _ _ [11, 12]) (by repeat constructor)), [_, _], [], rfl, tFa_mk (x := (⟨1, [12, 13]⟩ : Fa)) (a (sl tU _ _ [12, 13]) (by repeat constructor)), rfl⟩) (by decide) ?_
    refine go_pure1 Tk rfl rfl rfl ?_
    refine go_nil ?_
    refine go_env [(0, _), (1, _)] ⟨rfl, rfl, trivial⟩ ?_
    refine go_ret ⟨rfl, rfl⟩ _ _ (res2 (by rfl) (.tmp rfl) (.tmp rfl)) ⟨_, _, rfl, rfl, rfl⟩ (by repeat constructor) (by repeat constructor)
   refine go_call (law13F 1 _ 2 2) rfl rfl (by rfl) rfl (by repeat constructor) (by repeat constructor) (fun _ v Ps' Os' hq => by obtain ⟨rfl, rfl, rfl⟩ := hq; exact satS (by repeat constructor) (by repeat constructor)) ?_
   rintro _ _ _ ⟨rfl, rfl, rfl⟩
   refine go_two ?_ ?_
   ·skip
    refine go_bslice Tk rfl rfl rfl rfl rfl rfl rfl rfl (fun h => nomatch h) ?_
    intro bs
    refine go_lit tCl (b := bs) [wc14] (by repeat constructor) (fun hp a => ⟨[.int .u32 wc14.h.p, .slice (some ⟨u1, 0, none⟩) wc14.h.a.length 2, .slice (some ⟨u5, 0, none⟩) wc14.b.length 2], [], rfl, tCl_mk (a (sl tTm (some ⟨u1, 0, none⟩) 2 wc14.h.a) (by repeat constructor)) (a (sl tLi (some ⟨u5, 0, none⟩) 2 wc14.b) (by repeat constructor)), rfl⟩) (by simp) ?_
    refine go_pure1 Tk rfl rfl rfl ?_
    refine go_bslice Tk rfl rfl rfl rfl rfl rfl rfl rfl (fun _ _ => satA) ?_
    intro bf
    refine go_lit tFa (b := bf) wn14 (by repeat constructor) (fun hp a => ⟨[_, _], _, rfl, tFa_mk (x := (⟨1, [10, 11]⟩ : Fa)) (a (sl tU _ _ [10, 11]) (by repeat constructor)), [_, _], _, rfl, tFa_mk (x := (⟨1, [11, 12]⟩ : Fa)) (a (sl tU _ _ [11, 12]) (by repeat constructor)), [_, _], [], rfl, tFa_mk (x := (⟨1, [12, 13]⟩ : Fa)) (a (sl tU _ _ [12, 13]) (by repeat constructor)), rfl⟩) (by decide) ?_
    refine go_pure1 Tk rfl rfl rfl ?_
    refine go_nil ?_
    refine go_env [(0, _), (1, _)] ⟨rfl, rfl, trivial⟩ ?_
    refine go_ret ⟨rfl, rfl⟩ _ _ (res2 (by rfl) (.tmp rfl) (.tmp rfl)) ⟨_, _, rfl, rfl, rfl⟩ (by repeat constructor) (by repeat constructor)
   refine go_bslice Tk rfl rfl rfl rfl rfl rfl rfl rfl (fun _ _ => satA) ?_
   intro bf
   refine go_lit tFa (b := bf) wn14 (by repeat constructor) (fun hp a => ⟨[_, _], _, rfl, tFa_mk (x := (⟨1, [10, 11]⟩ : Fa)) (a (sl tU _ _ [10, 11]) (by repeat constructor)), [_, _], _, rfl, tFa_mk (x := (⟨1, [11, 12]⟩ : Fa)) (a (sl tU _ _ [11, 12]) (by repeat constructor)), [_, _], [], rfl, tFa_mk (x := (⟨1, [12, 13]⟩ : Fa)) (a (sl tU _ _ [12, 13]) (by repeat constructor)), rfl⟩) (by decide) ?_
   refine go_bslice Tk rfl rfl rfl rfl rfl rfl rfl rfl (fun h => nomatch h) ?_
   intro bs
   refine go_lit tCl (b := bs) [wc14] (by repeat constructor) (fun hp a => ⟨[.int .u32 wc14.h.p, .slice (some ⟨u1, 0, none⟩) wc14.h.a.length 2, .slice (some ⟨u5, 0, none⟩) wc14.b.length 2], [], rfl, tCl_mk (a (sl tTm (some ⟨u1, 0, none⟩) 2 wc14.h.a) (by repeat constructor)) (a (sl tLi (some ⟨u5, 0, none⟩) 2 wc14.b) (by repeat constructor)), rfl⟩) (by simp) ?_
   iterate 2 refine go_pure1 Tk rfl rfl rfl ?_
   refine go_nil ?_
   refine go_env [(0, _), (1, _)] ⟨rfl, rfl, trivial⟩ ?_
   refine go_ret ⟨rfl, rfl⟩ _ _ (res2 (by rfl) (.tmp rfl) (.tmp rfl)) ⟨_, _, rfl, rfl, rfl⟩ (by repeat constructor) (by repeat constructor)
  refine go_bslice Tk rfl rfl rfl rfl rfl rfl rfl rfl (fun _ _ => satA) ?_
  intro b101
  refine go_lit_int (kk := .u32) [11, 12] (by repeat constructor) (by simp) ?_
  refine go_two ?_ ?_
  ·skip
   refine go_bslice Tk rfl rfl rfl rfl rfl rfl rfl rfl (fun h => nomatch h) ?_
   intro bs
   refine go_lit tCl (b := bs) [wc14] (by repeat constructor) (fun hp a => ⟨[.int .u32 wc14.h.p, .slice (some ⟨u1, 0, none⟩) wc14.h.a.length 2, .slice (some ⟨u5, 0, none⟩) wc14.b.length 2], [], rfl, tCl_mk (a (sl tTm (some ⟨u1, 0, none⟩) 2 wc14.h.a) (by repeat constructor)) (a (sl tLi (some ⟨u5, 0, none⟩) 2 wc14.b) (by repeat constructor)), rfl⟩) (by simp) ?_
   refine go_call (law13F 1 _ 2 2) rfl rfl (by rfl) rfl (by repeat constructor) (by repeat constructor) (fun _ v Ps' Os' hq => by obtain ⟨rfl, rfl, rfl⟩ := hq; exact satS (by repeat constructor) (by repeat constructor)) ?_
   rintro _ _ _ ⟨rfl, rfl, rfl⟩
   refine go_call (law13F 1 _ 2 2) rfl rfl (by rfl) rfl (by repeat constructor) (by repeat constructor) (fun _ v Ps' Os' hq => by obtain ⟨rfl, rfl, rfl⟩ := hq; exact satS (by repeat constructor) (by repeat constructor)) ?_
   rintro _ _ _ ⟨rfl, rfl, rfl⟩
   refine go_call (law13F 1 _ 2 2) rfl rfl (by rfl) rfl (by repeat constructor) (by repeat constructor) (fun _ v Ps' Os' hq => by obtain ⟨rfl, rfl, rfl⟩ := hq; exact satS (by repeat constructor) (by repeat constructor)) ?_
   rintro _ _ _ ⟨rfl, rfl, rfl⟩
   refine go_pure1 Tk rfl rfl rfl ?_
   refine go_bslice Tk rfl rfl rfl rfl rfl rfl rfl rfl (fun _ _ => satA) ?_
   intro bf
   refine go_lit tFa (b := bf) wn14 (by repeat constructor) (fun hp a => ⟨[_, _], _, rfl, tFa_mk (x := (⟨1, [10, 11]⟩ : Fa)) (a (sl tU _ _ [10, 11]) (by repeat constructor)), [_, _], _, rfl, tFa_mk (x := (⟨1, [11, 12]⟩ : Fa)) (a (sl tU _ _ [11, 12]) (by repeat constructor)), [_, _], [], rfl, tFa_mk (x := (⟨1, [12, 13]⟩ : Fa)) (a (sl tU _ _ [12, 13]) (by repeat constructor)), rfl⟩) (by decide) ?_
   refine go_pure1 Tk rfl rfl rfl ?_
   refine go_nil ?_
   refine go_env [(0, _), (1, _)] ⟨rfl, rfl, trivial⟩ ?_
   refine go_ret ⟨rfl, rfl⟩ _ _ (res2 (by rfl) (.tmp rfl) (.tmp rfl)) ⟨_, _, rfl, rfl, rfl⟩ (by repeat constructor) (by repeat constructor)
  refine go_call (law13F 1 _ 2 2) rfl rfl (by rfl) rfl (by repeat constructor) (by repeat constructor) (fun _ v Ps' Os' hq => by obtain ⟨rfl, rfl, rfl⟩ := hq; exact satS (by repeat constructor) (by repeat constructor)) ?_
  rintro _ _ _ ⟨rfl, rfl, rfl⟩
  refine go_two ?_ ?_
  ·skip
   refine go_bslice Tk rfl rfl rfl rfl rfl rfl rfl rfl (fun h => nomatch h) ?_
   intro bs
   refine go_lit tCl (b := bs) [wc14] (by repeat constructor) (fun hp a => ⟨[.int .u32 wc14.h.p, .slice (some ⟨u1, 0, none⟩) wc14.h.a.length 2, .slice (some ⟨u5, 0, none⟩) wc14.b.length 2], [], rfl, tCl_mk (a (sl tTm (some ⟨u1, 0, none⟩) 2 wc14.h.a) (by repeat constructor)) (a (sl tLi (some ⟨u5, 0, none⟩) 2 wc14.b) (by repeat constructor)), rfl⟩) (by simp) ?_
   refine go_call (law13F 1 _ 2 2) rfl rfl (by rfl) rfl (by repeat constructor) (by repeat constructor) (fun _ v Ps' Os' hq => by obtain ⟨rfl, rfl, rfl⟩ := hq; exact satS (by repeat constructor) (by repeat constructor)) ?_
   rintro _ _ _ ⟨rfl, rfl, rfl⟩
   refine go_call (law13F 1 _ 2 2) rfl rfl (by rfl) rfl (by repeat constructor) (by repeat constructor) (fun _ v Ps' Os' hq => by obtain ⟨rfl, rfl, rfl⟩ := hq; exact satS (by repeat constructor) (by repeat constructor)) ?_
   rintro _ _ _ ⟨rfl, rfl, rfl⟩
   refine go_pure1 Tk rfl rfl rfl ?_
   refine go_bslice Tk rfl rfl rfl rfl rfl rfl rfl rfl (fun _ _ => satA) ?_
   intro bf
   refine go_lit tFa (b := bf) wn14 (by repeat constructor) (fun hp a => ⟨[_, _], _, rfl, tFa_mk (x := (⟨1, [10, 11]⟩ : Fa)) (a (sl tU _ _ [10, 11]) (by repeat constructor)), [_, _], _, rfl, tFa_mk (x := (⟨1, [11, 12]⟩ : Fa)) (a (sl tU _ _ [11, 12]) (by repeat constructor)), [_, _], [], rfl, tFa_mk (x := (⟨1, [12, 13]⟩ : Fa)) (a (sl tU _ _ [12, 13]) (by repeat constructor)), rfl⟩) (by decide) ?_
   refine go_pure1 Tk rfl rfl rfl ?_
   refine go_nil ?_
   refine go_env [(0, _), (1, _)] ⟨rfl, rfl, trivial⟩ ?_
   refine go_ret ⟨rfl, rfl⟩ _ _ (res2 (by rfl) (.tmp rfl) (.tmp rfl)) ⟨_, _, rfl, rfl, rfl⟩ (by repeat constructor) (by repeat constructor)
  refine go_call (law13F 1 _ 2 2) rfl rfl (by rfl) rfl (by repeat constructor) (by repeat constructor) (fun _ v Ps' Os' hq => by obtain ⟨rfl, rfl, rfl⟩ := hq; exact satS (by repeat constructor) (by repeat constructor)) ?_
  rintro _ _ _ ⟨rfl, rfl, rfl⟩
  refine go_two ?_ ?_
  ·skip
   refine go_bslice Tk rfl rfl rfl rfl rfl rfl rfl rfl (fun h => nomatch h) ?_
   intro bs
   refine go_lit tCl (b := bs) [wc14] (by repeat constructor) (fun hp a => ⟨[.int .u32 wc14.h.p, .slice (some ⟨u1, 0, none⟩) wc14.h.a.length 2, .slice (some ⟨u5, 0, none⟩) wc14.b.length 2], [], rfl, tCl_mk (a (sl tTm (some ⟨u1, 0, none⟩) 2 wc14.h.a) (by repeat constructor)) (a (sl tLi (some ⟨u5, 0, none⟩) 2 wc14.b) (by repeat constructor)), rfl⟩) (by simp) ?_
   refine go_call (law13F 1 _ 2 2) rfl rfl (by rfl) rfl (by repeat constructor) (by repeat constructor) (fun _ v Ps' Os' hq => by obtain ⟨rfl, rfl, rfl⟩ := hq; exact satS (by repeat constructor) (by repeat constructor)) ?_
   rintro _ _ _ ⟨rfl, rfl, rfl⟩
   refine go_pure1 Tk rfl rfl rfl ?_
   refine go_bslice Tk rfl rfl rfl rfl rfl rfl rfl rfl (fun _ _ => satA) ?_
   intro bf
   refine go_lit tFa (b := bf) wn14 (by repeat constructor) (fun hp a => ⟨[_, _], _, rfl, tFa_mk (x := (⟨1, [10, 11]⟩ : Fa)) (a (sl tU _ _ [10, 11]) (by repeat constructor)), [_, _], _, rfl, tFa_mk (x := (⟨1, [11, 12]⟩ : Fa)) (a (sl tU _ _ [11, 12]) (by repeat constructor)), [_, _], [], rfl, tFa_mk (x := (⟨1, [12, 13]⟩ : Fa)) (a (sl tU _ _ [12, 13]) (by repeat constructor)), rfl⟩) (by decide) ?_
   refine go_pure1 Tk rfl rfl rfl ?_
   refine go_nil ?_
   refine go_env [(0, _), (1, _)] ⟨rfl, rfl, trivial⟩ ?_
   refine go_ret ⟨rfl, rfl⟩ _ _ (res2 (by rfl) (.tmp rfl) (.tmp rfl)) ⟨_, _, rfl, rfl, rfl⟩ (by repeat constructor) (by repeat constructor)
  refine go_call (law13F 1 _ 2 2) rfl rfl (by rfl) rfl (by repeat constructor) (by repeat constructor) (fun _ v Ps' Os' hq => by obtain ⟨rfl, rfl, rfl⟩ := hq; exact satS (by repeat constructor) (by repeat constructor)) ?_
  rintro _ _ _ ⟨rfl, rfl, rfl⟩
  refine go_two ?_ ?_
  ·skip
   refine go_bslice Tk rfl rfl rfl rfl rfl rfl rfl rfl (fun h => nomatch h) ?_
   intro bs
   refine go_lit tCl (b := bs) [wc14] (by repeat constructor) (fun hp a => ⟨[.int .u32 wc14.h.p, .slice (some ⟨u1, 0, none⟩) wc14.h.a.length 2, .slice (some ⟨u5, 0, none⟩) wc14.b.length 2], [], rfl, tCl_mk (a (sl tTm (some ⟨u1, 0, none⟩) 2 wc14.h.a) (by repeat constructor)) (a (sl tLi (some ⟨u5, 0, none⟩) 2 wc14.b) (by repeat constructor)), rfl⟩) (by simp) ?_
   refine go_pure1 Tk rfl rfl rfl ?_
   refine go_bslice Tk rfl rfl rfl rfl rfl rfl rfl rfl (fun _ _ => satA) ?_
   intro bf
   refine go_lit tFa (b := bf) wn14 (by repeat constructor) (fun hp a => ⟨[_, _], _, rfl, tFa_mk (x := (⟨1, [10, 11]⟩ : Fa)) (a (sl tU _ _ [10, 11]) (by repeat constructor)), [_, _], _, rfl, tFa_mk (x := (⟨1, [11, 12]⟩ : Fa)) (a (sl tU _ _ [11, 12]) (by repeat constructor)), [_, _], [], rfl, tFa_mk (x := (⟨1, [12, 13]⟩ : Fa)) (a (sl tU _ _ [12, 13]) (by repeat constructor)), rfl⟩) (by decide) ?_
   refine go_pure1 Tk rfl rfl rfl ?_
   refine go_nil ?_
   refine go_env [(0, _), (1, _)] ⟨rfl, rfl, trivial⟩ ?_
   refine go_ret ⟨rfl, rfl⟩ _ _ (res2 (by rfl) (.tmp rfl) (.tmp rfl)) ⟨_, _, rfl, rfl, rfl⟩ (by repeat constructor) (by repeat constructor)
  refine go_bslice Tk rfl rfl rfl rfl rfl rfl rfl rfl (fun _ _ => satA) ?_
  intro bf
  refine go_lit tFa (b := bf) wn14 (by repeat constructor) (fun hp a => ⟨[_, _], _, rfl, tFa_mk (x := (⟨1, [10, 11]⟩ : Fa)) (a (sl tU _ _ [10, 11]) (by repeat constructor)), [_, _], _, rfl, tFa_mk (x := (⟨1, [11, 12]⟩ : Fa)) (a (sl tU _ _ [11, 12]) (by repeat constructor)), [_, _], [], rfl, tFa_mk (x := (⟨1, [12, 13]⟩ : Fa)) (a (sl tU _ _ [12, 13]) (by repeat constructor)), rfl⟩) (by decide) ?_
  refine go_bslice Tk rfl rfl rfl rfl rfl rfl rfl rfl (fun h => nomatch h) ?_
  intro bs
  refine go_lit tCl (b := bs) [wc14] (by repeat constructor) (fun hp a => ⟨[.int .u32 wc14.h.p, .slice (some ⟨u1, 0, none⟩) wc14.h.a.length 2, .slice (some ⟨u5, 0, none⟩) wc14.b.length 2], [], rfl, tCl_mk (a (sl tTm (some ⟨u1, 0, none⟩) 2 wc14.h.a) (by repeat constructor)) (a (sl tLi (some ⟨u5, 0, none⟩) 2 wc14.b) (by repeat constructor)), rfl⟩) (by simp) ?_
  iterate 2 refine go_pure1 Tk rfl rfl rfl ?_
  refine go_nil ?_
  refine go_env [(0, _), (1, _)] ⟨rfl, rfl, trivial⟩ ?_
  refine go_ret ⟨rfl, rfl⟩ _ _ (res2 (by rfl) (.tmp rfl) (.tmp rfl)) ⟨_, _, rfl, rfl, rfl⟩ (by repeat constructor) (by repeat constructor)
 refine go_bslice Tk rfl rfl rfl rfl rfl rfl rfl rfl (fun _ _ => satA) ?_
 intro b102
 refine go_lit_int (kk := .u32) [11, 12] (by repeat constructor) (by simp) ?_
 refine go_two ?_ ?_
 ·skip
  refine go_bslice Tk rfl rfl rfl rfl rfl rfl rfl rfl (fun h => nomatch h) ?_
  intro bs
  refine go_lit tCl (b := bs) [wc14] (by repeat constructor) (fun hp a => ⟨[.int .u32 wc14.h.p, .slice (some ⟨u1, 0, none⟩) wc14.h.a.length 2, .slice (some ⟨u5, 0, none⟩) wc14.b.length 2], [], rfl, tCl_mk (a (sl tTm (some ⟨u1, 0, none⟩) 2 wc14.h.a) (by repeat constructor)) (a (sl tLi (some ⟨u5, 0, none⟩) 2 wc14.b) (by repeat constructor)), rfl⟩) (by simp) ?_
  refine go_bslice Tk rfl rfl rfl rfl rfl rfl rfl rfl (fun _ _ => satA) ?_
  intro b103
  refine go_lit_int (kk := .u32) [10, 11] (by repeat constructor) (by simp) ?_
  refine go_call (law13F 1 _ 2 2) rfl rfl (by rfl) rfl (by repeat constructor) (by repeat constructor) (fun _ v Ps' Os' hq => by obtain ⟨rfl, rfl, rfl⟩ := hq; exact satS (by repeat constructor) (by repeat constructor)) ?_
  rintro _ _ _ ⟨rfl, rfl, rfl⟩
  refine go_call (law13F 1 _ 2 2) rfl rfl (by rfl) rfl (by repeat constructor) (by repeat constructor) (fun _ v Ps' Os' hq => by obtain ⟨rfl, rfl, rfl⟩ := hq; exact satS (by repeat constructor) (by repeat constructor)) ?_
  rintro _ _ _ ⟨rfl, rfl, rfl⟩
  refine go_call (law13F 1 _ 2 2) rfl rfl (by rfl) rfl (by repeat constructor) (by repeat constructor) (fun _ v Ps' Os' hq => by obtain ⟨rfl, rfl, rfl⟩ := hq; exact satS (by repeat constructor) (by repeat constructor)) ?_
  rintro _ _ _ ⟨rfl, rfl, rfl⟩
  refine go_pure1 Tk rfl rfl rfl ?_
  refine go_bslice Tk rfl rfl rfl rfl rfl rfl rfl rfl (fun _ _ => satA) ?_
  intro bf
  refine go_lit tFa (b := bf) wn14 (by repeat constructor) (fun hp a => ⟨[_, _], _, rfl, tFa_mk (x := (⟨1, [10, 11]⟩ : Fa)) (a (sl tU _ _ [10, 11]) (by repeat constructor)), [_, _], _, rfl, tFa_mk (x := (⟨1, [11, 12]⟩ : Fa)) (a (sl tU _ _ [11, 12]) (by repeat constructor)), [_, _], [], rfl, tFa_mk (x := (⟨1, [12, 13]⟩ : Fa)) (a (sl tU _ _ [12, 13]) (by repeat constructor)), rfl⟩) (by decide) ?_
  refine go_pure1 Tk rfl rfl rfl ?_
  refine go_nil ?_
  refine go_env [(0, _), (1, _)] ⟨rfl, rfl, trivial⟩ ?_
  refine go_ret ⟨rfl, rfl⟩ _ _ (res2 (by rfl) (.tmp rfl) (.tmp rfl)) ⟨_, _, rfl, rfl, rfl⟩ (by repeat constructor) (by repeat constructor)
 refine go_bslice Tk rfl rfl rfl rfl rfl rfl rfl rfl (fun _ _ => satA) ?_
 intro b104
 refine go_lit_int (kk := .u32) [10, 11] (by repeat constructor) (by simp) ?_
 refine go_two ?_ ?_
 ·skip
  refine go_bslice Tk rfl rfl rfl rfl rfl rfl rfl rfl (fun h => nomatch h) ?_
  intro bs
  refine go_lit tCl (b := bs) [wc14] (by repeat constructor) (fun hp a => ⟨[.int .u32 wc14.h.p, .slice (some ⟨u1, 0, none⟩) wc14.h.a.length 2, .slice (some ⟨u5, 0, none⟩) wc14.b.length 2], [], rfl, tCl_mk (a (sl tTm (some ⟨u1, 0, none⟩) 2 wc14.h.a) (by repeat constructor)) (a (sl tLi (some ⟨u5, 0, none⟩) 2 wc14.b) (by repeat constructor)), rfl⟩) (by simp) ?_
  refine go_call (law13F 1 _ 2 2) rfl rfl (by rfl) rfl (by repeat constructor) (by repeat constructor) (fun _ v Ps' Os' hq => by obtain ⟨rfl, rfl, rfl⟩ := hq; exact satS (by repeat constructor) (by repeat constructor)) ?_
  rintro _ _ _ ⟨rfl, rfl, rfl⟩
  refine go_call (law13F 1 _ 2 2) rfl rfl (by rfl) rfl (by repeat constructor) (by repeat constructor) (fun _ v Ps' Os' hq => by obtain ⟨rfl, rfl, rfl⟩ := hq; exact satS (by repeat constructor) (by repeat constructor)) ?_
  rintro _ _ _ ⟨rfl, rfl, rfl⟩
  refine go_call (law13F 1 _ 2 2) rfl rfl (by rfl) rfl (by repeat constructor) (by repeat constructor) (fun _ v Ps' Os' hq => by obtain ⟨rfl, rfl, rfl⟩ := hq; exact satS (by repeat constructor) (by repeat constructor)) ?_
  rintro _ _ _ ⟨rfl, rfl, rfl⟩
  refine go_pure1 Tk rfl rfl rfl ?_
  refine go_bslice Tk rfl rfl rfl rfl rfl rfl rfl rfl (fun _ _ => satA) ?_
  intro bf
  refine go_lit tFa (b := bf) wn14 (by repeat constructor) (fun hp a => ⟨[_, _], _, rfl, tFa_mk (x := (⟨1, [10, 11]⟩ : Fa)) (a (sl tU _ _ [10, 11]) (by repeat constructor)), [_, _], _, rfl, tFa_mk (x := (⟨1, [11, 12]⟩ : Fa)) (a (sl tU _ _ [11, 12]) (by repeat constructor)), [_, _], [], rfl, tFa_mk (x := (⟨1, [12, 13]⟩ : Fa)) (a (sl tU _ _ [12, 13]) (by repeat constructor)), rfl⟩) (by decide) ?_
  refine go_pure1 Tk rfl rfl rfl ?_
  refine go_nil ?_
  refine go_env [(0, _), (1, _)] ⟨rfl, rfl, trivial⟩ ?_
  refine go_ret ⟨rfl, rfl⟩ _ _ (res2 (by rfl) (.tmp rfl) (.tmp rfl)) ⟨_, _, rfl, rfl, rfl⟩ (by repeat constructor) (by repeat constructor)
 refine go_call (law13F 1 _ 2 2) rfl rfl (by rfl) rfl (by repeat constructor) (by repeat constructor) (fun _ v Ps' Os' hq => by obtain ⟨rfl, rfl, rfl⟩ := hq; exact satS (by repeat constructor) (by repeat constructor)) ?_
 rintro _ _ _ ⟨rfl, rfl, rfl⟩
 refine go_two ?_ ?_
 ·skip
  refine go_bslice Tk rfl rfl rfl rfl rfl rfl rfl rfl (fun h => nomatch h) ?_
  intro bs
  refine go_lit tCl (b := bs) [wc14] (by repeat constructor) (fun hp a => ⟨[.int .u32 wc14.h.p, .slice (some ⟨u1, 0, none⟩) wc14.h.a.length 2, .slice (some ⟨u5, 0, none⟩) wc14.b.length 2], [], rfl, tCl_mk (a (sl tTm (some ⟨u1, 0, none⟩) 2 wc14.h.a) (by repeat constructor)) (a (sl tLi (some ⟨u5, 0, none⟩) 2 wc14.b) (by repeat constructor)), rfl⟩) (by simp) ?_
  refine go_call (law13F 1 _ 2 2) rfl rfl (by rfl) rfl (by repeat constructor) (by repeat constructor) (fun _ v Ps' Os' hq => by obtain ⟨rfl, rfl, rfl⟩ := hq; exact satS (by repeat constructor) (by repeat constructor)) ?_
  rintro _ _ _ ⟨rfl, rfl, rfl⟩
  refine go_call (law13F 1 _ 2 2) rfl rfl (by rfl) rfl (by repeat constructor) (by repeat constructor) (fun _ v Ps' Os' hq => by obtain ⟨rfl, rfl, rfl⟩ := hq; exact satS (by repeat constructor) (by repeat constructor)) ?_
  rintro _ _ _ ⟨rfl, rfl, rfl⟩
  refine go_pure1 Tk rfl rfl rfl ?_
  refine go_bslice Tk rfl rfl rfl rfl rfl rfl rfl rfl (fun _ _ => satA) ?_
  intro bf
  refine go_lit tFa (b := bf) wn14 (by repeat constructor) (fun hp a => ⟨[_, _], _, rfl, tFa_mk (x := (⟨1, [10, 11]⟩ : Fa)) (a (sl tU _ _ [10, 11]) (by repeat constructor)), [_, _], _, rfl, tFa_mk (x := (⟨1, [11, 12]⟩ : Fa)) (a (sl tU _ _ [11, 12]) (by repeat constructor)), [_, _], [], rfl, tFa_mk (x := (⟨1, [12, 13]⟩ : Fa)) (a (sl tU _ _ [12, 13]) (by repeat constructor)), rfl⟩) (by decide) ?_
  refine go_pure1 Tk rfl rfl rfl ?_
  refine go_nil ?_
  refine go_env [(0, _), (1, _)] ⟨rfl, rfl, trivial⟩ ?_
  refine go_ret ⟨rfl, rfl⟩ _ _ (res2 (by rfl) (.tmp rfl) (.tmp rfl)) ⟨_, _, rfl, rfl, rfl⟩ (by repeat constructor) (by repeat constructor)
 refine go_call (law13F 1 _ 2 2) rfl rfl (by rfl) rfl (by repeat constructor) (by repeat constructor) (fun _ v Ps' Os' hq => by obtain ⟨rfl, rfl, rfl⟩ := hq; exact satS (by repeat constructor) (by repeat constructor)) ?_
 rintro _ _ _ ⟨rfl, rfl, rfl⟩
 refine go_two ?_ ?_
 ·skip
  refine go_bslice Tk rfl rfl rfl rfl rfl rfl rfl rfl (fun h => nomatch h) ?_
  intro bs
  refine go_lit tCl (b := bs) [wc14] (by repeat constructor) (fun hp a => ⟨[.int .u32 wc14.h.p, .slice (some ⟨u1, 0, none⟩) wc14.h.a.length 2, .slice (some ⟨u5, 0, none⟩) wc14.b.length 2], [], rfl, tCl_mk (a (sl tTm (some ⟨u1, 0, none⟩) 2 wc14.h.a) (by repeat constructor)) (a (sl tLi (some ⟨u5, 0, none⟩) 2 wc14.b) (by repeat constructor)), rfl⟩) (by simp) ?_
  refine go_call (law13F 1 _ 2 2) rfl rfl (by rfl) rfl (by repeat constructor) (by repeat constructor) (fun _ v Ps' Os' hq => by obtain ⟨rfl, rfl, rfl⟩ := hq; exact satS (by repeat constructor) (by repeat constructor)) ?_
  rintro _ _ _ ⟨rfl, rfl, rfl⟩
  refine go_pure1 Tk rfl rfl rfl ?_
  refine go_bslice Tk rfl rfl rfl rfl rfl rfl rfl rfl (fun _ _ => satA) ?_
  intro bf
  refine go_lit tFa (b := bf) wn14 (by repeat constructor) (fun hp a => ⟨[_, _], _, rfl, tFa_mk (x := (⟨1, [10, 11]⟩ : Fa)) (a (sl tU _ _ [10, 11]) (by repeat constructor)), [_, _], _, rfl, tFa_mk (x := (⟨1, [11, 12]⟩ : Fa)) (a (sl tU _ _ [11, 12]) (by repeat constructor)), [_, _], [], rfl, tFa_mk (x := (⟨1, [12, 13]⟩ : Fa)) (a (sl tU _ _ [12, 13]) (by repeat constructor)), rfl⟩) (by decide) ?_
  refine go_pure1 Tk rfl rfl rfl ?_
  refine go_nil ?_
  refine go_env [(0, _), (1, _)] ⟨rfl, rfl, trivial⟩ ?_
  refine go_ret ⟨rfl, rfl⟩ _ _ (res2 (by rfl) (.tmp rfl) (.tmp rfl)) ⟨_, _, rfl, rfl, rfl⟩ (by repeat constructor) (by repeat constructor)
 refine go_call (law13F 1 _ 2 2) rfl rfl (by rfl) rfl (by repeat constructor) (by repeat constructor) (fun _ v Ps' Os' hq => by obtain ⟨rfl, rfl, rfl⟩ := hq; exact satS (by repeat constructor) (by repeat constructor)) ?_
 rintro _ _ _ ⟨rfl, rfl, rfl⟩
 refine go_two ?_ ?_
 ·skip
  refine go_bslice Tk rfl rfl rfl rfl rfl rfl rfl rfl (fun h => nomatch h) ?_
  intro bs
  refine go_lit tCl (b := bs) [wc14] (by repeat constructor) (fun hp a => ⟨[.int .u32 wc14.h.p, .slice (some ⟨u1, 0, none⟩) wc14.h.a.length 2, .slice (some ⟨u5, 0, none⟩) wc14.b.length 2], [], rfl, tCl_mk (a (sl tTm (some ⟨u1, 0, none⟩) 2 wc14.h.a) (by repeat constructor)) (a (sl tLi (some ⟨u5, 0, none⟩) 2 wc14.b) (by repeat constructor)), rfl⟩) (by simp) ?_
  refine go_pure1 Tk rfl rfl rfl ?_
  refine go_bslice Tk rfl rfl rfl rfl rfl rfl rfl rfl (fun _ _ => satA) ?_
  intro bf
  refine go_lit tFa (b := bf) wn14 (by repeat constructor) (fun hp a => ⟨[_, _], _, rfl, tFa_mk (x := (⟨1, [10, 11]⟩ : Fa)) (a (sl tU _ _ [10, 11]) (by repeat constructor)), [_, _], _, rfl, tFa_mk (x := (⟨1, [11, 12]⟩ : Fa)) (a (sl tU _ _ [11, 12]) (by repeat constructor)), [_, _], [], rfl, tFa_mk (x := (⟨1, [12, 13]⟩ : Fa)) (a (sl tU _ _ [12, 13]) (by repeat constructor)), rfl⟩) (by decide) ?_
  refine go_pure1 Tk rfl rfl rfl ?_
  refine go_nil ?_
  refine go_env [(0, _), (1, _)] ⟨rfl, rfl, trivial⟩ ?_
  refine go_ret ⟨rfl, rfl⟩ _ _ (res2 (by rfl) (.tmp rfl) (.tmp rfl)) ⟨_, _, rfl, rfl, rfl⟩ (by repeat constructor) (by repeat constructor)
 refine go_bslice Tk rfl rfl rfl rfl rfl rfl rfl rfl (fun _ _ => satA) ?_
 intro bf
 refine go_lit tFa (b := bf) wn14 (by repeat constructor) (fun hp a => ⟨[_, _], _, rfl, tFa_mk (x := (⟨1, [10, 11]⟩ : Fa)) (a (sl tU _ _ [10, 11]) (by repeat constructor)), [_, _], _, rfl, tFa_mk (x := (⟨1, [11, 12]⟩ : Fa)) (a (sl tU _ _ [11, 12]) (by repeat constructor)), [_, _], [], rfl, tFa_mk (x := (⟨1, [12, 13]⟩ : Fa)) (a (sl tU _ _ [12, 13]) (by repeat constructor)), rfl⟩) (by decide) ?_
 refine go_bslice Tk rfl rfl rfl rfl rfl rfl rfl rfl (fun h => nomatch h) ?_
 intro bs
 refine go_lit tCl (b := bs) [wc14] (by repeat constructor) (fun hp a => ⟨[.int .u32 wc14.h.p, .slice (some ⟨u1, 0, none⟩) wc14.h.a.length 2, .slice (some ⟨u5, 0, none⟩) wc14.b.length 2], [], rfl, tCl_mk (a (sl tTm (some ⟨u1, 0, none⟩) 2 wc14.h.a) (by repeat constructor)) (a (sl tLi (some ⟨u5, 0, none⟩) 2 wc14.b) (by repeat constructor)), rfl⟩) (by simp) ?_
 iterate 2 refine go_pure1 Tk rfl rfl rfl ?_
 refine go_nil ?_
 refine go_env [(0, _), (1, _)] ⟨rfl, rfl, trivial⟩ ?_
 refine go_ret ⟨rfl, rfl⟩ _ _ (res2 (by rfl) (.tmp rfl) (.tmp rfl)) ⟨_, _, rfl, rfl, rfl⟩ (by repeat constructor) (by repeat constructor)

set_option maxHeartbeats 2000000 in
set_option maxRecDepth 20000 in
theorem lawWorks14  :
    Spec Try.prog 19 #[] [] [] (fun v Ps' Os' => v = .bool true ∧ Ps' = [] ∧ Os' = []) := by
 refine spec_of (fn := Try.f19) (args := []) 48 Try.func19 rfl (by kernel_rfl) Try.ntmps19 (Nat.le_of_ble_eq_true rfl) (fun w0 hp0 hf0 => ?_)
 refine go_seq ?_
 refine go_region rfl ?_
 refine go_pure0 Tk rfl rfl rfl ?_
 refine go_nil ?_
 refine go_env [] trivial ?_
 refine go_seq ?_
 refine go_region rfl ?_
 refine go_call (law14chain) rfl rfl (by rfl) rfl (by repeat constructor) (by repeat constructor) (fun h => nomatch h) ?_
 rintro _ _ _ ⟨A, B, rfl, rfl, rfl⟩
 iterate 5 refine go_pure0 Tk rfl rfl rfl ?_
 refine go_nil ?_
 refine go_env [(1, _), (2, _)] ⟨rfl, rfl, trivial⟩ ?_
 iterate 4 first | refine go_seq ?_ | refine go_region rfl ?_ | refine go_pure0 Tk rfl rfl rfl ?_
 refine go_call (relOf B 3 wn14 (by decide) (fun x hx => (wn14_ok x hx).2)) rfl rfl (by rfl) rfl (by repeat constructor) (by repeat constructor) (fun h => nomatch h) ?_
 rintro _ _ _ ⟨b1, rfl, rfl, rfl⟩
 refine go_freeze_rel (b := b1) (by repeat constructor) ?_
 refine go_ent (relN (some ⟨b1, 0, none⟩) (fof wn14)) (fun hh hps => relN_some (hps (relP b1 (fof wn14)) (by repeat constructor))) ?_
 refine go_call (fixLeast [wc14] A 1 (some ⟨b1, 0, none⟩) (fof wn14) 6 (fun c hc => by rw [List.mem_singleton] at hc; subst hc; exact wc14_ok) (fun x hx => wn14_ok x (mem_fof.1 hx)) (rises_fof _) (by omega) (w_big (by omega)) (Nat.le_trans (fof_len _) (by decide))) rfl rfl (by rfl) rfl (by repeat constructor) (by repeat constructor) (fun h => nomatch h) ?_
 rintro _ _ _ ⟨r6, n6, e6, p6, hL6, rfl, rfl, rfl⟩
 obtain ⟨S6, rfl, hS6, rfl, rfl⟩ := w_six hL6
 refine go_relRs (S := S6) (by repeat constructor) (fun bb hb => ?_)
 subst hb
 iterate 7 refine go_pure0 Tk rfl rfl rfl ?_
 refine go_nil ?_
 refine go_env [(1, _), (2, _), (3, _), (4, _), (5, _)] ⟨rfl, rfl, rfl, rfl, rfl, trivial⟩ ?_
 iterate 4 first | refine go_seq ?_ | refine go_region rfl ?_ | refine go_pure0 Tk rfl rfl rfl ?_
 refine go_call (relOf B 3 wn14 (by decide) (fun x hx => (wn14_ok x hx).2)) rfl rfl (by rfl) rfl (by repeat constructor) (by repeat constructor) (fun h => nomatch h) ?_
 rintro _ _ _ ⟨b2, rfl, rfl, rfl⟩
 refine go_freeze_rel (b := b2) (by repeat constructor) ?_
 refine go_ent (relN (some ⟨b2, 0, none⟩) (fof wn14)) (fun hh hps => relN_some (hps (relP b2 (fof wn14)) (by repeat constructor))) ?_
 refine go_call (fixLeast [wc14] A 1 (some ⟨b2, 0, none⟩) (fof wn14) 5 (fun c hc => by rw [List.mem_singleton] at hc; subst hc; exact wc14_ok) (fun x hx => wn14_ok x (mem_fof.1 hx)) (rises_fof _) (by omega) (w_big (by omega)) (Nat.le_trans (fof_len _) (by decide))) rfl rfl (by rfl) rfl (by repeat constructor) (by repeat constructor) (fun h => nomatch h) ?_
 rintro _ _ _ ⟨r5, n5, e5, p5, hL5, rfl, rfl, rfl⟩
 obtain ⟨rfl, rfl, rfl⟩ := w_five hL5
 iterate 7 refine go_pure0 Tk rfl rfl rfl ?_
 refine go_nil ?_
 refine go_env [(3, _), (4, _), (5, _), (8, _)] ⟨rfl, rfl, rfl, rfl, trivial⟩ ?_
 iterate 4 first | refine go_seq ?_ | refine go_region rfl ?_ | refine go_pure0 Tk rfl rfl rfl ?_
 refine go_re 30 (.bool true) (by show some (Value.bool _) = _; first | rfl | simp) ?_
 iterate 2 refine go_pure0 Tk rfl rfl rfl ?_
 refine go_call (relLen bb S6) rfl rfl (by rfl) rfl (by repeat constructor) (by repeat constructor) (fun h => nomatch h) ?_
 rintro _ _ _ ⟨rfl, rfl, rfl⟩
 refine go_pure0 Tk rfl rfl rfl ?_
 refine go_re 34 (.bool true) (by show some (Value.bool _) = _; rw [decide_eq_true (by rw [hS6]; rfl)]) ?_
 iterate 4 refine go_pure0 Tk rfl rfl rfl ?_
 refine go_re 38 (.bool true) (by show some (Value.bool _) = _; first | rfl | simp) ?_
 iterate 4 refine go_pure0 Tk rfl rfl rfl ?_
 refine go_re 42 (.bool true) (by show some (Value.bool _) = _; first | rfl | simp) ?_
 iterate 4 refine go_pure0 Tk rfl rfl rfl ?_
 refine go_re 46 (.bool true) (by show some (Value.bool _) = _; first | rfl | simp) ?_
 iterate 2 refine go_pure0 Tk rfl rfl rfl ?_
 refine go_nil ?_
 refine go_env [(0, _)] ⟨rfl, trivial⟩ ?_
 refine go_ret ⟨rfl, rfl⟩ _ _ (res1 (by rfl) (.tmp rfl)) ⟨rfl, rfl, rfl⟩ (by repeat constructor) (by repeat constructor)

end Go.Proofs.Ytkhddfknpegpmaa.SL

