/- Engine, data and contracts: parts of the proof, put together (Reffi Reffj). -/
import Derived.Test.YtkhddfknpegpmaaGreatMI
import Derived.Test.YtkhddfknpegpmaaGreatMG
/- Contracts of functions of the program (Reffi): what each call comes to, for the laws' proofs. -/
set_option linter.unusedVariables false
set_option linter.unusedSimpArgs false
namespace Go.Proofs.YtkhddfknpegpmaaGreat.SL
open Go 

/-- The document's finder: what it has gathered may lie anywhere. -/
def finO (bX : Nat) (c : Cl) (CA : Option Addr) (cc : Nat) (CB : Option Addr) (cd : Nat) (F : List Fa) (FA : Option Addr) (fc : Nat) (R : List Fa) (RA : Option Addr) (rc : Nat) (N : List Fa) (NA : Option Addr) (nc : Nat) (out : List Fa) : OA :=
  OA.ex fun A : Option Addr => OA.ex fun k : Nat => OA.pa (sl tFa A k out) (pt bX 71 [.int .u32 c.h.p, .slice CA c.h.a.length cc, .slice CB c.b.length cd, .slice FA F.length fc, .slice RA R.length rc, .slice NA N.length nc, .slice A (out).length k])
theorem go_fin {C : Ctx} {k : List It} {E : Env} {Ps : List PA} {Os : List OA} {bX : Nat} {c : Cl} {CA : Option Addr} {cc : Nat} {CB : Option Addr} {cd : Nat} {F : List Fa} {FA : Option Addr} {fc : Nat} {R : List Fa} {RA : Option Addr} {rc : Nat} {N : List Fa} {NA : Option Addr} {nc : Nat} {out : List Fa} {rr : List OA}
    (h : Rem (finO bX c CA cc CB cd F FA fc R RA rc N NA nc out) Os rr) (g : ∀ (A : Option Addr) (j : Nat), Go C k E (sl tFa A j out :: Ps) (pt bX 71 [.int .u32 c.h.p, .slice CA c.h.a.length cc, .slice CB c.b.length cd, .slice FA F.length fc, .slice RA R.length rc, .slice NA N.length nc, .slice A (out).length j] :: rr)) : Go C k E Ps Os :=
  go_oex h fun A => go_oex .here fun j => go_opa .here (g A j)
theorem go_finfold {C : Ctx} {k : List It} {E : Env} {Ps : List PA} {Os : List OA} {bX : Nat} {c : Cl} {CA : Option Addr} {cc : Nat} {CB : Option Addr} {cd : Nat} {F : List Fa} {FA : Option Addr} {fc : Nat} {R : List Fa} {RA : Option Addr} {rc : Nat} {N : List Fa} {NA : Option Addr} {nc : Nat} {out : List Fa} {A : Option Addr} {j : Nat} {rr : List OA}
    (h : Rem (pt bX 71 [.int .u32 c.h.p, .slice CA c.h.a.length cc, .slice CB c.b.length cd, .slice FA F.length fc, .slice RA R.length rc, .slice NA N.length nc, .slice A (out).length j]) Os rr) (hs : Subs Ps [sl tFa A j out]) (g : Go C k E Ps (finO bX c CA cc CB cd F FA fc R RA rc N NA nc out :: rr)) : Go C k E Ps Os :=
  go_foldp [sl tFa A j out] [pt bX 71 [.int .u32 c.h.p, .slice CA c.h.a.length cc, .slice CB c.b.length cd, .slice FA F.length fc, .slice RA R.length rc, .slice NA N.length nc, .slice A (out).length j]] (finO bX c CA cc CB cd F FA fc R RA rc N NA nc out) hs (.cons h .nil) (fun hp h hq q => ⟨A, j, hq _ (.head _), by obtain ⟨g1, g2, g3, _, _, g6, _⟩ := q; exact g3 _ _ g6⟩) g
theorem go_finsame {C : Ctx} {k : List It} {E : Env} {Ps : List PA} {Os : List OA} {bX : Nat} {c : Cl} {CA : Option Addr} {cc : Nat} {CB : Option Addr} {cd : Nat} {F : List Fa} {FA : Option Addr} {fc : Nat} {R : List Fa} {RA : Option Addr} {rc : Nat} {N : List Fa} {NA : Option Addr} {nc : Nat} {out out' : List Fa} {rr : List OA}
    (h : Rem (finO bX c CA cc CB cd F FA fc R RA rc N NA nc out) Os rr) (e : out = out') (g : Go C k E Ps (finO bX c CA cc CB cd F FA fc R RA rc N NA nc out' :: rr)) : Go C k E Ps Os := by
  subst e; exact go_imp _ [_] h (fun _ _ q => sep_one q) g

set_option maxHeartbeats 4000000 in
set_option maxRecDepth 20000 in
theorem refFrom1 (c : Cl) (CA : Option Addr) (cc : Nat) (CB : Option Addr) (cd : Nat) (bX : Nat) (F : List Fa) (FA : Option Addr) (fc : Nat) (R : List Fa) (RA : Option Addr) (rc : Nat) (N : List Fa) (NA : Option Addr) (nc : Nat) (hR : RightC c) (hl : c.b.length ≤ 8) (lh : c.h.a.length ≤ 12) (lb : ∀ l ∈ c.b, l.a.a.length ≤ 12) (i : Nat) (few : List Int) (is : List Bool) (new : Bool) (out : List Fa) (hil : i ≤ c.b.length) (hf : few.length = 16) (hi : is.length = 16) (hd : domTo c (c.b.drop (i)) (few, is)) (ho : rises out) (hlen : out.length + (goL c F R N (c.b.drop (i)) (few, is) new).length ≤ 50000000) (ih : i < c.b.length → ∀ (few : List Int) (is : List Bool) (new : Bool) (out : List Fa) (hil : i + 1 ≤ c.b.length) (hf : few.length = 16) (hi : is.length = 16) (hd : domTo c (c.b.drop (i + 1)) (few, is)) (ho : rises out) (hlen : out.length + (goL c F R N (c.b.drop (i + 1)) (few, is) new).length ≤ 50000000), Spec Tryz.prog 35 #[.pointer (some ⟨bX, 0, none⟩), .int .i64 ((i + 1 : Nat) : Int), .agg (hc (few) (is) []).toArray, .bool (new)] [sl tTm CA cc c.h.a, sl tLi CB cd c.b, sl tFa FA fc F, sl tFa RA rc R, sl tFa NA nc N] [finO bX c CA cc CB cd F FA fc R RA rc N NA nc (out)] (fun v Ps' Os' => v = .tuple #[] ∧ Ps' = [] ∧ Os' = [finO bX c CA cc CB cd F FA fc R RA rc N NA nc ((goL c F R N (c.b.drop (i + 1)) (few, is) (new)).foldl fput (out))])) :
    Spec Tryz.prog 35 #[.pointer (some ⟨bX, 0, none⟩), .int .i64 (i : Int), .agg (hc (few) (is) []).toArray, .bool (new)] [sl tTm CA cc c.h.a, sl tLi CB cd c.b, sl tFa FA fc F, sl tFa RA rc R, sl tFa NA nc N] [finO bX c CA cc CB cd F FA fc R RA rc N NA nc (out)] (fun v Ps' Os' => v = .tuple #[] ∧ Ps' = [] ∧ Os' = [finO bX c CA cc CB cd F FA fc R RA rc N NA nc ((goL c F R N (c.b.drop (i)) (few, is) (new)).foldl fput (out))]) := by
 refine spec_of (fn := Tryz.f35) (args := [.pointer (some ⟨bX, 0, none⟩), .int .i64 (i : Int), .agg (hc (few) (is) []).toArray, .bool (new)]) 139 Tryz.func35 rfl (by kernel_rfl) Tryz.ntmps35 (Nat.le_of_ble_eq_true rfl) (fun w0 hp0 hf0 => ?_)
 refine go_seq ?_
 refine go_region rfl ?_
 refine go_box (cs := hc few is []) Tk rfl rfl rfl rfl (takeL_len (hc_len hf hi)) (beq_of (hc_len hf hi)) rfl (fun h => nomatch h) ?_
 intro bH
 refine go_freeze_pt (b := bH) (by repeat constructor) ?_
 refine go_nil ?_
 refine go_env [(0, _), (1, _), (3, _), (6, _)] ⟨rfl, rfl, rfl, rfl, trivial⟩ ?_
 refine go_seq ?_
 refine go_seq ?_
 refine go_len (xs := c.b) (by repeat constructor) (fun l0 m0 => ?_)
 refine go_len (xs := F) (by repeat constructor) (fun l1 m1 => ?_)
 refine go_fin (bX := bX) (by repeat constructor) (fun A9 k9 => ?_)
 refine go_region rfl ?_
 refine go_pure0 Tk rfl rfl rfl ?_
 refine go_pure0 Tk rfl rfl rfl ?_
 refine go_pure0 Tk rfl rfl rfl ?_
 refine go_pure0 Tk rfl rfl rfl ?_
 refine go_pure0 Tk rfl rfl rfl ?_
 refine go_val0 rfl (ldv Tk rfl rfl rfl) rfl ?_
 refine go_pure0 Tk rfl rfl rfl ?_
 refine go_pure0 Tk rfl rfl rfl ?_
 refine go_nil ?_
 refine go_env [(0, _), (1, _), (3, _), (6, _), (19, _)] ⟨rfl, rfl, rfl, rfl, rfl, trivial⟩ ?_
 refine go_condD rfl ?_ ?_
 ·intro g0
  have hgo := goL_end (F := F) (R := R) (N := N) (show c.b.length ≤ i by omega) (few, is) new
  rw [hgo] at hlen
  have hda := hd.all (by omega)
  have hrn : ∀ l ∈ c.b, l.no = true → refF few l.a = ofA (putA few is l.a) := fun l hl e => (refF_eq (c := (few, is)) (hR.vb l hl) (fun t ht et => hda _ (hR.heldN l hl e t ht et))).symm
  have hrh : refF few c.h = ofA (putA few is c.h) := (refF_eq (c := (few, is)) hR.vh (fun t ht et => hda _ (hR.held t ht et))).symm
  refine go_seq ?_
  refine go_seq ?_
  refine go_region rfl ?_
  refine go_pure0 Tk rfl rfl rfl ?_
  refine go_nil ?_
  refine go_env [(0, _), (3, _), (6, _), (8, _)] ⟨rfl, rfl, rfl, rfl, trivial⟩ ?_
  refine go_block ?_
  refine go_loop' (X := Nat) (fun k => [(8, .int .i64 (k : Int))]) [(0, _), (3, _), (6, _)] (fun _ => []) (fun k => k ≤ c.b.length ∧ ∀ l ∈ c.b.take k, ¬ (l.no = true ∧ ofA (putA few is l.a) ∈ N)) (fun k => c.b.length - k) (0) ⟨rfl, rfl, rfl, rfl, trivial⟩ (by repeat constructor) ⟨by omega, by simp⟩ ?_
  intro k ⟨hk, hz⟩
  refine go_seq ?_
  refine go_seq ?_
  refine go_region rfl ?_
  refine go_pure0 Tk rfl rfl rfl ?_
  refine go_pure0 Tk rfl rfl rfl ?_
  refine go_pure0 Tk rfl rfl rfl ?_
  refine go_pure0 Tk rfl rfl rfl ?_
  refine go_pure0 Tk rfl rfl rfl ?_
  refine go_val0 rfl (ldv Tk rfl rfl rfl) rfl ?_
  refine go_pure0 Tk rfl rfl rfl ?_
  refine go_pure0 Tk rfl rfl rfl ?_
  refine go_nil ?_
  refine go_env [(0, _), (3, _), (6, _), (8, _), (27, _)] ⟨rfl, rfl, rfl, rfl, rfl, trivial⟩ ?_
  refine go_condD rfl ?_ ?_
  ·intro hq1
   refine go_skip ?_
   refine go_seq ?_
   refine go_block ?_
   refine go_seq ?_
   refine go_elem_li (xs := c.b) (by repeat constructor) (k) (List.getElem?_eq_getElem (by omega)) (fun b1 o1 A2 c2 hA => ?_); cases hA
   refine go_draw ([cl b1 (o1 + k * 3) [.bool c.b[k].no, .int .u32 c.b[k].a.p, .slice A2 c.b[k].a.a.length c2], cl bH 0 (hc few is [])]) ([pt bX 71 [.int .u32 c.h.p, .slice CA c.h.a.length cc, .slice (some ⟨b1, o1, none⟩) c.b.length cd, .slice FA F.length fc, .slice RA R.length rc, .slice NA N.length nc, .slice A9 (out).length k9]]) [4, 8, 13, 14, 19, 23] (SL.pre [(1, 0), (1, 1), (1, 2), (1, 3), (1, 5), (2, 4), (1, 6), (1, 7), (2, 8), (1, 9), (1, 10), (1, 11), (1, 12), (1, 15), (1, 16), (1, 17), (1, 18), (1, 20), (2, 13), (2, 14), (2, 19), (1, 21), (1, 22), (2, 23), (0, 24), (0, 25), (1, 26)] .nil) mixed rfl (by kernel_rfl) ?_
   refine go_pure1 Tk rfl rfl rfl ?_
   refine go_pure1 Tk rfl rfl rfl ?_
   refine go_pure1 Tk rfl rfl rfl ?_
   refine go_pure1 Tk rfl rfl rfl ?_
   refine go_pure1 Tk rfl rfl rfl ?_
   refine go_val2a rfl (ldv Tk rfl rfl rfl) rfl ?_
   refine go_val1 rfl (idx_val Tk rfl rfl rfl rfl rfl (by omega)) rfl ?_
   refine go_pure1 Tk rfl rfl rfl ?_
   refine go_val2a rfl (ldv Tk rfl rfl rfl) rfl ?_
   refine go_pure1 Tk rfl rfl rfl ?_
   refine go_known 39 rfl ?_ ?_
   ·intro g1
    (try simp only [decide_eq_true_eq, decide_eq_false_iff_not, Bool.not_eq_true', Bool.not_eq_false', Bool.not_eq_eq_eq_not, Bool.not_true, Bool.not_false, Int.not_lt, Int.not_le, beq_iff_eq, beq_eq_false_iff_ne, ne_eq] at g1)
    refine go_pure1 Tk rfl rfl rfl ?_
    refine go_pure1 Tk rfl rfl rfl ?_
    refine go_pure1 Tk rfl rfl rfl ?_
    refine go_pure1 Tk rfl rfl rfl ?_
    refine go_pure1 Tk rfl rfl rfl ?_
    refine go_pure1 Tk rfl rfl rfl ?_
    refine go_pure1 Tk rfl rfl rfl ?_
    refine go_pure1 Tk rfl rfl rfl ?_
    refine go_val2a rfl (ldv Tk rfl rfl rfl) rfl ?_
    refine go_val2a rfl (load_val (cs := hc few is []) Tk rfl rfl rfl (at_allcl (by repeat constructor) (hc_len hf hi)) rfl) rfl ?_
    refine go_val2a rfl (ldv Tk rfl rfl rfl) rfl ?_
    refine go_val1 rfl (idx_val Tk rfl rfl rfl rfl rfl (by omega)) rfl ?_
    refine go_pure1 Tk rfl rfl rfl ?_
    refine go_val2a rfl (ldv Tk rfl rfl rfl) rfl ?_
    refine go_call (ref13Fact few is hf hi c.b[k].a A2 c2 (by have := lb c.b[k] (List.getElem_mem _); omega) (hR.vb c.b[k] (List.getElem_mem _))) rfl rfl (by rfl) rfl (by repeat constructor) (by repeat constructor) (fun _ v Ps' Os' hq => by obtain ⟨A5, c5, rfl, rfl, rfl⟩ := hq; exact satS (by repeat constructor) (by repeat constructor)) ?_
    rintro _ _ _ ⟨A5, c5, rfl, rfl, rfl⟩
    rw [hrn _ (List.getElem_mem (by omega)) g1]
    refine go_call (ref13Has NA nc N (ofA (putA few is c.b[k].a)) A5 c5) rfl rfl (by rfl) rfl (by repeat constructor) (by repeat constructor) (fun h => nomatch h) ?_
    rintro _ _ _ ⟨rfl, rfl, rfl⟩
    refine go_pure1 Tk rfl rfl rfl ?_
    refine go_nil ?_
    refine go_env [(0, _), (3, _), (6, _), (8, _), (40, _), (41, _), (42, _), (43, _), (44, _), (45, _), (46, _), (47, _), (48, _), (49, _), (50, _), (51, _), (52, _), (53, _), (54, _), (55, _), (56, _)] ⟨rfl, rfl, rfl, rfl, rfl, rfl, rfl, rfl, rfl, rfl, rfl, rfl, rfl, rfl, rfl, rfl, rfl, rfl, rfl, rfl, rfl, trivial⟩ ?_
    refine go_cond rfl ?_ ?_
    ·intro g2
     (try simp only [decide_eq_true_eq, decide_eq_false_iff_not, Bool.not_eq_true', Bool.not_eq_false', Bool.not_eq_eq_eq_not, Bool.not_true, Bool.not_false, Int.not_lt, Int.not_le, beq_iff_eq, beq_eq_false_iff_ne, ne_eq] at g2)
     refine go_finfold (c := c) (F := F) (R := R) (N := N) (out := out) (by repeat constructor) (by repeat constructor) ?_
     refine go_ret ⟨rfl, rfl⟩ _ _ (res0 (by rfl)) ⟨rfl, rfl, by rw [hgo, if_neg (fun q => by rw [okN_no (c := (few, is)) (by omega) g1 g2] at q; cases q.1)]⟩ (by repeat constructor) (by repeat constructor)
    ·intro g2
     (try simp only [decide_eq_true_eq, decide_eq_false_iff_not, Bool.not_eq_true', Bool.not_eq_false', Bool.not_eq_eq_eq_not, Bool.not_true, Bool.not_false, Int.not_lt, Int.not_le, beq_iff_eq, beq_eq_false_iff_ne, ne_eq] at g2)
     have hkz : ¬ (c.b[k].no = true ∧ ofA (putA few is c.b[k].a) ∈ N) := fun q => g2 q.2
     refine go_skip ?_
     refine go_blk ?_
     refine go_region rfl ?_
     refine go_pure0 Tk rfl rfl rfl ?_
     refine go_pure0 Tk rfl rfl rfl ?_
     refine go_pure0 Tk rfl rfl rfl ?_
     refine go_nil ?_
     refine go_i64 8 rfl (by omega) (by omega) ?_
     refine go_back (k + 1) ⟨rfl, rfl, rfl, rfl, trivial⟩ (by repeat constructor) (by repeat constructor) (⟨by omega, mem_take_next (by omega) hz hkz⟩) (by omega)
   ·intro g1
    (try simp only [decide_eq_true_eq, decide_eq_false_iff_not, Bool.not_eq_true', Bool.not_eq_false', Bool.not_eq_eq_eq_not, Bool.not_true, Bool.not_false, Int.not_lt, Int.not_le, beq_iff_eq, beq_eq_false_iff_ne, ne_eq] at g1)
    have hkz : ¬ (c.b[k].no = true ∧ ofA (putA few is c.b[k].a) ∈ N) := fun q => absurd (g1.symm.trans q.1) (by decide)
    refine go_skip1 rfl rfl ?_
    refine go_skip1 rfl rfl ?_
    refine go_skip1 rfl rfl ?_
    refine go_skip1 rfl rfl ?_
    refine go_skip1 rfl rfl ?_
    refine go_skip1 rfl rfl ?_
    refine go_skip1 rfl rfl ?_
    refine go_skip1 rfl rfl ?_
    refine go_skip2 rfl (by repeat constructor) (by repeat constructor) rfl ?_
    refine go_skip2 rfl (by repeat constructor) (by repeat constructor) rfl ?_
    refine go_skip2 rfl (by repeat constructor) (by repeat constructor) rfl ?_
    refine go_skip1 rfl rfl ?_
    refine go_skip1 rfl rfl ?_
    refine go_skip2 rfl (by repeat constructor) (by repeat constructor) rfl ?_
    refine go_skip0f rfl satA rfl ?_
    refine go_skip0 rfl rfl ?_
    refine go_pure1 Tk rfl rfl rfl ?_
    refine go_nil ?_
    refine go_env [(0, _), (3, _), (6, _), (8, _), (40, _), (41, _), (42, _), (43, _), (44, _), (45, _), (46, _), (47, _), (48, _), (49, _), (50, _), (51, _), (52, _), (53, _), (54, _), (55, _), (56, _)] ⟨rfl, rfl, rfl, rfl, rfl, rfl, rfl, rfl, rfl, rfl, rfl, rfl, rfl, rfl, rfl, rfl, rfl, rfl, rfl, rfl, rfl, trivial⟩ ?_
    refine go_cond_f rfl ?_
    refine go_skip ?_
    refine go_blk ?_
    refine go_region rfl ?_
    refine go_pure0 Tk rfl rfl rfl ?_
    refine go_pure0 Tk rfl rfl rfl ?_
    refine go_pure0 Tk rfl rfl rfl ?_
    refine go_nil ?_
    refine go_i64 8 rfl (by omega) (by omega) ?_
    refine go_back (k + 1) ⟨rfl, rfl, rfl, rfl, trivial⟩ (by repeat constructor) (by repeat constructor) (⟨by omega, mem_take_next (by omega) hz hkz⟩) (by omega)
  ·intro hq1
   refine go_exit rfl ?_
   refine go_seq ?_
   refine go_seq ?_
   refine go_region rfl ?_
   refine go_pure0 Tk rfl rfl rfl ?_
   refine go_nil ?_
   refine go_env [(0, _), (6, _), (57, _)] ⟨rfl, rfl, rfl, trivial⟩ ?_
   refine go_cond rfl ?_ ?_
   ·intro g3
    (try simp only [decide_eq_true_eq, decide_eq_false_iff_not, Bool.not_eq_true', Bool.not_eq_false', Bool.not_eq_eq_eq_not, Bool.not_true, Bool.not_false, Int.not_lt, Int.not_le, beq_iff_eq, beq_eq_false_iff_ne, ne_eq] at g3)
    have hok : okN N c.b (few, is) = true := okN_yes (by omega) hz
    rw [if_pos ⟨hok, g3⟩, List.length_singleton] at hlen
    refine go_draw ([cl bH 0 (hc few is [])]) ([pt bX 71 [.int .u32 c.h.p, .slice CA c.h.a.length cc, .slice CB c.b.length cd, .slice FA F.length fc, .slice RA R.length rc, .slice NA N.length nc, .slice A9 (out).length k9]]) [4, 5, 10] (SL.pre [(1, 0), (1, 1), (1, 2), (1, 3), (1, 6), (1, 7), (1, 8), (1, 9), (2, 4), (2, 5), (2, 10), (0, 11), (0, 12), (1, 13), (1, 14), (0, 15)] .nil) mixed rfl (by kernel_rfl) ?_
    refine go_pure1 Tk rfl rfl rfl ?_
    refine go_pure1 Tk rfl rfl rfl ?_
    refine go_pure1 Tk rfl rfl rfl ?_
    refine go_pure1 Tk rfl rfl rfl ?_
    refine go_pure1 Tk rfl rfl rfl ?_
    refine go_pure1 Tk rfl rfl rfl ?_
    refine go_pure1 Tk rfl rfl rfl ?_
    refine go_pure1 Tk rfl rfl rfl ?_
    refine go_val2a rfl (ldv Tk rfl rfl rfl) rfl ?_
    refine go_val2a rfl (load_val (cs := hc few is []) Tk rfl rfl rfl (at_allcl (by repeat constructor) (hc_len hf hi)) rfl) rfl ?_
    refine go_val2a rfl (ldv Tk rfl rfl rfl) rfl ?_
    refine go_call (ref13Fact few is hf hi c.h CA cc (by omega) hR.vh) rfl rfl (by rfl) rfl (by repeat constructor) (by repeat constructor) (fun _ v Ps' Os' hq => by obtain ⟨A6, c6, rfl, rfl, rfl⟩ := hq; exact satS (by repeat constructor) (by repeat constructor)) ?_
    rintro _ _ _ ⟨A6, c6, rfl, rfl, rfl⟩
    rw [hrh]
    refine go_call (ref13With A9 k9 out (ofA (putA few is c.h)) A6 c6 ho (by omega)) rfl rfl (by rfl) rfl (by repeat constructor) (by repeat constructor) (fun h => nomatch h) ?_
    rintro _ _ _ ⟨A7, c7, rfl, rfl, rfl⟩
    refine go_pure1 Tk rfl rfl rfl ?_
    refine go_pure1 Tk rfl rfl rfl ?_
    refine go_store Tk rfl rfl rfl rfl rfl rfl (by repeat constructor) rfl rfl (by rfl) (fun h => nomatch h) ?_
    refine go_nil ?_
    refine go_finfold (c := c) (F := F) (R := R) (N := N) (out := fput out (ofA (putA few is c.h))) (by repeat constructor) (by repeat constructor) ?_
    refine go_env [] trivial ?_
    refine go_ret ⟨rfl, rfl⟩ _ _ (res0 (by rfl)) ⟨rfl, rfl, by rw [hgo, if_pos ⟨hok, g3⟩]⟩ (by repeat constructor) (by repeat constructor)
   ·intro g3
    (try simp only [decide_eq_true_eq, decide_eq_false_iff_not, Bool.not_eq_true', Bool.not_eq_false', Bool.not_eq_eq_eq_not, Bool.not_true, Bool.not_false, Int.not_lt, Int.not_le, beq_iff_eq, beq_eq_false_iff_ne, ne_eq] at g3)
    rw [if_neg (fun q => by rw [g3] at q; cases q.2)] at hgo
    refine go_finfold (c := c) (F := F) (R := R) (N := N) (out := out) (by repeat constructor) (by repeat constructor) ?_
    refine go_skip ?_
    refine go_ret ⟨rfl, rfl⟩ _ _ (res0 (by rfl)) ⟨rfl, rfl, by rw [hgo]⟩ (by repeat constructor) (by repeat constructor)
 ·intro g0
  refine go_skip ?_
  refine go_seq ?_
  refine go_seq ?_
  refine go_elem_li (xs := c.b) (by repeat constructor) (i) (List.getElem?_eq_getElem (by omega)) (fun b1 o1 A2 c2 hA => ?_); cases hA
  have hvl := hR.vb c.b[i] (List.getElem_mem _)
  refine go_region rfl ?_
  refine go_pure0 Tk rfl rfl rfl ?_
  refine go_pure0 Tk rfl rfl rfl ?_
  refine go_pure0 Tk rfl rfl rfl ?_
  refine go_pure0 Tk rfl rfl rfl ?_
  refine go_val0 rfl (ldv Tk rfl rfl rfl) rfl ?_
  refine go_pure0 Tk rfl rfl rfl ?_
  refine go_val0 rfl (idx_val Tk rfl rfl rfl rfl rfl (by omega)) rfl ?_
  refine go_pure0 Tk rfl rfl rfl ?_
  refine go_val0 rfl (ldv Tk rfl rfl rfl) rfl ?_
  refine go_nil ?_
  refine go_env [(0, _), (1, _), (3, _), (6, _), (81, _)] ⟨rfl, rfl, rfl, rfl, rfl, trivial⟩ ?_
  refine go_cond rfl ?_ ?_
  ·intro g1
   (try simp only [decide_eq_true_eq, decide_eq_false_iff_not, Bool.not_eq_true', Bool.not_eq_false', Bool.not_eq_eq_eq_not, Bool.not_true, Bool.not_false, Int.not_lt, Int.not_le, beq_iff_eq, beq_eq_false_iff_ne, ne_eq] at g1)
   have hgo := goL_not (F := F) (R := R) (N := N) (by omega) g1 (few, is) new
   rw [hgo] at hlen
   refine go_finfold (c := c) (F := F) (R := R) (N := N) (out := out) (by repeat constructor) (by repeat constructor) ?_
   refine go_seq ?_
   refine go_region rfl ?_
   refine go_pure0 Tk rfl rfl rfl ?_
   refine go_pure0 Tk rfl rfl rfl ?_
   refine go_pure0 Tk rfl rfl rfl ?_
   refine go_re 84 (.int .i64 ((i + 1 : Nat) : Int)) (by show some (Value.int _ _) = _; rw [wrap_i64 (by omega) (by omega)]; rfl) ?_
   refine go_val0 rfl (load_val (cs := hc few is []) Tk rfl rfl rfl (at_allcl (by repeat constructor) (hc_len hf hi)) rfl) rfl ?_
   refine go_pure0 Tk rfl rfl rfl ?_
   refine go_call (ih (by omega) few is new out (by omega) hf hi (hd.not (by omega) g1) ho hlen) rfl rfl (by rfl) rfl (by repeat constructor) (by repeat constructor) (fun h => nomatch h) ?_
   rintro _ _ _ ⟨rfl, rfl, rfl⟩
   refine go_nil ?_
   refine go_env [] trivial ?_
   refine go_ret ⟨rfl, rfl⟩ _ _ (res0 (by rfl)) ⟨rfl, rfl, by rw [hgo]⟩ (by repeat constructor) (by repeat constructor)
  ·intro g1
   (try simp only [decide_eq_true_eq, decide_eq_false_iff_not, Bool.not_eq_true', Bool.not_eq_false', Bool.not_eq_eq_eq_not, Bool.not_true, Bool.not_false, Int.not_lt, Int.not_le, beq_iff_eq, beq_eq_false_iff_ne, ne_eq] at g1)
   have hgo := goL_yes (F := F) (R := R) (N := N) (by omega) g1 few is new
   rw [flat_filter] at hgo
   rw [hgo] at hlen
   refine go_skip ?_
   refine go_seq ?_
   refine go_finfold (c := c) (F := F) (R := R) (N := N) (out := out) (by repeat constructor) (by repeat constructor) ?_
   refine go_finsame (out' := ((F.take (0)).flatMap (fun f => if mtch (putA few is c.b[i].a) f = true then goF c F R N i few is new f else [])).foldl fput out) (by repeat constructor) (by rfl) ?_
   refine go_region rfl ?_
   refine go_pure0 Tk rfl rfl rfl ?_
   refine go_nil ?_
   refine go_env [(0, _), (1, _), (3, _), (6, _), (9, _)] ⟨rfl, rfl, rfl, rfl, rfl, trivial⟩ ?_
   refine go_block ?_
   refine go_loop' (X := Nat) (fun k => [(9, .int .i64 (k : Int))]) [(0, _), (1, _), (3, _), (6, _)] (fun k => [finO bX c CA cc (some ⟨b1, o1, none⟩) cd F FA fc R RA rc N NA nc (((F.take (k)).flatMap (fun f => if mtch (putA few is c.b[i].a) f = true then goF c F R N i few is new f else [])).foldl fput out)]) (fun k => k ≤ F.length) (fun k => F.length - k) (0) ⟨rfl, rfl, rfl, rfl, rfl, trivial⟩ (by repeat constructor) (by omega) ?_
   intro k hk
   refine go_fin (bX := bX) (by repeat constructor) (fun A8 k8 => ?_)
   refine go_seq ?_
   refine go_seq ?_
   refine go_region rfl ?_
   refine go_pure0 Tk rfl rfl rfl ?_
   refine go_pure0 Tk rfl rfl rfl ?_
   refine go_pure0 Tk rfl rfl rfl ?_
   refine go_pure0 Tk rfl rfl rfl ?_
   refine go_val0 rfl (ldv Tk rfl rfl rfl) rfl ?_
   refine go_pure0 Tk rfl rfl rfl ?_
   refine go_pure0 Tk rfl rfl rfl ?_
   refine go_nil ?_
   refine go_env [(0, _), (1, _), (3, _), (6, _), (9, _), (94, _)] ⟨rfl, rfl, rfl, rfl, rfl, rfl, trivial⟩ ?_
   refine go_condD rfl ?_ ?_
   ·intro g4
    refine go_skip ?_
    refine go_seq ?_
    refine go_block ?_
    refine go_seq ?_
    refine go_cutO (X := Nat × Ch) (fun x => [(10, .pointer (some ⟨x.1, 0, none⟩)), (11, .bool (mtch (putA few is c.b[i].a) F[k]))]) [(0, _), (1, _), (3, _), (6, _), (9, _)] (fun x => [pt x.1 76 (hc x.2.1 x.2.2 []), pt bX 71 [.int .u32 c.h.p, .slice CA c.h.a.length cc, .slice (some ⟨b1, o1, none⟩) c.b.length cd, .slice FA F.length fc, .slice RA R.length rc, .slice NA N.length nc, .slice A8 (((F.take (k)).flatMap (fun f => if mtch (putA few is c.b[i].a) f = true then goF c F R N i few is new f else [])).foldl fput out).length k8]]) ([pt bX 71 [.int .u32 c.h.p, .slice CA c.h.a.length cc, .slice (some ⟨b1, o1, none⟩) c.b.length cd, .slice FA F.length fc, .slice RA R.length rc, .slice NA N.length nc, .slice A8 (((F.take (k)).flatMap (fun f => if mtch (putA few is c.b[i].a) f = true then goF c F R N i few is new f else [])).foldl fput out).length k8]]) (fun x => x.2.ok ∧ (mtch (putA few is c.b[i].a) F[k] = true → x.2 = meetL F[k].a (few, is) c.b[i].a.a 0)) ⟨rfl, rfl, rfl, rfl, rfl, trivial⟩ (by repeat constructor) ?_ ?_
    ·skip
     refine go_elem_fa (xs := F) (by repeat constructor) (k) (List.getElem?_eq_getElem (by omega)) (fun b3 o3 A3 c3 hA => ?_); cases hA
     refine go_draw ([cl bH 0 (hc few is []), cl b1 (o1 + i * 3) [.bool c.b[i].no, .int .u32 c.b[i].a.p, .slice A2 c.b[i].a.a.length c2], cl b3 (o3 + k * 2) [.int .u32 F[k].p, .slice A3 F[k].a.length c3]]) ([pt bX 71 [.int .u32 c.h.p, .slice CA c.h.a.length cc, .slice (some ⟨b1, o1, none⟩) c.b.length cd, .slice (some ⟨b3, o3, none⟩) F.length fc, .slice RA R.length rc, .slice NA N.length nc, .slice A8 (((F.take (k)).flatMap (fun f => if mtch (putA few is c.b[i].a) f = true then goF c F R N i few is new f else [])).foldl fput out).length k8]]) [0, 5, 9, 13, 16] (SL.pre [(1, 1), (1, 2), (1, 3), (1, 4), (1, 6), (1, 10), (1, 11), (1, 12), (1, 14), (2, 0), (2, 5), (1, 7), (1, 8), (2, 9), (2, 13), (1, 15), (2, 16)] (.two (SL.pre [(0, 17), (1, 18), (1, 19), (1, 20), (0, 21), (0, 22), (1, 23)] .nil) (SL.pre [(0, 21), (0, 17), (1, 18), (1, 19), (1, 20), (0, 22), (1, 23)] .nil))) mixed rfl (by kernel_rfl) ?_
     refine go_pure1 Tk rfl rfl rfl ?_
     refine go_pure1 Tk rfl rfl rfl ?_
     refine go_pure1 Tk rfl rfl rfl ?_
     refine go_pure1 Tk rfl rfl rfl ?_
     refine go_pure1 Tk rfl rfl rfl ?_
     refine go_pure1 Tk rfl rfl rfl ?_
     refine go_pure1 Tk rfl rfl rfl ?_
     refine go_pure1 Tk rfl rfl rfl ?_
     refine go_pure1 Tk rfl rfl rfl ?_
     refine go_val2a rfl (load_val (cs := hc few is []) Tk rfl rfl rfl (at_allcl (by repeat constructor) (hc_len hf hi)) rfl) rfl ?_
     refine go_val2a rfl (ldv Tk rfl rfl rfl) rfl ?_
     refine go_val1 rfl (idx_val Tk rfl rfl rfl rfl rfl (by omega)) rfl ?_
     refine go_pure1 Tk rfl rfl rfl ?_
     refine go_val2a rfl (ldv Tk rfl rfl rfl) rfl ?_
     refine go_val2a rfl (ldv Tk rfl rfl rfl) rfl ?_
     refine go_val1 rfl (idx_val Tk rfl rfl rfl rfl rfl (by omega)) rfl ?_
     refine go_val2a rfl (ldv Tk rfl rfl rfl) rfl ?_
     refine go_two ?_ ?_
     ·skip
      refine go_call (ref13meet few is hf hi c.b[i].a A2 c2 F[k] A3 c3 hvl) rfl rfl (by rfl) rfl (by repeat constructor) (by repeat constructor) (fun h => nomatch h) ?_
      rintro _ _ _ ⟨ch, rfl, hco, hcm, rfl, rfl⟩
      refine go_pure1 Tk rfl rfl rfl ?_
      refine go_pure1 Tk rfl rfl rfl ?_
      refine go_pure1 Tk rfl rfl rfl ?_
      refine go_alloc Tk rfl rfl rfl (by rfl) rfl rfl (fun _ _ => satA) ?_
      intro bD
      refine go_store (cs' := hc ch.1 ch.2 []) Tk rfl rfl rfl rfl rfl rfl (by repeat constructor) (beq_of (hc_len hco.f hco.i)) (hc_one _ _) (putL_whole (by rw [show (cellsL (.agg (hc ch.1 ch.2 []).toArray)).length = 32 from hc_len hco.f hco.i]; rfl)) (by first | exact (fun _ => satA) | exact (fun h => nomatch h) | exact (fun h => nomatch (Eq.symm h).trans (show _ = false by kernel_rfl))) ?_
      refine go_pure1 Tk rfl rfl rfl ?_
      refine go_nil ?_
      refine go_back (bD, ch) ⟨rfl, rfl, rfl, rfl, rfl, rfl, rfl, trivial⟩ (by repeat constructor) (by repeat constructor) ⟨hco, hcm⟩ (by decide)
     refine go_alloc Tk rfl rfl rfl (by rfl) rfl rfl (fun _ _ => satA) ?_
     intro bD
     refine go_call (ref13meet few is hf hi c.b[i].a A2 c2 F[k] A3 c3 hvl) rfl rfl (by rfl) rfl (by repeat constructor) (by repeat constructor) (fun h => nomatch h) ?_
     rintro _ _ _ ⟨ch, rfl, hco, hcm, rfl, rfl⟩
     refine go_pure1 Tk rfl rfl rfl ?_
     refine go_pure1 Tk rfl rfl rfl ?_
     refine go_pure1 Tk rfl rfl rfl ?_
     refine go_store (cs' := hc ch.1 ch.2 []) Tk rfl rfl rfl rfl rfl rfl (by repeat constructor) (beq_of (hc_len hco.f hco.i)) (hc_one _ _) (putL_whole (by rw [show (cellsL (.agg (hc ch.1 ch.2 []).toArray)).length = 32 from hc_len hco.f hco.i]; rfl)) (by first | exact (fun _ => satA) | exact (fun h => nomatch h) | exact (fun h => nomatch (Eq.symm h).trans (show _ = false by kernel_rfl))) ?_
     refine go_pure1 Tk rfl rfl rfl ?_
     refine go_nil ?_
     refine go_back (bD, ch) ⟨rfl, rfl, rfl, rfl, rfl, rfl, rfl, trivial⟩ (by repeat constructor) (by repeat constructor) ⟨hco, hcm⟩ (by decide)
    intro ⟨bD, ch⟩ ⟨hco, hcm⟩
    simp only at hco hcm ⊢
    refine go_freeze_pt (b := bD) (by repeat constructor) ?_
    refine go_seq ?_
    refine go_region rfl ?_
    refine go_pure0 Tk rfl rfl rfl ?_
    refine go_nil ?_
    refine go_env [(0, _), (1, _), (3, _), (6, _), (9, _), (10, _), (118, _)] ⟨rfl, rfl, rfl, rfl, rfl, rfl, rfl, trivial⟩ ?_
    refine go_cond rfl ?_ ?_
    ·intro g2
     (try simp only [decide_eq_true_eq, decide_eq_false_iff_not, Bool.not_eq_true', Bool.not_eq_false', Bool.not_eq_eq_eq_not, Bool.not_true, Bool.not_false, Int.not_lt, Int.not_le, beq_iff_eq, beq_eq_false_iff_ne, ne_eq] at g2)
     have hce := hcm g2
     subst hce
     refine go_elem_fa (xs := F) (by repeat constructor) (k) (List.getElem?_eq_getElem (by omega)) (fun b3 o3 A3 c3 hA => ?_); cases hA
     refine go_draw ([cl bD 0 (hc (meetL F[k].a (few, is) c.b[i].a.a 0).1 (meetL F[k].a (few, is) c.b[i].a.a 0).2 []), cl b3 (o3 + k * 2) [.int .u32 F[k].p, .slice A3 F[k].a.length c3]]) ([pt bX 71 [.int .u32 c.h.p, .slice CA c.h.a.length cc, .slice (some ⟨b1, o1, none⟩) c.b.length cd, .slice (some ⟨b3, o3, none⟩) F.length fc, .slice RA R.length rc, .slice NA N.length nc, .slice A8 (((F.take (k)).flatMap (fun f => if mtch (putA few is c.b[i].a) f = true then goF c F R N i few is new f else [])).foldl fput out).length k8]]) [3, 9, 13, 16] (SL.pre [(1, 0), (1, 1), (1, 2), (1, 4), (1, 5), (1, 6), (1, 7), (1, 8), (1, 10), (1, 11), (1, 12), (1, 14), (2, 3), (2, 9), (2, 13), (1, 15), (2, 16), (0, 17), (1, 18), (0, 19)] .nil) mixed rfl (by kernel_rfl) ?_
     refine go_pure1 Tk rfl rfl rfl ?_
     refine go_pure1 Tk rfl rfl rfl ?_
     refine go_pure1 Tk rfl rfl rfl ?_
     refine go_re 121 (.int .i64 ((i + 1 : Nat) : Int)) (by show some (Value.int _ _) = _; rw [wrap_i64 (by omega) (by omega)]; rfl) ?_
     refine go_pure1 Tk rfl rfl rfl ?_
     refine go_pure1 Tk rfl rfl rfl ?_
     refine go_known 124 rfl ?_ ?_
     ·intro g5
      (try simp only [decide_eq_true_eq, decide_eq_false_iff_not, Bool.not_eq_true', Bool.not_eq_false', Bool.not_eq_eq_eq_not, Bool.not_true, Bool.not_false, Int.not_lt, Int.not_le, beq_iff_eq, beq_eq_false_iff_ne, ne_eq] at g5)
      refine go_skip1 rfl rfl ?_
      refine go_skip1 rfl rfl ?_
      refine go_skip1 rfl rfl ?_
      refine go_skip1 rfl rfl ?_
      refine go_skip1 rfl rfl ?_
      refine go_skip1 rfl rfl ?_
      refine go_skip1 rfl rfl ?_
      refine go_val2a rfl (load_val (cs := hc (meetL F[k].a (few, is) c.b[i].a.a 0).1 (meetL F[k].a (few, is) c.b[i].a.a 0).2 []) Tk rfl rfl rfl (at_allcl (by repeat constructor) (hc_len hco.f hco.i)) rfl) rfl ?_
      refine go_skip2 rfl (by repeat constructor) (by repeat constructor) rfl ?_
      refine go_skip2 rfl (by repeat constructor) (by repeat constructor) rfl ?_
      refine go_skip1 rfl rfl ?_
      refine go_skip2 rfl (by repeat constructor) (by repeat constructor) rfl ?_
      refine go_skip0f rfl satA rfl ?_
      refine go_pure1 Tk rfl rfl rfl ?_
      refine go_re 137 (.bool (new || decide (F[k] ∈ R))) (by show some (Value.bool _) = _; rw [g5]; simp) ?_
      have hfg : goF c F R N i few is new F[k] = goL c F R N (c.b.drop (i + 1)) (meetL F[k].a (few, is) c.b[i].a.a 0) (new || decide (F[k] ∈ R)) := by
        unfold goF
        rw [List.getElem?_eq_getElem (by omega)]; rfl
      have hfl := flat_len (show k < F.length by omega) (fun f => if mtch (putA few is c.b[i].a) f = true then goF c F R N i few is new f else [])
      rw [if_pos g2, hfg] at hfl
      have hol := foldl_flen ((F.take k).flatMap (fun f => if mtch (putA few is c.b[i].a) f = true then goF c F R N i few is new f else [])) out
      refine go_finfold (c := c) (F := F) (R := R) (N := N) (out := ((F.take (k)).flatMap (fun f => if mtch (putA few is c.b[i].a) f = true then goF c F R N i few is new f else [])).foldl fput out) (by repeat constructor) (by repeat constructor) ?_
      refine go_call (ih (by omega) (meetL F[k].a (few, is) c.b[i].a.a 0).1 (meetL F[k].a (few, is) c.b[i].a.a 0).2 (new || decide (F[k] ∈ R)) (((F.take (k)).flatMap (fun f => if mtch (putA few is c.b[i].a) f = true then goF c F R N i few is new f else [])).foldl fput out) (by omega) hco.f hco.i (hd.yes (by omega) hvl ⟨hf, hi⟩ F[k].a) (foldl_rises _ _ ho) (by show _ + (goL c F R N (c.b.drop (i + 1)) (meetL F[k].a (few, is) c.b[i].a.a 0) (new || decide (F[k] ∈ R))).length ≤ _; omega)) rfl rfl (by rfl) rfl (by repeat constructor) (by repeat constructor) (fun h => nomatch h) ?_
      rintro _ _ _ ⟨rfl, rfl, rfl⟩
      refine go_nil ?_
      refine go_env [(0, _), (1, _), (3, _), (6, _), (9, _), (125, _), (126, _), (127, _), (128, _), (129, _), (130, _), (131, _), (132, _), (133, _), (134, _), (135, _), (136, _)] ⟨rfl, rfl, rfl, rfl, rfl, rfl, rfl, rfl, rfl, rfl, rfl, rfl, rfl, rfl, rfl, rfl, rfl, trivial⟩ ?_
      refine go_blk ?_
      refine go_region rfl ?_
      refine go_pure0 Tk rfl rfl rfl ?_
      refine go_pure0 Tk rfl rfl rfl ?_
      refine go_pure0 Tk rfl rfl rfl ?_
      refine go_nil ?_
      refine go_i64 9 rfl (by omega) (by omega) ?_
      refine go_finsame (out' := ((F.take (k + 1)).flatMap (fun f => if mtch (putA few is c.b[i].a) f = true then goF c F R N i few is new f else [])).foldl fput out) (by repeat constructor) (by rw [flat_next (by omega), List.foldl_append, if_pos g2, hfg]) ?_
      refine go_back (k + 1) ⟨rfl, rfl, rfl, rfl, rfl, trivial⟩ (by repeat constructor) (by repeat constructor) (by omega) (by omega)
     ·intro g5
      (try simp only [decide_eq_true_eq, decide_eq_false_iff_not, Bool.not_eq_true', Bool.not_eq_false', Bool.not_eq_eq_eq_not, Bool.not_true, Bool.not_false, Int.not_lt, Int.not_le, beq_iff_eq, beq_eq_false_iff_ne, ne_eq] at g5)
      refine go_pure1 Tk rfl rfl rfl ?_
      refine go_pure1 Tk rfl rfl rfl ?_
      refine go_pure1 Tk rfl rfl rfl ?_
      refine go_pure1 Tk rfl rfl rfl ?_
      refine go_pure1 Tk rfl rfl rfl ?_
      refine go_pure1 Tk rfl rfl rfl ?_
      refine go_pure1 Tk rfl rfl rfl ?_
      refine go_val2a rfl (load_val (cs := hc (meetL F[k].a (few, is) c.b[i].a.a 0).1 (meetL F[k].a (few, is) c.b[i].a.a 0).2 []) Tk rfl rfl rfl (at_allcl (by repeat constructor) (hc_len hco.f hco.i)) rfl) rfl ?_
      refine go_val2a rfl (ldv Tk rfl rfl rfl) rfl ?_
      refine go_val2a rfl (ldv Tk rfl rfl rfl) rfl ?_
      refine go_val1 rfl (idx_val Tk rfl rfl rfl rfl rfl (by omega)) rfl ?_
      refine go_val2a rfl (ldv Tk rfl rfl rfl) rfl ?_
      refine go_call (ref13Has RA rc R F[k] A3 c3) rfl rfl (by rfl) rfl (by repeat constructor) (by repeat constructor) (fun _ v Ps' Os' hq => by obtain ⟨rfl, rfl, rfl⟩ := hq; exact satS (by repeat constructor) (by repeat constructor)) ?_
      rintro _ _ _ ⟨rfl, rfl, rfl⟩
      refine go_pure1 Tk rfl rfl rfl ?_
      refine go_re 137 (.bool (new || decide (F[k] ∈ R))) (by show some (Value.bool _) = _; rw [g5]; simp) ?_
      have hfg : goF c F R N i few is new F[k] = goL c F R N (c.b.drop (i + 1)) (meetL F[k].a (few, is) c.b[i].a.a 0) (new || decide (F[k] ∈ R)) := by
        unfold goF
        rw [List.getElem?_eq_getElem (by omega)]; rfl
      have hfl := flat_len (show k < F.length by omega) (fun f => if mtch (putA few is c.b[i].a) f = true then goF c F R N i few is new f else [])
      rw [if_pos g2, hfg] at hfl
      have hol := foldl_flen ((F.take k).flatMap (fun f => if mtch (putA few is c.b[i].a) f = true then goF c F R N i few is new f else [])) out
      refine go_finfold (c := c) (F := F) (R := R) (N := N) (out := ((F.take (k)).flatMap (fun f => if mtch (putA few is c.b[i].a) f = true then goF c F R N i few is new f else [])).foldl fput out) (by repeat constructor) (by repeat constructor) ?_
      refine go_call (ih (by omega) (meetL F[k].a (few, is) c.b[i].a.a 0).1 (meetL F[k].a (few, is) c.b[i].a.a 0).2 (new || decide (F[k] ∈ R)) (((F.take (k)).flatMap (fun f => if mtch (putA few is c.b[i].a) f = true then goF c F R N i few is new f else [])).foldl fput out) (by omega) hco.f hco.i (hd.yes (by omega) hvl ⟨hf, hi⟩ F[k].a) (foldl_rises _ _ ho) (by show _ + (goL c F R N (c.b.drop (i + 1)) (meetL F[k].a (few, is) c.b[i].a.a 0) (new || decide (F[k] ∈ R))).length ≤ _; omega)) rfl rfl (by rfl) rfl (by repeat constructor) (by repeat constructor) (fun h => nomatch h) ?_
      rintro _ _ _ ⟨rfl, rfl, rfl⟩
      refine go_nil ?_
      refine go_env [(0, _), (1, _), (3, _), (6, _), (9, _), (125, _), (126, _), (127, _), (128, _), (129, _), (130, _), (131, _), (132, _), (133, _), (134, _), (135, _), (136, _)] ⟨rfl, rfl, rfl, rfl, rfl, rfl, rfl, rfl, rfl, rfl, rfl, rfl, rfl, rfl, rfl, rfl, rfl, trivial⟩ ?_
      refine go_blk ?_
      refine go_region rfl ?_
      refine go_pure0 Tk rfl rfl rfl ?_
      refine go_pure0 Tk rfl rfl rfl ?_
      refine go_pure0 Tk rfl rfl rfl ?_
      refine go_nil ?_
      refine go_i64 9 rfl (by omega) (by omega) ?_
      refine go_finsame (out' := ((F.take (k + 1)).flatMap (fun f => if mtch (putA few is c.b[i].a) f = true then goF c F R N i few is new f else [])).foldl fput out) (by repeat constructor) (by rw [flat_next (by omega), List.foldl_append, if_pos g2, hfg]) ?_
      refine go_back (k + 1) ⟨rfl, rfl, rfl, rfl, rfl, trivial⟩ (by repeat constructor) (by repeat constructor) (by omega) (by omega)
    ·intro g2
     (try simp only [decide_eq_true_eq, decide_eq_false_iff_not, Bool.not_eq_true', Bool.not_eq_false', Bool.not_eq_eq_eq_not, Bool.not_true, Bool.not_false, Int.not_lt, Int.not_le, beq_iff_eq, beq_eq_false_iff_ne, ne_eq] at g2)
     refine go_skip ?_
     refine go_blk ?_
     refine go_region rfl ?_
     refine go_pure0 Tk rfl rfl rfl ?_
     refine go_pure0 Tk rfl rfl rfl ?_
     refine go_pure0 Tk rfl rfl rfl ?_
     refine go_nil ?_
     refine go_finfold (c := c) (F := F) (R := R) (N := N) (out := ((F.take (k)).flatMap (fun f => if mtch (putA few is c.b[i].a) f = true then goF c F R N i few is new f else [])).foldl fput out) (by repeat constructor) (by repeat constructor) ?_
     refine go_i64 9 rfl (by omega) (by omega) ?_
     refine go_finsame (out' := ((F.take (k + 1)).flatMap (fun f => if mtch (putA few is c.b[i].a) f = true then goF c F R N i few is new f else [])).foldl fput out) (by repeat constructor) (by rw [flat_next (by omega), if_neg (by rw [g2]; decide), List.append_nil]) ?_
     refine go_back (k + 1) ⟨rfl, rfl, rfl, rfl, rfl, trivial⟩ (by repeat constructor) (by repeat constructor) (by omega) (by omega)
   ·intro g4
    refine go_finfold (c := c) (F := F) (R := R) (N := N) (out := ((F.take (k)).flatMap (fun f => if mtch (putA few is c.b[i].a) f = true then goF c F R N i few is new f else [])).foldl fput out) (by repeat constructor) (by repeat constructor) ?_
    refine go_finsame (out' := (F.flatMap (fun f => if mtch (putA few is c.b[i].a) f = true then goF c F R N i few is new f else [])).foldl fput out) (by repeat constructor) (by rw [List.take_of_length_le (by omega)]) ?_
    refine go_exit rfl ?_
    refine go_end ⟨rfl, rfl⟩ _ _ (res0 (by rfl)) ⟨rfl, rfl, by rw [hgo]⟩ (by repeat constructor) (by repeat constructor)

end Go.Proofs.YtkhddfknpegpmaaGreat.SL

/- Contracts of functions of the program (Reffj): what each call comes to, for the laws' proofs. -/
set_option linter.unusedVariables false
set_option linter.unusedSimpArgs false
namespace Go.Proofs.YtkhddfknpegpmaaGreat.SL
open Go 

theorem refFrom (c : Cl) (CA : Option Addr) (cc : Nat) (CB : Option Addr) (cd : Nat) (bX : Nat) (F : List Fa) (FA : Option Addr) (fc : Nat) (R : List Fa) (RA : Option Addr) (rc : Nat) (N : List Fa) (NA : Option Addr) (nc : Nat) (hR : RightC c) (hl : c.b.length ≤ 8) (lh : c.h.a.length ≤ 12) (lb : ∀ l ∈ c.b, l.a.a.length ≤ 12) : ∀ (n i : Nat) (few : List Int) (is : List Bool) (new : Bool) (out : List Fa) (hn : c.b.length - i = n) (hil : i ≤ c.b.length) (hf : few.length = 16) (hi : is.length = 16) (hd : domTo c (c.b.drop i) (few, is)) (ho : rises out) (hlen : out.length + (goL c F R N (c.b.drop i) (few, is) new).length ≤ 50000000),
    Spec Tryz.prog 35 #[.pointer (some ⟨bX, 0, none⟩), .int .i64 (i : Int), .agg (hc (few) (is) []).toArray, .bool (new)] [sl tTm CA cc c.h.a, sl tLi CB cd c.b, sl tFa FA fc F, sl tFa RA rc R, sl tFa NA nc N] [finO bX c CA cc CB cd F FA fc R RA rc N NA nc (out)] (fun v Ps' Os' => v = .tuple #[] ∧ Ps' = [] ∧ Os' = [finO bX c CA cc CB cd F FA fc R RA rc N NA nc ((goL c F R N (c.b.drop (i)) (few, is) (new)).foldl fput (out))])
  | 0, i, few, is, new, out, hn, hil, hf, hi, hd, ho, hlen => refFrom1 c CA cc CB cd bX F FA fc R RA rc N NA nc hR hl lh lb i few is new out hil hf hi hd ho hlen (fun h => absurd h (by omega))
  | n + 1, i, few, is, new, out, hn, hil, hf, hi, hd, ho, hlen => refFrom1 c CA cc CB cd bX F FA fc R RA rc N NA nc hR hl lh lb i few is new out hil hf hi hd ho hlen (fun h few' is' new' out' h1 h2 h3 h4 h5 h6 =>
      refFrom c CA cc CB cd bX F FA fc R RA rc N NA nc hR hl lh lb n (i + 1) few' is' new' out' (by omega) h1 h2 h3 h4 h5 h6)

set_option maxHeartbeats 2000000 in
set_option maxRecDepth 20000 in
theorem ref13Heads (c : Cl) (CA : Option Addr) (cc : Nat) (CB : Option Addr) (cd : Nat) (F : List Fa) (FA : Option Addr) (fc : Nat) (N : List Fa) (NA : Option Addr) (nc : Nat) (hok : c.ok) (hb : c.b.length ≤ 1000) (hlen : (goL c F [] N c.b ch0 true).length ≤ 50000000) :
    Spec Tryz.prog 12 #[.agg #[.int .u32 c.h.p, .slice CA c.h.a.length cc, .slice CB c.b.length cd], .slice FA F.length fc, .slice NA N.length nc] [sl tTm CA cc c.h.a, sl tLi CB cd c.b, sl tFa FA fc F, sl tFa NA nc N] [] (fun v Ps' Os' => ∃ A k, v = .slice A (headsC c F [] N false).length k ∧ Ps' = [sl tFa A k (headsC c F [] N false)] ∧ Os' = []) := by
 refine spec_of (fn := Tryz.f12) (args := [.agg #[.int .u32 c.h.p, .slice CA c.h.a.length cc, .slice CB c.b.length cd], .slice FA F.length fc, .slice NA N.length nc]) 23 Tryz.func12 rfl (by kernel_rfl) Tryz.ntmps12 (Nat.le_of_ble_eq_true rfl) (fun w0 hp0 hf0 => ?_)
 refine go_seq ?_
 refine go_region rfl ?_
 refine go_box Tk rfl rfl rfl rfl (by rfl) rfl rfl (fun h => nomatch h) ?_
 intro bC
 refine go_pure0 Tk rfl rfl rfl ?_
 refine go_nil ?_
 refine go_freeze_pt (b := bC) (by repeat constructor) ?_
 refine go_env [(1, _), (2, _), (3, _)] ⟨rfl, rfl, rfl, trivial⟩ ?_
 refine go_seq ?_
 refine go_seq ?_
 refine go_region rfl ?_
 refine go_val0 rfl (ldv Tk rfl rfl rfl) rfl ?_
 refine go_call (ref13right c CA cc CB cd hb) rfl rfl (by rfl) rfl (by repeat constructor) (by repeat constructor) (fun h => nomatch h) ?_
 rintro _ _ _ ⟨rfl, rfl, rfl⟩
 refine go_pure0 Tk rfl rfl rfl ?_
 refine go_nil ?_
 refine go_env [(1, _), (2, _), (3, _), (10, _)] ⟨rfl, rfl, rfl, rfl, trivial⟩ ?_
 refine go_cond rfl ?_ ?_
 ·intro g1
  (try simp only [decide_eq_true_eq, decide_eq_false_iff_not, Bool.not_eq_true', Bool.not_eq_false', Bool.not_eq_eq_eq_not, Bool.not_true, Bool.not_false, Int.not_lt, Int.not_le, beq_iff_eq, beq_eq_false_iff_ne, ne_eq] at g1)
  have hc0 : headsC c F [] N false = [] := headsC_not (by simpa using g1) _ _ _ _
  refine go_ent (sl tFa none 0 []) (fun h _ => Sl_nil tFa h) ?_
  refine go_seq ?_
  refine go_region rfl ?_
  refine go_pure0 Tk rfl rfl rfl ?_
  refine go_nil ?_
  refine go_env [(6, _)] ⟨rfl, trivial⟩ ?_
  refine go_ret ⟨rfl, rfl⟩ _ _ (res1 (by rfl) (.tmp rfl)) ⟨none, 0, by rw [hc0]; rfl, by rw [hc0], rfl⟩ (by repeat constructor) (by repeat constructor)
 ·intro g1
  (try simp only [decide_eq_true_eq, decide_eq_false_iff_not, Bool.not_eq_true', Bool.not_eq_false', Bool.not_eq_eq_eq_not, Bool.not_true, Bool.not_false, Int.not_lt, Int.not_le, beq_iff_eq, beq_eq_false_iff_ne, ne_eq] at g1)
  have g1' : (rightC [c]).2 = 0 := by simpa using g1
  obtain ⟨q1, q2, q3⟩ := right_one g1'
  obtain ⟨p1, p2, p3⟩ := mayC_of q1
  have hR := right_of q1 q2 hok
  refine go_ent (sl tFa none 0 []) (fun h _ => Sl_nil tFa h) ?_
  refine go_skip ?_
  refine go_seq ?_
  refine go_region rfl ?_
  refine go_val0 rfl (ldv Tk rfl rfl rfl) rfl ?_
  refine go_pure0 Tk rfl rfl rfl ?_
  refine go_pure0 Tk rfl rfl rfl ?_
  refine go_val0 rfl (fun a w hp ho hf hs => build_val Tk rfl rfl rfl (by rfl) a w hf) rfl ?_
  refine go_box Tk rfl rfl rfl rfl (by rfl) rfl rfl (fun h => nomatch h) ?_
  intro bX
  refine go_pure0 Tk rfl rfl rfl ?_
  refine go_nil ?_
  refine go_finfold (c := c) (F := F) (R := []) (N := N) (out := []) (by repeat constructor) (by repeat constructor) ?_
  refine go_env [(7, _)] ⟨rfl, trivial⟩ ?_
  refine go_seq ?_
  refine go_region rfl ?_
  refine go_pure0 Tk rfl rfl rfl ?_
  refine go_val0 rfl (fun a w hp ho hf hs => build_val Tk rfl rfl rfl (by rfl) a w hf) rfl ?_
  refine go_re 17 (.agg (hc (List.replicate 16 0) (List.replicate 16 false) []).toArray) (by rfl) ?_
  refine go_call (refFrom c CA cc CB cd bX F FA fc [] none 0 N NA nc hR p1 (Nat.le_trans (may_len6 p2) (by omega)) (fun l hl => Nat.le_trans (may_len6 (p3 l hl)) (by omega)) (c.b.length - 0) 0 (List.replicate 16 0) (List.replicate 16 false) true [] rfl (by omega) (by simp) (by simp) (domTo.start c) rises_nil (by show 0 + _ ≤ _; rw [Nat.zero_add]; exact hlen)) rfl rfl (by rfl) rfl (by repeat constructor) (by repeat constructor) (fun h => nomatch h) ?_
  rintro _ _ _ ⟨rfl, rfl, rfl⟩
  refine go_nil ?_
  refine go_env [(7, _)] ⟨rfl, trivial⟩ ?_
  refine go_seq ?_
  refine go_finsame (out' := headsC c F [] N false) (by repeat constructor) (by unfold headsC; rw [if_pos g1']; rfl) ?_
  refine go_fin (bX := bX) (by repeat constructor) (fun A9 k9 => ?_)
  refine go_region rfl ?_
  refine go_pure0 Tk rfl rfl rfl ?_
  refine go_pure0 Tk rfl rfl rfl ?_
  refine go_pure0 Tk rfl rfl rfl ?_
  refine go_val0 rfl (ldv Tk rfl rfl rfl) rfl ?_
  refine go_pure0 Tk rfl rfl rfl ?_
  refine go_nil ?_
  refine go_env [(6, _)] ⟨rfl, trivial⟩ ?_
  refine go_ret ⟨rfl, rfl⟩ _ _ (res1 (by rfl) (.tmp rfl)) ⟨A9, k9, rfl, rfl, rfl⟩ (by repeat constructor) (by repeat constructor)

set_option maxHeartbeats 2000000 in
set_option maxRecDepth 20000 in
theorem ref13News (c : Cl) (CA : Option Addr) (cc : Nat) (CB : Option Addr) (cd : Nat) (F : List Fa) (FA : Option Addr) (fc : Nat) (R : List Fa) (RA : Option Addr) (rc : Nat) (N : List Fa) (NA : Option Addr) (nc : Nat) (hok : c.ok) (hb : c.b.length ≤ 1000) (hlen : (goL c F R N c.b ch0 false).length ≤ 50000000) :
    Spec Tryz.prog 13 #[.agg #[.int .u32 c.h.p, .slice CA c.h.a.length cc, .slice CB c.b.length cd], .slice FA F.length fc, .slice RA R.length rc, .slice NA N.length nc] [sl tTm CA cc c.h.a, sl tLi CB cd c.b, sl tFa FA fc F, sl tFa RA rc R, sl tFa NA nc N] [] (fun v Ps' Os' => ∃ A k, v = .slice A (headsC c F R N true).length k ∧ Ps' = [sl tFa A k (headsC c F R N true)] ∧ Os' = []) := by
 refine spec_of (fn := Tryz.f13) (args := [.agg #[.int .u32 c.h.p, .slice CA c.h.a.length cc, .slice CB c.b.length cd], .slice FA F.length fc, .slice RA R.length rc, .slice NA N.length nc]) 26 Tryz.func13 rfl (by kernel_rfl) Tryz.ntmps13 (Nat.le_of_ble_eq_true rfl) (fun w0 hp0 hf0 => ?_)
 refine go_seq ?_
 refine go_region rfl ?_
 refine go_box Tk rfl rfl rfl rfl (by rfl) rfl rfl (fun h => nomatch h) ?_
 intro bC
 refine go_pure0 Tk rfl rfl rfl ?_
 refine go_nil ?_
 refine go_freeze_pt (b := bC) (by repeat constructor) ?_
 refine go_env [(1, _), (2, _), (3, _), (4, _)] ⟨rfl, rfl, rfl, rfl, trivial⟩ ?_
 refine go_seq ?_
 refine go_seq ?_
 refine go_region rfl ?_
 refine go_val0 rfl (ldv Tk rfl rfl rfl) rfl ?_
 refine go_call (ref13right c CA cc CB cd hb) rfl rfl (by rfl) rfl (by repeat constructor) (by repeat constructor) (fun h => nomatch h) ?_
 rintro _ _ _ ⟨rfl, rfl, rfl⟩
 refine go_pure0 Tk rfl rfl rfl ?_
 refine go_nil ?_
 refine go_env [(1, _), (2, _), (3, _), (4, _), (12, _)] ⟨rfl, rfl, rfl, rfl, rfl, trivial⟩ ?_
 refine go_cond rfl ?_ ?_
 ·intro g1
  (try simp only [decide_eq_true_eq, decide_eq_false_iff_not, Bool.not_eq_true', Bool.not_eq_false', Bool.not_eq_eq_eq_not, Bool.not_true, Bool.not_false, Int.not_lt, Int.not_le, beq_iff_eq, beq_eq_false_iff_ne, ne_eq] at g1)
  have hc0 : headsC c F R N true = [] := headsC_not (by simpa using g1) _ _ _ _
  refine go_ent (sl tFa none 0 []) (fun h _ => Sl_nil tFa h) ?_
  refine go_seq ?_
  refine go_region rfl ?_
  refine go_pure0 Tk rfl rfl rfl ?_
  refine go_nil ?_
  refine go_env [(8, _)] ⟨rfl, trivial⟩ ?_
  refine go_ret ⟨rfl, rfl⟩ _ _ (res1 (by rfl) (.tmp rfl)) ⟨none, 0, by rw [hc0]; rfl, by rw [hc0], rfl⟩ (by repeat constructor) (by repeat constructor)
 ·intro g1
  (try simp only [decide_eq_true_eq, decide_eq_false_iff_not, Bool.not_eq_true', Bool.not_eq_false', Bool.not_eq_eq_eq_not, Bool.not_true, Bool.not_false, Int.not_lt, Int.not_le, beq_iff_eq, beq_eq_false_iff_ne, ne_eq] at g1)
  have g1' : (rightC [c]).2 = 0 := by simpa using g1
  obtain ⟨q1, q2, q3⟩ := right_one g1'
  obtain ⟨p1, p2, p3⟩ := mayC_of q1
  have hR := right_of q1 q2 hok
  refine go_ent (sl tFa none 0 []) (fun h _ => Sl_nil tFa h) ?_
  refine go_skip ?_
  refine go_seq ?_
  refine go_region rfl ?_
  refine go_val0 rfl (ldv Tk rfl rfl rfl) rfl ?_
  refine go_pure0 Tk rfl rfl rfl ?_
  refine go_pure0 Tk rfl rfl rfl ?_
  refine go_pure0 Tk rfl rfl rfl ?_
  refine go_val0 rfl (fun a w hp ho hf hs => build_val Tk rfl rfl rfl (by rfl) a w hf) rfl ?_
  refine go_box Tk rfl rfl rfl rfl (by rfl) rfl rfl (fun h => nomatch h) ?_
  intro bX
  refine go_pure0 Tk rfl rfl rfl ?_
  refine go_nil ?_
  refine go_finfold (c := c) (F := F) (R := R) (N := N) (out := []) (by repeat constructor) (by repeat constructor) ?_
  refine go_env [(9, _)] ⟨rfl, trivial⟩ ?_
  refine go_seq ?_
  refine go_region rfl ?_
  refine go_pure0 Tk rfl rfl rfl ?_
  refine go_val0 rfl (fun a w hp ho hf hs => build_val Tk rfl rfl rfl (by rfl) a w hf) rfl ?_
  refine go_re 20 (.agg (hc (List.replicate 16 0) (List.replicate 16 false) []).toArray) (by rfl) ?_
  refine go_call (refFrom c CA cc CB cd bX F FA fc R RA rc N NA nc hR p1 (Nat.le_trans (may_len6 p2) (by omega)) (fun l hl => Nat.le_trans (may_len6 (p3 l hl)) (by omega)) (c.b.length - 0) 0 (List.replicate 16 0) (List.replicate 16 false) false [] rfl (by omega) (by simp) (by simp) (domTo.start c) rises_nil (by show 0 + _ ≤ _; rw [Nat.zero_add]; exact hlen)) rfl rfl (by rfl) rfl (by repeat constructor) (by repeat constructor) (fun h => nomatch h) ?_
  rintro _ _ _ ⟨rfl, rfl, rfl⟩
  refine go_nil ?_
  refine go_env [(9, _)] ⟨rfl, trivial⟩ ?_
  refine go_seq ?_
  refine go_finsame (out' := headsC c F R N true) (by repeat constructor) (by unfold headsC; rw [if_pos g1']; rfl) ?_
  refine go_fin (bX := bX) (by repeat constructor) (fun A9 k9 => ?_)
  refine go_region rfl ?_
  refine go_pure0 Tk rfl rfl rfl ?_
  refine go_pure0 Tk rfl rfl rfl ?_
  refine go_pure0 Tk rfl rfl rfl ?_
  refine go_val0 rfl (ldv Tk rfl rfl rfl) rfl ?_
  refine go_pure0 Tk rfl rfl rfl ?_
  refine go_nil ?_
  refine go_env [(8, _)] ⟨rfl, trivial⟩ ?_
  refine go_ret ⟨rfl, rfl⟩ _ _ (res1 (by rfl) (.tmp rfl)) ⟨A9, k9, rfl, rfl, rfl⟩ (by repeat constructor) (by repeat constructor)

set_option maxHeartbeats 2000000 in
set_option maxRecDepth 20000 in
theorem lawJoinPlays (c : Cl) (CA : Option Addr) (cc : Nat) (CB : Option Addr) (cd : Nat) (hok : c.ok) (a : List Fa) (A1 : Option Addr) (k1 : Nat) (ga : ∀ x ∈ a, x.ok) (za : a.length ≤ 140737488351232) (b : List Fa) (A2 : Option Addr) (k2 : Nat) (gb : ∀ x ∈ b, x.ok) (zb : b.length ≤ 140737488351232) (d : List Fa) (A3 : Option Addr) (k3 : Nat) (gd : ∀ x ∈ d, x.ok) (zd : d.length ≤ 140737488351232) :
    Spec Tryz.prog 3 #[.agg #[.int .u32 c.h.p, .slice CA c.h.a.length cc, .slice CB c.b.length cd], .slice A1 a.length k1, .slice A2 b.length k2, .slice A3 d.length k3] [sl tTm CA cc c.h.a, sl tLi CB cd c.b, sl tFa A1 k1 a, sl tFa A2 k2 b, sl tFa A3 k3 d] [] (fun v Ps' Os' => v = .bool true ∧ Ps' = [] ∧ Os' = []) := by
 refine spec_of (fn := Tryz.f3) (args := [.agg #[.int .u32 c.h.p, .slice CA c.h.a.length cc, .slice CB c.b.length cd], .slice A1 a.length k1, .slice A2 b.length k2, .slice A3 d.length k3]) 50 Tryz.func3 rfl (by kernel_rfl) Tryz.ntmps3 (Nat.le_of_ble_eq_true rfl) (fun w0 hp0 hf0 => ?_)
 refine go_seq ?_
 refine go_region rfl ?_
 refine go_box Tk rfl rfl rfl rfl (by rfl) rfl rfl (fun h => nomatch h) ?_
 intro bC
 refine go_pure0 Tk rfl rfl rfl ?_
 refine go_nil ?_
 refine go_freeze_pt (b := bC) (by repeat constructor) ?_
 refine go_env [(1, _), (2, _), (3, _), (4, _)] ⟨rfl, rfl, rfl, rfl, trivial⟩ ?_
 refine go_seq ?_
 refine go_seq ?_
 refine go_region rfl ?_
 refine go_val0 rfl (ldv Tk rfl rfl rfl) rfl ?_
 refine go_pure0 Tk rfl rfl rfl ?_
 refine go_pure0 Tk rfl rfl rfl ?_
 refine go_pure0 Tk rfl rfl rfl ?_
 refine go_call (law13few c CA cc CB cd A1 k1 a A2 k2 b A3 k3 d (by omega) (by omega)) rfl rfl (by rfl) rfl (by repeat constructor) (by repeat constructor) (fun h => nomatch h) ?_
 rintro _ _ _ ⟨rfl, rfl, rfl⟩
 refine go_pure0 Tk rfl rfl rfl ?_
 refine go_nil ?_
 refine go_env [(1, _), (2, _), (3, _), (4, _), (16, _)] ⟨rfl, rfl, rfl, rfl, rfl, trivial⟩ ?_
 refine go_cond rfl ?_ ?_
 ·intro f1
  (try simp only [decide_eq_true_eq, decide_eq_false_iff_not, Bool.not_eq_true', Bool.not_eq_false', Bool.not_eq_eq_eq_not, Bool.not_true, Bool.not_false, Int.not_lt, Int.not_le, beq_iff_eq, beq_eq_false_iff_ne, ne_eq] at f1)
  refine go_seq ?_
  refine go_region rfl ?_
  refine go_call (lawWorks13) rfl rfl (by rfl) rfl (by repeat constructor) (by repeat constructor) (fun h => nomatch h) ?_
  rintro _ _ _ ⟨rfl, rfl, rfl⟩
  refine go_pure0 Tk rfl rfl rfl ?_
  refine go_nil ?_
  refine go_env [(8, _)] ⟨rfl, trivial⟩ ?_
  refine go_ret ⟨rfl, rfl⟩ _ _ (res1 (by rfl) (.tmp rfl)) ⟨rfl, rfl, rfl⟩ (by repeat constructor) (by repeat constructor)
 ·intro f1
  (try simp only [decide_eq_true_eq, decide_eq_false_iff_not, Bool.not_eq_true', Bool.not_eq_false', Bool.not_eq_eq_eq_not, Bool.not_true, Bool.not_false, Int.not_lt, Int.not_le, beq_iff_eq, beq_eq_false_iff_ne, ne_eq] at f1)
  refine go_skip ?_
  refine go_seq ?_
  have fp := few13_of f1
  have hall := few13_all fp ga gb gd
  have hsm := fp.2.2.1
  have hlens : a.length + b.length ≤ 60 ∧ d.length ≤ 60 := ⟨fp.1, fp.2.1⟩
  have hla : ∀ x ∈ a, x.a.length ≤ 30 := fun x hx => (hall x (List.mem_append_left _ (List.mem_append_left _ hx))).2
  have hlb : ∀ x ∈ b, x.a.length ≤ 30 := fun x hx => (hall x (List.mem_append_left _ (List.mem_append_right _ hx))).2
  have hld : ∀ x ∈ d, x.a.length ≤ 30 := fun x hx => (hall x (List.mem_append_right _ hx)).2
  have hbl : c.b.length ≤ 1000 := by have := ((few11_of fp.2.2.2).2.1 c (.head _)).1; omega
  refine go_draw ([cl bC 0 [.int .u32 c.h.p, .slice CA c.h.a.length cc, .slice CB c.b.length cd]]) ([]) [0] (SL.pre [(1, 1), (1, 3), (2, 0), (0, 2), (0, 4), (0, 5), (1, 6)] .nil) mixed rfl (by kernel_rfl) ?_
  refine go_pure1 Tk rfl rfl rfl ?_
  refine go_pure1 Tk rfl rfl rfl ?_
  refine go_val2a rfl (ldv Tk rfl rfl rfl) rfl ?_
  refine go_call (relOf A1 k1 a (by omega) (fun x hx => Nat.le_trans (hla x hx) (by omega))) rfl rfl (by rfl) rfl (by repeat constructor) (by repeat constructor) (fun _ v Ps' Os' hq => by obtain ⟨r1, rfl, rfl, rfl⟩ := hq; exact satS (by repeat constructor) (by repeat constructor)) ?_
  rintro _ _ _ ⟨r1, rfl, rfl, rfl⟩
  refine go_freeze_rel (b := r1) (by repeat constructor) ?_
  refine go_ent (relN (some ⟨r1, 0, none⟩) (fof a)) (fun hh hps => relN_some (hps (relP r1 (fof a)) (by repeat constructor))) ?_
  refine go_call (relOf A3 k3 d (by omega) (fun x hx => Nat.le_trans (hld x hx) (by omega))) rfl rfl (by rfl) rfl (by repeat constructor) (by repeat constructor) (fun _ v Ps' Os' hq => by obtain ⟨r2, rfl, rfl, rfl⟩ := hq; exact satS (by repeat constructor) (by repeat constructor)) ?_
  rintro _ _ _ ⟨r2, rfl, rfl, rfl⟩
  refine go_freeze_rel (b := r2) (by repeat constructor) ?_
  refine go_ent (relN (some ⟨r2, 0, none⟩) (fof d)) (fun hh hps => relN_some (hps (relP r2 (fof d)) (by repeat constructor))) ?_
  refine go_call (joinHeadsAll c CA cc CB cd (some ⟨r1, 0, none⟩) (some ⟨r2, 0, none⟩) (fof a) (fof d) (js_small (F := a) (R := []) (N := d) (fun x hx => ⟨ga x hx, Nat.le_trans (hla x hx) (by omega)⟩) (by omega) (by first | omega | simp) (by omega)) hok (Nat.le_trans (small_pow hsm (Nat.le_trans (fof_len a) (by omega)) _) (by omega))) rfl rfl (by rfl) rfl (by repeat constructor) (by repeat constructor) (fun h => nomatch h) ?_
  rintro _ _ _ ⟨D1, e1, rfl, rfl, rfl⟩
  refine go_freeze_dl (T := tFa) (A := D1) (xs := headsC c (fof a) [] (fof d) false) (by repeat constructor) ?_
  refine go_pure1 Tk rfl rfl rfl ?_
  refine go_nil ?_
  refine go_env [(1, _), (2, _), (3, _), (4, _), (9, _)] ⟨rfl, rfl, rfl, rfl, rfl, trivial⟩ ?_
  refine go_seq ?_
  refine go_draw ([cl bC 0 [.int .u32 c.h.p, .slice CA c.h.a.length cc, .slice CB c.b.length cd]]) ([]) [0] (SL.pre [(1, 1), (1, 3), (1, 5), (2, 0), (0, 2), (0, 4), (0, 6), (0, 7), (1, 8)] .nil) mixed rfl (by kernel_rfl) ?_
  refine go_pure1 Tk rfl rfl rfl ?_
  refine go_pure1 Tk rfl rfl rfl ?_
  refine go_pure1 Tk rfl rfl rfl ?_
  refine go_val2a rfl (ldv Tk rfl rfl rfl) rfl ?_
  refine go_call (relOf A1 k1 a (by omega) (fun x hx => Nat.le_trans (hla x hx) (by omega))) rfl rfl (by rfl) rfl (by repeat constructor) (by repeat constructor) (fun _ v Ps' Os' hq => by obtain ⟨r3, rfl, rfl, rfl⟩ := hq; exact satS (by repeat constructor) (by repeat constructor)) ?_
  rintro _ _ _ ⟨r3, rfl, rfl, rfl⟩
  refine go_freeze_rel (b := r3) (by repeat constructor) ?_
  refine go_ent (relN (some ⟨r3, 0, none⟩) (fof a)) (fun hh hps => relN_some (hps (relP r3 (fof a)) (by repeat constructor))) ?_
  refine go_call (relOf A2 k2 b (by omega) (fun x hx => Nat.le_trans (hlb x hx) (by omega))) rfl rfl (by rfl) rfl (by repeat constructor) (by repeat constructor) (fun _ v Ps' Os' hq => by obtain ⟨r4, rfl, rfl, rfl⟩ := hq; exact satS (by repeat constructor) (by repeat constructor)) ?_
  rintro _ _ _ ⟨r4, rfl, rfl, rfl⟩
  refine go_freeze_rel (b := r4) (by repeat constructor) ?_
  refine go_ent (relN (some ⟨r4, 0, none⟩) (fof b)) (fun hh hps => relN_some (hps (relP r4 (fof b)) (by repeat constructor))) ?_
  refine go_call (relOf A3 k3 d (by omega) (fun x hx => Nat.le_trans (hld x hx) (by omega))) rfl rfl (by rfl) rfl (by repeat constructor) (by repeat constructor) (fun _ v Ps' Os' hq => by obtain ⟨r5, rfl, rfl, rfl⟩ := hq; exact satS (by repeat constructor) (by repeat constructor)) ?_
  rintro _ _ _ ⟨r5, rfl, rfl, rfl⟩
  refine go_freeze_rel (b := r5) (by repeat constructor) ?_
  refine go_ent (relN (some ⟨r5, 0, none⟩) (fof d)) (fun hh hps => relN_some (hps (relP r5 (fof d)) (by repeat constructor))) ?_
  refine go_call (joinNews c CA cc CB cd (some ⟨r3, 0, none⟩) (some ⟨r4, 0, none⟩) (some ⟨r5, 0, none⟩) (fof a) (fof b) (fof d) (js_small (F := a) (R := b) (N := d) (fun x hx => ⟨ga x hx, Nat.le_trans (hla x hx) (by omega)⟩) (by omega) (by first | omega | simp) (by omega)) hok (Nat.le_trans (small_pow hsm (Nat.le_trans (fof_len a) (by omega)) _) (by omega))) rfl rfl (by rfl) rfl (by repeat constructor) (by repeat constructor) (fun h => nomatch h) ?_
  rintro _ _ _ ⟨D2, e2, rfl, rfl, rfl⟩
  refine go_freeze_dl (T := tFa) (A := D2) (xs := headsC c (fof a) (fof b) (fof d) true) (by repeat constructor) ?_
  refine go_pure1 Tk rfl rfl rfl ?_
  refine go_nil ?_
  refine go_env [(1, _), (2, _), (3, _), (4, _), (9, _), (10, _)] ⟨rfl, rfl, rfl, rfl, rfl, rfl, trivial⟩ ?_
  refine go_seq ?_
  refine go_region rfl ?_
  refine go_pure0 Tk rfl rfl rfl ?_
  refine go_val0 rfl (ldv Tk rfl rfl rfl) rfl ?_
  refine go_pure0 Tk rfl rfl rfl ?_
  refine go_pure0 Tk rfl rfl rfl ?_
  refine go_call (ref13Heads c CA cc CB cd a A1 k1 d A3 k3 hok hbl (Nat.le_trans (small_pow hsm (by omega) _) (by omega))) rfl rfl (by rfl) rfl (by repeat constructor) (by repeat constructor) (fun h => nomatch h) ?_
  rintro _ _ _ ⟨D3, e3, rfl, rfl, rfl⟩
  refine go_call (ref13Same D1 e1 (headsC c (fof a) [] (fof d) false) D3 e3 (headsC c a [] d false)) rfl rfl (by rfl) rfl (by repeat constructor) (by repeat constructor) (fun h => nomatch h) ?_
  rintro _ _ _ ⟨rfl, rfl, rfl⟩
  refine go_re 37 (.bool true) (by show some (Value.bool _) = _; rw [decide_eq_true (show headsC c (fof a) [] (fof d) false = headsC c a [] d false from heads_fof hok a [] d false)]) ?_
  refine go_pure0 Tk rfl rfl rfl ?_
  refine go_pure0 Tk rfl rfl rfl ?_
  refine go_val0 rfl (ldv Tk rfl rfl rfl) rfl ?_
  refine go_pure0 Tk rfl rfl rfl ?_
  refine go_pure0 Tk rfl rfl rfl ?_
  refine go_pure0 Tk rfl rfl rfl ?_
  refine go_call (ref13News c CA cc CB cd a A1 k1 b A2 k2 d A3 k3 hok hbl (Nat.le_trans (small_pow hsm (by omega) _) (by omega))) rfl rfl (by rfl) rfl (by repeat constructor) (by repeat constructor) (fun h => nomatch h) ?_
  rintro _ _ _ ⟨D4, e4, rfl, rfl, rfl⟩
  refine go_call (ref13Same D2 e2 (headsC c (fof a) (fof b) (fof d) true) D4 e4 (headsC c a b d true)) rfl rfl (by rfl) rfl (by repeat constructor) (by repeat constructor) (fun h => nomatch h) ?_
  rintro _ _ _ ⟨rfl, rfl, rfl⟩
  refine go_re 45 (.bool true) (by show some (Value.bool _) = _; rw [decide_eq_true (heads_fof hok a b d true)]) ?_
  refine go_pure0 Tk rfl rfl rfl ?_
  refine go_pure0 Tk rfl rfl rfl ?_
  refine go_call (lawWorks13) rfl rfl (by rfl) rfl (by repeat constructor) (by repeat constructor) (fun h => nomatch h) ?_
  rintro _ _ _ ⟨rfl, rfl, rfl⟩
  refine go_pure0 Tk rfl rfl rfl ?_
  refine go_pure0 Tk rfl rfl rfl ?_
  refine go_nil ?_
  refine go_env [(8, _)] ⟨rfl, trivial⟩ ?_
  refine go_ret ⟨rfl, rfl⟩ _ _ (res1 (by rfl) (.tmp rfl)) ⟨rfl, rfl, rfl⟩ (by repeat constructor) (by repeat constructor)

end Go.Proofs.YtkhddfknpegpmaaGreat.SL
