/- Engine, data and contracts: parts of the proof of ModelApart, put together (Joine Joinf Ref13 Law13a Refcl Refg Refh Refk DY Ari DZ Fixa Fixb Modela Law13b Law14a Reffa Reffi Law13c Reffj Law14b Modelb EA Law15a EB Law15d S8 Open SE). -/
import Derived.Test.YtpgnmfnckjnecaaGreatMModelApartD
import Derived.Test.YtpgnmfnckjnecaaGreatMModelApartB
import Derived.Test.YtpgnmfnckjnecaaGreatMModelApartA
import Derived.WalkKit
import Derived.ProofKit
import Derived.OpenShut
import Derived.ShutString
import Derived.ChangeOld
import Derived.Below
import Derived.Carry
import Derived.SizedLaws
import Derived.Deep.Slices
set_option linter.unusedVariables false
set_option linter.unusedSimpArgs false
set_option maxHeartbeats 2000000
set_option maxRecDepth 20000
namespace Go.Proofs.YtpgnmfnckjnecaaGreat.SL
open Go
structure JoinH (c : Cl) (F R N : List Fa) : Prop where
  vh : vok c.h
  vb : ∀ l ∈ c.b, vok l.a
  lh : c.h.a.length ≤ 12
  lb : ∀ l ∈ c.b, l.a.a.length ≤ 12
  nn : ∀ l ∈ c.b, ∀ t ∈ l.a.a, 0 ≤ t.n
  nF : F.length ≤ 50000000
  bF : ∀ x ∈ F, x.a.length ≤ 100000
  oF : ∀ x ∈ F, ∀ n ∈ x.a, 0 ≤ n
  rR : rises R
  nR : R.length ≤ 50000000
  rN : rises N
  nN : N.length ≤ 50000000
theorem putA_len (few : List Int) (is : List Bool) (a : Am) : (putA few is a).a.length = a.a.length := by simp [putA]
theorem ofA_len (a : Am) : (ofA a).a.length ≤ a.a.length := by unfold ofA; split <;> simp
theorem putA_nn {few : List Int} {is : List Bool} {a : Am} (hf : ∀ v ∈ few, 0 ≤ v) (ha : ∀ t ∈ a.a, 0 ≤ t.n) : ∀ t ∈ (putA few is a).a, 0 ≤ t.n := fun t ht => by
  simp only [putA, List.mem_map] at ht
  obtain ⟨u, hu, rfl⟩ := ht
  unfold putT
  split
  · show 0 ≤ (few[u.n.toNat]?).getD 0
    cases e : few[u.n.toNat]? with
    | none => simp
    | some v => exact hf v (List.mem_of_getElem? e)
  · exact ha u hu
theorem meetL_nn (f : List Int) (hf : ∀ n ∈ f, 0 ≤ n) : ∀ (l : List Tm) (c : Ch) (i : Nat), (∀ v ∈ c.1, 0 ≤ v) → ∀ v ∈ (meetL f c l i).1, 0 ≤ v
  | [], c, i, h => h
  | t :: l, c, i, h => by
    unfold meetL
    refine meetL_nn f hf l _ (i + 1) ?_
    split
    · intro v hv
      rcases List.mem_or_eq_of_mem_set hv with hv | rfl
      · exact h v hv
      · cases e : f[i]? with
        | none => simp
        | some v => exact hf v (List.mem_of_getElem? e)
    · exact h
noncomputable abbrev goF (c : Cl) (F R N : List Fa) (i : Nat) (few : List Int) (is : List Bool) (new : Bool) (f : Fa) : List Fa := goL c F R N (c.b.drop (i + 1)) (meetL f.a (few, is) (c.b[i]?.getD ⟨false, ⟨0, []⟩⟩).a.a 0) (new || decide (f ∈ R))
theorem goL_not {c : Cl} {F R N : List Fa} {i : Nat} (hi : i < c.b.length) (e : c.b[i].no = true) (ch : Ch) (new : Bool) : goL c F R N (c.b.drop i) ch new = goL c F R N (c.b.drop (i + 1)) ch new := by
  rw [List.drop_eq_getElem_cons hi, goL, if_pos e]
theorem goL_yes {c : Cl} {F R N : List Fa} {i : Nat} (hi : i < c.b.length) (e : c.b[i].no = false) (few : List Int) (is : List Bool) (new : Bool) : goL c F R N (c.b.drop i) (few, is) new = (F.filter (mtch (putA few is c.b[i].a))).flatMap (goF c F R N i few is new) := by
  rw [List.drop_eq_getElem_cons hi, goL, if_neg (by rw [e]; decide)]
  unfold goF
  rw [List.getElem?_eq_getElem hi]; rfl
theorem goL_end {c : Cl} {F R N : List Fa} {i : Nat} (hi : c.b.length ≤ i) (ch : Ch) (new : Bool) : goL c F R N (c.b.drop i) ch new = if okN N c.b ch = true ∧ new = true then [ofA (putA ch.1 ch.2 c.h)] else [] := by
  rw [List.drop_eq_nil_of_le hi, goL]
theorem flat_next {α β : Type} {l : List α} {k : Nat} (hk : k < l.length) (g : α → List β) : (l.take (k + 1)).flatMap g = (l.take k).flatMap g ++ g l[k] := by
  rw [List.take_succ_eq_append_getElem hk, List.flatMap_append]; simp
theorem flat_len {α β : Type} {l : List α} {k : Nat} (hk : k < l.length) (g : α → List β) : ((l.take k).flatMap g).length + (g l[k]).length ≤ (l.flatMap g).length := by
  rw [← List.length_append, ← flat_next hk]
  conv => rhs; rw [← List.take_append_drop (k + 1) l, List.flatMap_append, List.length_append]
  omega
theorem okN_no {N : List Fa} {b : List Li} {c : Ch} {k : Nat} (hk : k < b.length) (e : b[k].no = true) (h : ofA (putA c.1 c.2 b[k].a) ∈ N) : okN N b c = false := by
  unfold okN
  rw [Bool.not_eq_false', List.any_eq_true]
  exact ⟨b[k], List.getElem_mem hk, by rw [e, decide_eq_true h]; rfl⟩
theorem okN_yes {N : List Fa} {b : List Li} {c : Ch} {k : Nat} (hk : b.length ≤ k) (h : ∀ l ∈ b.take k, ¬ (l.no = true ∧ ofA (putA c.1 c.2 l.a) ∈ N)) : okN N b c = true := by
  rw [List.take_of_length_le hk] at h
  unfold okN
  rw [Bool.not_eq_true', List.any_eq_false]
  intro l hl
  have := h l hl
  simp only [Bool.and_eq_true, decide_eq_true_eq]
  exact this
theorem heads1 (c : Cl) (CA : Option Addr) (cc : Nat) (CB : Option Addr) (cd : Nat) (bC bF bf bg bn bo b : Nat) (pf pg pn : Option Addr) (F R N : List Fa) (H : JoinH c F R N) (i : Nat) (few : List Int) (is : List Bool) (new : Bool) (out : List Fa) (hil : i ≤ c.b.length) (hf : few.length = 16) (hi : is.length = 16) (hv : ∀ v ∈ few, 0 ≤ v) (ho : rises out) (hlen : out.length + (goL c F R N (c.b.drop (i)) (few, is) new).length ≤ 50000000) (ih : i < c.b.length → ∀ (few : List Int) (is : List Bool) (new : Bool) (out : List Fa) (hil : i + 1 ≤ c.b.length) (hf : few.length = 16) (hi : is.length = 16) (hv : ∀ v ∈ few, 0 ≤ v) (ho : rises out) (hlen : out.length + (goL c F R N (c.b.drop (i + 1)) (few, is) new).length ≤ 50000000), Spec Tryz.prog 91 #[.int .i64 ((i + 1 : Nat) : Int), .agg (hc (few) (is) []).toArray, .bool (new), .pointer (some ⟨bC, 0, none⟩), .pointer (some ⟨bF, 0, none⟩), .pointer (some ⟨bf, 0, none⟩), .pointer (some ⟨bg, 0, none⟩), .pointer (some ⟨bn, 0, none⟩), .pointer (some ⟨bo, 0, none⟩)] [cl bC 0 [.int .u32 c.h.p, .slice CA c.h.a.length cc, .slice CB c.b.length cd], sl tTm CA cc c.h.a, sl tLi CB cd c.b, cl bF 0 [.func (.func 91) #[] #[.pointer (some ⟨bC, 0, none⟩), .pointer (some ⟨bF, 0, none⟩), .pointer (some ⟨bf, 0, none⟩), .pointer (some ⟨bg, 0, none⟩), .pointer (some ⟨bn, 0, none⟩), .pointer (some ⟨bo, 0, none⟩)]], cl bf 0 [.pointer pf], cl bg 0 [.pointer pg], cl bn 0 [.pointer pn], cl bo 0 [.pointer (some ⟨b, 0, none⟩)], relN pf F, relN pg R, relN pn N] [relO b out] (fun v Ps' Os' => v = .tuple #[] ∧ Ps' = [] ∧ Os' = [relO b ((goL c F R N (c.b.drop (i + 1)) (few, is) (new)).foldl fput (out))])) :
    Spec Tryz.prog 91 #[.int .i64 (i : Int), .agg (hc (few) (is) []).toArray, .bool (new), .pointer (some ⟨bC, 0, none⟩), .pointer (some ⟨bF, 0, none⟩), .pointer (some ⟨bf, 0, none⟩), .pointer (some ⟨bg, 0, none⟩), .pointer (some ⟨bn, 0, none⟩), .pointer (some ⟨bo, 0, none⟩)] [cl bC 0 [.int .u32 c.h.p, .slice CA c.h.a.length cc, .slice CB c.b.length cd], sl tTm CA cc c.h.a, sl tLi CB cd c.b, cl bF 0 [.func (.func 91) #[] #[.pointer (some ⟨bC, 0, none⟩), .pointer (some ⟨bF, 0, none⟩), .pointer (some ⟨bf, 0, none⟩), .pointer (some ⟨bg, 0, none⟩), .pointer (some ⟨bn, 0, none⟩), .pointer (some ⟨bo, 0, none⟩)]], cl bf 0 [.pointer pf], cl bg 0 [.pointer pg], cl bn 0 [.pointer pn], cl bo 0 [.pointer (some ⟨b, 0, none⟩)], relN pf F, relN pg R, relN pn N] [relO b out] (fun v Ps' Os' => v = .tuple #[] ∧ Ps' = [] ∧ Os' = [relO b ((goL c F R N (c.b.drop (i)) (few, is) (new)).foldl fput (out))]) := by
 refine zSp [.int .i64 (i : Int), .agg (hc (few) (is) []).toArray, .bool (new), .pointer (some ⟨bC, 0, none⟩), .pointer (some ⟨bF, 0, none⟩), .pointer (some ⟨bf, 0, none⟩), .pointer (some ⟨bg, 0, none⟩), .pointer (some ⟨bn, 0, none⟩), .pointer (some ⟨bo, 0, none⟩)] Tryz.func91 Tryz.ntmps91 (fun w0 hp0 hf0 => ?_)
 refine zR 2 ?_
 refine go_box (cs := hc few is []) Tk rfl rfl rfl rfl (takeL_len (hc_len hf hi)) (beq_of (hc_len hf hi)) rfl zF ?_
 intro bH
 refine go_freeze_pt (b := bH) zM ?_
 refine zR 3 ?_
 refine go_len (xs := c.b) zM (fun l0 m0 => ?_)
 refine zL 3 ?_
 refine zD' 3 ?_ ?_
 ·intro g0
  refine zR 3 ?_
  have hgo := goL_end (F := F) (R := R) (N := N) (show c.b.length ≤ i by omega) (few, is) new
  rw [hgo] at hlen
  refine zL 2 ?_
  refine zR 4 ?_
  refine zO (X := Nat) (fun k => [(64, .int .i64 (k : Int))]) [2, 3, 7, 8, 10, 62, 63] (fun _ => []) (fun k => k ≤ c.b.length ∧ ∀ l ∈ c.b.take k, ¬ (l.no = true ∧ ofA (putA few is l.a) ∈ N)) (fun k => c.b.length - k) 0 ⟨by omega, by simp⟩ ?_
  intro k ⟨hk, hz⟩
  refine zD' 5 ?_ ?_
  ·intro hq1
   refine zB' 5 ?_ ?_
   ·intro g5
    (try simp only [dcs, ne_eq] at g5)
    rw [if_neg (fun q => by rw [g5] at q; cases q.2)] at hgo
    refine zT 1 rfl ⟨rfl, rfl, by rw [hgo]⟩
   intro g5
   (try simp only [dcs, ne_eq] at g5)
   have hok : okN N c.b (few, is) = true := okN_yes (by omega) hz
   rw [if_pos ⟨hok, g5⟩, List.length_singleton] at hlen
   refine go_draw ([cl bo 0 [.pointer (some ⟨b, 0, none⟩)], cl bC 0 [.int .u32 c.h.p, .slice CA c.h.a.length cc, .slice CB c.b.length cd]]) ([]) [0, 2] (SL.pre [(1, 1), (2, 0), (2, 2), (0, 3), (0, 4)] .nil) mixed rfl (by kernel_rfl) ?_
   refine zK 1 ?_
   refine zK 0 ?_
   refine go_call (choiceBecomes bH few is hf hi c.h CA cc (by have := H.lh; omega) H.vh) rfl rfl (by rfl) rfl zM zM (fun _ v Ps' Os' hq => by obtain ⟨A6, c6, rfl, rfl, rfl⟩ := hq; exact satS zM zM) ?_
   rintro _ _ _ ⟨A6, c6, rfl, rfl, rfl⟩
   refine zC3 0 (relPut b out (ofA (putA few is c.h)) A6 c6 ho (by omega) (by have h1 := ofA_len (putA few is c.h); have h2 := H.lh; rw [putA_len] at h1; omega)) ?_
   refine zT 1 rfl ⟨rfl, rfl, by rw [hgo, if_pos ⟨hok, g5⟩]⟩
  intro hq1
  refine zR 4 ?_
  refine go_elem_li (xs := c.b) zM (k) (List.getElem?_eq_getElem (by omega)) (fun b4 o4 A4 c4 hA => ?_); cases hA
  refine zI 1 ?_
  refine zL 0 ?_
  refine zW 0 ?_
  intro bM
  refine zS 0 ?_
  refine zR 1 ?_
  refine go_freeze_pt (b := bM) zM ?_
  have hvk := H.vb c.b[k] (List.getElem_mem _)
  have hlk := H.lb c.b[k] (List.getElem_mem _)
  refine zR 1 ?_
  refine go_draw ([cl bn 0 [.pointer pn], cl bM 0 [.bool c.b[k].no, .int .u32 c.b[k].a.p, .slice A4 c.b[k].a.a.length c4]]) ([]) [1, 3, 5] (SL.pre [(1, 0), (2, 1), (1, 2), (1, 4), (2, 3), (2, 5), (0, 6), (0, 7), (1, 8)] .nil) mixed rfl (by kernel_rfl) ?_
  refine zK 1 ?_
  refine zG' 1 70 ?_ ?_
  ·intro g3
   (try simp only [dcs, ne_eq] at g3)
   have hkz : ¬ (c.b[k].no = true ∧ ofA (putA few is c.b[k].a) ∈ N) := fun q => by rw [g3] at q; cases q.1
   refine zJ 1 ?_
   refine zJ 0 ?_
   refine go_skip0f rfl satA rfl ?_
   refine zDf 3 ?_
   refine zR 6 ?_
   refine go_i64 64 rfl (by omega) (by omega) ?_
   refine zz (k + 1) (⟨by omega, mem_take_next (by omega) hz hkz⟩) (by omega)
  intro g3
  (try simp only [dcs, ne_eq] at g3)
  refine zK 1 ?_
  refine zK 0 ?_
  refine go_call (choiceBecomes bH few is hf hi c.b[k].a A4 c4 (by omega) hvk) rfl rfl (by rfl) rfl zM zM (fun _ v Ps' Os' hq => by obtain ⟨A5, c5, rfl, rfl, rfl⟩ := hq; exact satS zM zM) ?_
  rintro _ _ _ ⟨A5, c5, rfl, rfl, rfl⟩
  refine zC3 0 (relHasN pn N (ofA (putA few is c.b[k].a)) A5 c5 H.rN H.nN) ?_
  refine zB 2 ?_ ?_
  ·intro g4
   (try simp only [dcs, ne_eq] at g4)
   refine zT 0 rfl ⟨rfl, rfl, by rw [hgo, if_neg (fun q => by rw [okN_no (c := (few, is)) (by omega) g3 g4] at q; cases q.1)]⟩
  intro g4
  (try simp only [dcs, ne_eq] at g4)
  have hkz : ¬ (c.b[k].no = true ∧ ofA (putA few is c.b[k].a) ∈ N) := fun q => g4 q.2
  refine zR 6 ?_
  refine go_i64 64 rfl (by omega) (by omega) ?_
  refine zz (k + 1) (⟨by omega, mem_take_next (by omega) hz hkz⟩) (by omega)
 intro g0
 refine zR 1 ?_
 refine go_elem_li (xs := c.b) zM (i) (List.getElem?_eq_getElem (by omega)) (fun b0 o0 A0 c0 hA => ?_); cases hA
 refine zL 2 ?_
 refine zI 1 ?_
 refine zL 0 ?_
 refine zW 0 ?_
 intro bL
 refine zS 0 ?_
 refine zR 1 ?_
 refine go_freeze_pt (b := bL) zM ?_
 have hvl := H.vb c.b[i] (List.getElem_mem _)
 have hll := H.lb c.b[i] (List.getElem_mem _)
 have hnl := putA_nn (is := is) hv (H.nn c.b[i] (List.getElem_mem _))
 refine zE 0 [0, 2, 4, 5, 6, 10, 12] ?_
 refine zL 4 ?_
 refine zB 1 ?_ ?_
 ·intro g1
  (try simp only [dcs, ne_eq] at g1)
  have hgo := goL_not (F := F) (R := R) (N := N) (by omega) g1 (few, is) new
  rw [hgo] at hlen
  refine zL 2 ?_
  refine zR 2 ?_
  refine go_re 31 (.int .i64 ((i + 1 : Nat) : Int)) (by show some (Value.int _ _) = _; rw [wrap_i64 (by omega) (by omega)]; rfl) ?_
  refine go_val0 rfl (load_val (cs := hc few is []) Tk rfl rfl rfl (at_allcl zM (hc_len hf hi)) rfl) rfl ?_
  refine zC3 1 (ih (by omega) few is new out (by omega) hf hi hv ho hlen) ?_
  refine zE 1 [] ?_
  refine zT 0 rfl ⟨rfl, rfl, by rw [hgo]⟩
 intro g1
 (try simp only [dcs, ne_eq] at g1)
 have hgo := goL_yes (F := F) (R := R) (N := N) (by omega) g1 few is new
 rw [hgo] at hlen
 refine zR 3 ?_
 refine go_draw ([cl bf 0 [.pointer pf], cl bL 0 [.bool c.b[i].no, .int .u32 c.b[i].a.p, .slice A0 c.b[i].a.a.length c0]]) ([]) [0, 2] (SL.pre [(1, 1), (1, 6), (2, 0), (2, 2), (0, 3), (0, 4), (1, 5)] .nil) mixed rfl (by kernel_rfl) ?_
 refine zK 2 ?_
 refine zK 0 ?_
 refine go_call (choicePut bH few is hf hi c.b[i].a A0 c0 (by omega) hvl) rfl rfl (by rfl) rfl zM zM (fun _ v Ps' Os' hq => by obtain ⟨A1, c1, rfl, rfl, rfl⟩ := hq; exact satS zM zM) ?_
 rintro _ _ _ ⟨A1, c1, rfl, rfl, rfl⟩
 refine zC 0 (relFindN pf F (putA few is c.b[i].a) A1 c1 hnl (by rw [putA_len]; omega) H.nF H.bF) ?_
 rintro _ _ _ ⟨A2, c2, rfl, rfl, rfl⟩
 refine go_freeze_dl (T := tFa) (A := A2) zM ?_
 refine go_len (xs := F.filter (mtch (putA few is c.b[i].a))) zM (fun l2 m2 => ?_)
 refine go_same (A := relO b out) (B := relO b (((F.filter (mtch (putA few is c.b[i].a))).take (0) |>.flatMap (goF c F R N i few is new)).foldl fput out)) zM rfl ?_
 refine zR 3 ?_
 refine zO (X := Nat) (fun k => [(41, .int .i64 (k : Int))]) [0, 2, 4, 6, 10, 12, 39, 40] (fun k => [relO b (((F.filter (mtch (putA few is c.b[i].a))).take (k) |>.flatMap (goF c F R N i few is new)).foldl fput out)]) (fun k => k ≤ (F.filter (mtch (putA few is c.b[i].a))).length) (fun k => (F.filter (mtch (putA few is c.b[i].a))).length - k) 0 (by omega) ?_
 intro k hk
 refine zD' 5 ?_ ?_
 ·intro hk2
  refine go_same (B := relO b ((F.filter (mtch (putA few is c.b[i].a))).flatMap (goF c F R N i few is new) |>.foldl fput out)) .here (by rw [List.take_of_length_le (by omega)]) ?_
  refine zT 1 rfl ⟨rfl, rfl, by rw [hgo]⟩
 intro hk2
 refine zR 4 ?_
 have hkl : k < (F.filter (mtch (putA few is c.b[i].a))).length := by omega
 obtain ⟨f, hfe⟩ : ∃ f, f = (F.filter (mtch (putA few is c.b[i].a)))[k] := ⟨_, rfl⟩
 have hfm : f ∈ F.filter (mtch (putA few is c.b[i].a)) := by rw [hfe]; exact List.getElem_mem hkl
 rw [List.mem_filter] at hfm
 refine go_elem_fa (xs := F.filter (mtch (putA few is c.b[i].a))) zM (k) (List.getElem?_eq_getElem (by omega)) (fun b3 o3 A3 c3 hA => ?_); cases hA
 rw [← hfe]
 refine zI 1 ?_
 refine zL 0 ?_
 refine zW 0 ?_
 intro bX
 refine zS 0 ?_
 refine zR 1 ?_
 refine go_freeze_pt (b := bX) zM ?_
 refine go_draw ([cl bF 0 [.func (.func 91) #[] #[.pointer (some ⟨bC, 0, none⟩), .pointer (some ⟨bF, 0, none⟩), .pointer (some ⟨bf, 0, none⟩), .pointer (some ⟨bg, 0, none⟩), .pointer (some ⟨bn, 0, none⟩), .pointer (some ⟨bo, 0, none⟩)]], cl bH 0 (hc few is []), cl bL 0 [.bool c.b[i].no, .int .u32 c.b[i].a.p, .slice A0 c.b[i].a.a.length c0], cl bX 0 [.int .u32 f.p, .slice A3 f.a.length c3], cl bg 0 [.pointer pg]]) ([]) [0, 3, 5, 6, 10, 11] (SL.pre [(1, 1), (1, 2), (1, 4), (1, 8), (2, 0), (2, 3), (2, 5), (2, 6), (0, 7), (1, 9), (2, 10), (2, 11), (0, 12), (1, 13), (0, 14)] .nil) mixed rfl (by kernel_rfl) ?_
 refine zR 2 ?_
 refine go_re 47 (.int .i64 ((i + 1 : Nat) : Int)) (by show some (Value.int _ _) = _; rw [wrap_i64 (by omega) (by omega)]; rfl) ?_
 refine zK 2 ?_
 refine go_val2a rfl (load_val (cs := hc few is []) Tk rfl rfl rfl (at_allcl zM (hc_len hf hi)) rfl) rfl ?_
 refine zK 0 ?_
 refine zK 0 ?_
 refine go_call (choiceMeets few is hf hi c.b[i].a A0 c0 f A3 c3 (by have := (show Mt _ f from of_decide_eq_true hfm.2).pred.2; rw [putA_len] at this; exact this) hvl) rfl rfl (by rfl) rfl zM zM (fun _ v Ps' Os' hq => by obtain ⟨rfl, rfl, rfl⟩ := hq; exact satS zM zM) ?_
 rintro _ _ _ ⟨rfl, rfl, rfl⟩
 refine zG 1 54 ?_ ?_
 ·intro g2
  (try simp only [dcs, ne_eq] at g2)
  refine zJ 0 ?_
  refine zJ 0 ?_
  refine go_skip0f rfl satA rfl ?_
  refine zR 1 ?_
  refine go_re 58 (.bool (new || decide (f ∈ R))) (by show some (Value.bool _) = _; rw [g2]; simp) ?_
  have hfg : goF c F R N i few is new (F.filter (mtch (putA few is c.b[i].a)))[k] = goL c F R N (c.b.drop (i + 1)) (meetL f.a (few, is) c.b[i].a.a 0) (new || decide (f ∈ R)) := by
    unfold goF
    rw [← hfe, List.getElem?_eq_getElem (by omega)]; rfl
  have hfl := flat_len hkl (goF c F R N i few is new)
  rw [hfg] at hfl
  have hol := foldl_flen ((F.filter (mtch (putA few is c.b[i].a))).take k |>.flatMap (goF c F R N i few is new)) out
  refine zC3 0 (ih (by omega) (meetL f.a (few, is) c.b[i].a.a 0).1 (meetL f.a (few, is) c.b[i].a.a 0).2 (new || decide (f ∈ R)) (((F.filter (mtch (putA few is c.b[i].a))).take (k) |>.flatMap (goF c F R N i few is new)).foldl fput out) (by omega) (meetL_ok f.a _ (few, is) 0 ⟨hf, hi⟩).f (meetL_ok f.a _ (few, is) 0 ⟨hf, hi⟩).i (meetL_nn f.a (H.oF f hfm.1) _ (few, is) 0 hv) (foldl_rises _ _ ho) (by show _ + (goL c F R N (c.b.drop (i + 1)) (meetL f.a (few, is) c.b[i].a.a 0) (new || decide (f ∈ R))).length ≤ _; omega)) ?_
  refine zE 1 [0, 2, 4, 6, 10, 12, 39, 40, 41, 55, 56, 57] ?_
  refine zR 5 ?_
  refine go_i64 41 rfl (by omega) (by omega) ?_
  refine go_same (B := relO b (((F.filter (mtch (putA few is c.b[i].a))).take (k + 1) |>.flatMap (goF c F R N i few is new)).foldl fput out)) .here (by rw [flat_next hkl, List.foldl_append, hfg]) ?_
  refine zz (k + 1) (by omega) (by omega)
 intro g2
 (try simp only [dcs, ne_eq] at g2)
 refine zK 0 ?_
 refine zK 0 ?_
 refine go_call (relHasN pg R f A3 c3 H.rR H.nR) rfl rfl (by rfl) rfl zM zM (fun _ v Ps' Os' hq => by obtain ⟨rfl, rfl, rfl⟩ := hq; exact satS zM zM) ?_
 rintro _ _ _ ⟨rfl, rfl, rfl⟩
 refine zR 1 ?_
 refine go_re 58 (.bool (new || decide (f ∈ R))) (by show some (Value.bool _) = _; rw [g2]; simp) ?_
 have hfg : goF c F R N i few is new (F.filter (mtch (putA few is c.b[i].a)))[k] = goL c F R N (c.b.drop (i + 1)) (meetL f.a (few, is) c.b[i].a.a 0) (new || decide (f ∈ R)) := by
   unfold goF
   rw [← hfe, List.getElem?_eq_getElem (by omega)]; rfl
 have hfl := flat_len hkl (goF c F R N i few is new)
 rw [hfg] at hfl
 have hol := foldl_flen ((F.filter (mtch (putA few is c.b[i].a))).take k |>.flatMap (goF c F R N i few is new)) out
 refine zC3 0 (ih (by omega) (meetL f.a (few, is) c.b[i].a.a 0).1 (meetL f.a (few, is) c.b[i].a.a 0).2 (new || decide (f ∈ R)) (((F.filter (mtch (putA few is c.b[i].a))).take (k) |>.flatMap (goF c F R N i few is new)).foldl fput out) (by omega) (meetL_ok f.a _ (few, is) 0 ⟨hf, hi⟩).f (meetL_ok f.a _ (few, is) 0 ⟨hf, hi⟩).i (meetL_nn f.a (H.oF f hfm.1) _ (few, is) 0 hv) (foldl_rises _ _ ho) (by show _ + (goL c F R N (c.b.drop (i + 1)) (meetL f.a (few, is) c.b[i].a.a 0) (new || decide (f ∈ R))).length ≤ _; omega)) ?_
 refine zE 1 [0, 2, 4, 6, 10, 12, 39, 40, 41, 55, 56, 57] ?_
 refine zR 5 ?_
 refine go_i64 41 rfl (by omega) (by omega) ?_
 refine go_same (B := relO b (((F.filter (mtch (putA few is c.b[i].a))).take (k + 1) |>.flatMap (goF c F R N i few is new)).foldl fput out)) .here (by rw [flat_next hkl, List.foldl_append, hfg]) ?_
 refine zz (k + 1) (by omega) (by omega)
theorem headsFrom (c : Cl) (CA : Option Addr) (cc : Nat) (CB : Option Addr) (cd : Nat) (bC bF bf bg bn bo b : Nat) (pf pg pn : Option Addr) (F R N : List Fa) (H : JoinH c F R N) : ∀ (n i : Nat) (few : List Int) (is : List Bool) (new : Bool) (out : List Fa) (hn : c.b.length - i = n) (hil : i ≤ c.b.length) (hf : few.length = 16) (hi : is.length = 16) (hv : ∀ v ∈ few, 0 ≤ v) (ho : rises out) (hlen : out.length + (goL c F R N (c.b.drop i) (few, is) new).length ≤ 50000000),
    Spec Tryz.prog 91 #[.int .i64 (i : Int), .agg (hc (few) (is) []).toArray, .bool (new), .pointer (some ⟨bC, 0, none⟩), .pointer (some ⟨bF, 0, none⟩), .pointer (some ⟨bf, 0, none⟩), .pointer (some ⟨bg, 0, none⟩), .pointer (some ⟨bn, 0, none⟩), .pointer (some ⟨bo, 0, none⟩)] [cl bC 0 [.int .u32 c.h.p, .slice CA c.h.a.length cc, .slice CB c.b.length cd], sl tTm CA cc c.h.a, sl tLi CB cd c.b, cl bF 0 [.func (.func 91) #[] #[.pointer (some ⟨bC, 0, none⟩), .pointer (some ⟨bF, 0, none⟩), .pointer (some ⟨bf, 0, none⟩), .pointer (some ⟨bg, 0, none⟩), .pointer (some ⟨bn, 0, none⟩), .pointer (some ⟨bo, 0, none⟩)]], cl bf 0 [.pointer pf], cl bg 0 [.pointer pg], cl bn 0 [.pointer pn], cl bo 0 [.pointer (some ⟨b, 0, none⟩)], relN pf F, relN pg R, relN pn N] [relO b out] (fun v Ps' Os' => v = .tuple #[] ∧ Ps' = [] ∧ Os' = [relO b ((goL c F R N (c.b.drop (i)) (few, is) (new)).foldl fput (out))])
  | 0, i, few, is, new, out, hn, hil, hf, hi, hv, ho, hlen => heads1 c CA cc CB cd bC bF bf bg bn bo b pf pg pn F R N H i few is new out hil hf hi hv ho hlen (fun h => absurd h (by omega))
  | n + 1, i, few, is, new, out, hn, hil, hf, hi, hv, ho, hlen => heads1 c CA cc CB cd bC bF bf bg bn bo b pf pg pn F R N H i few is new out hil hf hi hv ho hlen (fun h few' is' new' out' h1 h2 h3 h4 h5 h6 =>
      headsFrom c CA cc CB cd bC bF bf bg bn bo b pf pg pn F R N H n (i + 1) few' is' new' out' (by omega) h1 h2 h3 h4 h5 h6)
theorem goL_args (c : Cl) (F R N : List Fa) : ∀ (r : List Li) (ch : Ch) (new : Bool), ∀ x ∈ goL c F R N r ch new, x.a.length ≤ c.h.a.length
  | [], ch, new => by
    unfold goL
    split
    · intro x hx
      rw [List.mem_singleton] at hx
      subst hx
      exact Nat.le_trans (ofA_len _) (by rw [putA_len]; exact Nat.le_refl _)
    · intro x hx; cases hx
  | l :: r, ch, new => by
    unfold goL
    split
    · exact goL_args c F R N r ch new
    · intro x hx
      rw [List.mem_flatMap] at hx
      obtain ⟨f, _, hx⟩ := hx
      exact goL_args c F R N r _ _ x hx
structure JoinS (F R N : List Fa) : Prop where
  nF : F.length ≤ 50000000
  bF : ∀ x ∈ F, x.a.length ≤ 100000
  oF : ∀ x ∈ F, x.ok
  rR : rises R
  nR : R.length ≤ 50000000
  rN : rises N
  nN : N.length ≤ 50000000
theorem JoinS.h {c : Cl} {F R N : List Fa} (h : JoinS F R N) (ho : c.ok) (hr : (rightC [c]).2 = 0) : JoinH c F R N := by
  obtain ⟨h1, h2, _⟩ := right_one hr
  obtain ⟨g1, g2, g3⟩ := mayC_of h1
  exact ⟨may_vok g2 ho.1, fun l hl => may_vok (g3 l hl) (ho.2 l hl), Nat.le_trans (may_len6 g2) (by omega), fun l hl => Nat.le_trans (may_len6 (g3 l hl)) (by omega), fun l hl t ht => ((ho.2 l hl).2 t ht).1,
    h.nF, h.bF, fun x hx n hn => ((h.oF x hx).2 n hn).1, h.rR, h.nR, h.rN, h.nN⟩
theorem headsC_args {c : Cl} {F R N : List Fa} {some : Bool} (x : Fa) (hx : x ∈ headsC c F R N some) : x.a.length ≤ 6 := by
  unfold headsC at hx
  split at hx
  · rename_i h
    exact Nat.le_trans (goL_args c F R N _ _ _ x (mem_fof.1 hx)) (may_len6 (mayC_of (right_one h).1).2.1)
  · cases hx
theorem joinHeads (c : Cl) (CA : Option Addr) (cc : Nat) (CB : Option Addr) (cd : Nat) (pf pg pn : Option Addr) (F R N : List Fa) (hs : JoinS F R N) (hok : c.ok) (some : Bool) (hb : (goL c F R N c.b ch0 (!some)).length ≤ 50000000) :
    Spec Tryz.prog 73 #[.agg #[.int .u32 c.h.p, .slice CA c.h.a.length cc, .slice CB c.b.length cd], .pointer pf, .pointer pg, .pointer pn, .bool some] [sl tTm CA cc c.h.a, sl tLi CB cd c.b, relN pf F, relN pg R, relN pn N] [] (fun v Ps' Os' => ∃ A k, v = .slice A (headsC c F R N some).length k ∧ Ps' = [] ∧ Os' = [dl tFa 39 A k (headsC c F R N some)]) := by
 refine zSp [.agg #[.int .u32 c.h.p, .slice CA c.h.a.length cc, .slice CB c.b.length cd], .pointer pf, .pointer pg, .pointer pn, .bool some] Tryz.func73 Tryz.ntmps73 (fun w0 hp0 hf0 => ?_)
 refine zX 2 ?_
 intro bC
 refine zX 0 ?_
 intro bf
 refine zX 0 ?_
 intro bg
 refine zX 0 ?_
 intro bn
 refine zR 2 ?_
 refine go_freeze_pt (b := bC) zM ?_
 refine go_freeze_pt (b := bf) zM ?_
 refine go_freeze_pt (b := bg) zM ?_
 refine go_freeze_pt (b := bn) zM ?_
 refine zL 3 ?_
 refine zV 0 ?_
 intro bs
 refine go_lit tCl (b := bs) [c] zM (fun hp a => ⟨[.int .u32 c.h.p, .slice CA c.h.a.length cc, .slice CB c.b.length cd], [], rfl, tCl_mk (a (sl tTm CA cc c.h.a) zM) (a (sl tLi CB cd c.b) zM), rfl⟩) (by simp) ?_
 refine zC3 0 (safeRight (Option.some ⟨bs, 0, none⟩) 1 [c]) ?_
 refine zE 6 [4, 5, 6, 7, 8, 12] ?_
 refine zN 5 ?_ ?_
 ·intro g1
  have hc0 : headsC c F R N some = [] := by unfold headsC; rw [if_neg (by simpa using g1)]
  refine go_down_nil tFa 39 none ?_
  refine zT 4 rfl ⟨none, 0, by rw [hc0]; rfl, rfl, by rw [hc0]⟩
 intro g1
 have g1' : (rightC [c]).2 = 0 := by simpa using g1
 have hc1 : headsC c F R N some = headsL c F R N some := by unfold headsC; rw [if_pos g1']
 have H := hs.h hok g1'
 refine zC 3 relNew ?_
 rintro _ _ _ ⟨b, rfl, rfl, rfl⟩
 refine zW 0 ?_
 intro bo
 refine zS 0 ?_
 refine zW 3 ?_
 intro bF
 refine zS 4 ?_
 refine zR 1 ?_
 refine go_freeze_pt (b := bo) zM ?_
 refine go_freeze_pt (b := bF) zM ?_
 refine zL 2 ?_
 refine zq 0 ?_
 refine go_re 26 (.agg (hc (List.replicate 16 0) (List.replicate 16 false) []).toArray) (by rfl) ?_
 refine zC3 2 (headsFrom c CA cc CB cd bC bF bf bg bn bo b pf pg pn F R N H (c.b.length - 0) 0 (List.replicate 16 0) (List.replicate 16 false) (!some) [] rfl (by omega) (by simp) (by simp) (by intro v hv; rw [List.mem_replicate] at hv; omega) rises_nil (by show 0 + _ ≤ _; rw [Nat.zero_add]; exact hb)) ?_
 refine go_same (A := relO b _) (B := relO b (headsL c F R N some)) zM rfl ?_
 refine go_freeze_rel (b := b) zM ?_
 refine go_ent (relN (Option.some ⟨b, 0, none⟩) (headsL c F R N some)) (fun hh hps => relN_some (hps (relP b (headsL c F R N some)) zM)) ?_
 refine zE 1 [13] ?_
 refine zL 2 ?_
 refine zC 0 (relListN (Option.some ⟨b, 0, none⟩) (headsL c F R N some) (Nat.le_trans (fof_len _) hb) (fun x hx => by have := headsC_args (c := c) (F := F) (R := R) (N := N) (some := some) x (by rw [hc1]; exact hx); omega)) ?_
 rintro _ _ _ ⟨A9, c9, rfl, rfl, rfl⟩
 refine zT 2 rfl ⟨A9, c9, by rw [hc1], rfl, by rw [hc1]⟩
theorem joinHeadsAll (c : Cl) (CA : Option Addr) (cc : Nat) (CB : Option Addr) (cd : Nat) (pf pn : Option Addr) (F N : List Fa) (hs : JoinS F [] N) (hok : c.ok) (hb : (goL c F [] N c.b ch0 true).length ≤ 50000000) :
    Spec Tryz.prog 51 #[.agg #[.int .u32 c.h.p, .slice CA c.h.a.length cc, .slice CB c.b.length cd], .pointer pf, .pointer pn] [sl tTm CA cc c.h.a, sl tLi CB cd c.b, relN pf F, relN pn N] [] (fun v Ps' Os' => ∃ A k, v = .slice A (headsC c F [] N false).length k ∧ Ps' = [] ∧ Os' = [dl tFa 39 A k (headsC c F [] N false)]) := by
 refine zSp [.agg #[.int .u32 c.h.p, .slice CA c.h.a.length cc, .slice CB c.b.length cd], .pointer pf, .pointer pn] Tryz.func51 Tryz.ntmps51 (fun w0 hp0 hf0 => ?_)
 refine zX 2 ?_
 intro bC
 refine zR 2 ?_
 refine go_freeze_pt (b := bC) zM ?_
 refine go_ent (relN none []) (fun _ _ => relN_nil) ?_
 refine zL 2 ?_
 refine zC 2 (joinHeads c CA cc CB cd pf none pn F [] N hs hok false hb) ?_
 rintro _ _ _ ⟨A9, c9, rfl, rfl, rfl⟩
 refine zT 2 rfl ⟨A9, c9, rfl, rfl, rfl⟩
theorem joinNews (c : Cl) (CA : Option Addr) (cc : Nat) (CB : Option Addr) (cd : Nat) (pf pg pn : Option Addr) (F R N : List Fa) (hs : JoinS F R N) (hok : c.ok) (hb : (goL c F R N c.b ch0 false).length ≤ 50000000) :
    Spec Tryz.prog 54 #[.agg #[.int .u32 c.h.p, .slice CA c.h.a.length cc, .slice CB c.b.length cd], .pointer pf, .pointer pg, .pointer pn] [sl tTm CA cc c.h.a, sl tLi CB cd c.b, relN pf F, relN pg R, relN pn N] [] (fun v Ps' Os' => ∃ A k, v = .slice A (headsC c F R N true).length k ∧ Ps' = [] ∧ Os' = [dl tFa 39 A k (headsC c F R N true)]) := by
 refine zSp [.agg #[.int .u32 c.h.p, .slice CA c.h.a.length cc, .slice CB c.b.length cd], .pointer pf, .pointer pg, .pointer pn] Tryz.func54 Tryz.ntmps54 (fun w0 hp0 hf0 => ?_)
 refine zX 2 ?_
 intro bC
 refine zR 2 ?_
 refine go_freeze_pt (b := bC) zM ?_
 refine zL 2 ?_
 refine zC 3 (joinHeads c CA cc CB cd pf pg pn F R N hs hok true hb) ?_
 rintro _ _ _ ⟨A9, c9, rfl, rfl, rfl⟩
 refine zT 2 rfl ⟨A9, c9, rfl, rfl, rfl⟩
theorem ref13Has (L : Option Addr) (lc : Nat) (l : List Fa) (q : Fa) (QA : Option Addr) (qc : Nat) :
    Spec Tryz.prog 13 #[.slice L l.length lc, .agg #[.int .u32 q.p, .slice QA q.a.length qc]] [sl tFa L lc l, sl tU QA qc q.a] [] (fun v Ps' Os' => v = .bool (decide (q ∈ l)) ∧ Ps' = [] ∧ Os' = []) := by
 refine zSp [.slice L l.length lc, .agg #[.int .u32 q.p, .slice QA q.a.length qc]] Tryz.func13 Tryz.ntmps13 (fun w0 hp0 hf0 => ?_)
 refine zX 2 ?_
 intro b1
 refine zR 4 ?_
 refine go_len (xs := l) zM (fun l0 m0 => ?_)
 refine zR 4 ?_
 refine zO (X := Nat) (fun k => [(5, .int .i64 (k : Int))]) [0, 3] (fun _ => []) (fun k => k ≤ l.length ∧ ¬ q ∈ l.take k) (fun k => l.length - k) 0 ⟨by omega, by simp⟩ ?_
 intro k ⟨hk, hz⟩
 refine zD' 8 ?_ ?_
 ·intro hq1
  refine zT 5 rfl ⟨by rw [List.take_of_length_le (by omega)] at hz; rw [decide_eq_false hz], rfl, rfl⟩
 intro hq1
 refine zR 4 ?_
 refine go_elem_fa (xs := l) zM (k) (List.getElem?_eq_getElem (by omega)) (fun b0 o0 A0 c0 hA => ?_); cases hA
 refine zY 0 [1, 4, 7, 11, 14, 15, 19] ?_
 refine zI 2 ?_
 refine zK 0 ?_
 refine zK 0 ?_
 refine zC3 0 (refCompare _ _ _ _ _ _ _ _) ?_
 refine zD 2 ?_ ?_
 ·intro g1
  refine zE 4 [4] ?_
  refine zT 0 rfl ⟨by rw [decide_eq_true (show q ∈ l from (cmpF_zero (x := l[k]) (q := q)).1 g1 ▸ List.getElem_mem _)], rfl, rfl⟩
 intro g1
 refine zR 7 ?_
 refine go_i64 5 rfl (by omega) (by omega) ?_
 refine zz (k + 1) (⟨by omega, not_next (by omega) hz g1⟩) (by omega)
theorem ref13With (L : Option Addr) (lc : Nat) (l : List Fa) (q : Fa) (QA : Option Addr) (qc : Nat) (hr : rises l) (hn : l.length ≤ 50000000) :
    Spec Tryz.prog 14 #[.slice L l.length lc, .agg #[.int .u32 q.p, .slice QA q.a.length qc]] [sl tFa L lc l, sl tU QA qc q.a] [] (fun v Ps' Os' => ∃ A' c', v = .slice A' (fput l q).length c' ∧ Ps' = [sl tFa A' c' (fput l q)] ∧ Os' = []) := by
 refine zSp [.slice L l.length lc, .agg #[.int .u32 q.p, .slice QA q.a.length qc]] Tryz.func14 Tryz.ntmps14 (fun w0 hp0 hf0 => ?_)
 refine zR 1 ?_
 refine go_len (xs := l) zM (fun l0 m0 => ?_)
 refine zX 1 ?_
 intro bq
 refine go_freeze_pt (b := bq) zM ?_
 refine zL 6 ?_
 refine zC3 0 (ref13Has L lc l q QA qc) ?_
 refine zB 1 ?_ ?_
 ·intro g1
  (try simp only [dcs, ne_eq] at g1)
  refine zR 5 ?_
  refine go_ret ⟨rfl, rfl⟩ [sl tFa L lc l] [] (res1 (by rfl) (.tmp rfl)) ⟨L, lc, by rw [fput_yes g1], by rw [fput_yes g1], rfl⟩ zM zM
 intro g1
 (try simp only [dcs, ne_eq] at g1)
 refine zR 10 ?_
 refine go_own_nil tFa 39 none ?_
 refine zR 2 ?_
 refine go_draw ([cl bq 0 [.int .u32 q.p, .slice QA q.a.length qc]]) ([]) [3] (SL.pre [(1, 0), (1, 1), (2, 3)] (.two (SL.pre [(0, 2), (0, 4), (0, 5), (1, 6)] .nil) (SL.pre [(0, 4), (0, 2), (0, 5), (1, 6)] .nil))) mixed rfl (by kernel_rfl) ?_
 refine zK 2 ?_
 refine go_two ?_ ?_
 ·skip
  refine go_appendN (T := tFa) (xs := []) (ys := l) Tk rfl rfl rfl rfl rfl rfl rfl rfl rfl zM rfl zM (by simp; omega) zH ?_
  intro A2 c2
  rw [List.nil_append]
  refine zV 0 ?_
  intro bn
  refine go_append1 (T := tFa) (xs := l) Tk (q) rfl rfl rfl rfl rfl rfl rfl rfl rfl zM zM rfl (ent_fa zM) (by omega) zH ?_
  intro A3 c3
  refine zR 2 ?_
  refine go_ol_addr (xs := l ++ [q]) zM (by simp) (fun bo hA => ?_); subst hA
  refine go_len_ol (xs := l ++ [q]) zM (fun l3 m3 => ?_)
  have hll : (l ++ [q]).length = l.length + 1 := by simp
  refine go_toY (l := l ++ [q]) zM (fun ys hy hyl => ?_)
  obtain ⟨xs, w0, rfl, hx, hw⟩ := split_last hy
  have hxl : xs.length = l.length := by rw [← hx]; simp
  rw [show xs ++ [w0] = xs.take l.length ++ w0 :: xs.drop l.length from by rw [← hxl]; simp]
  refine zE 0 [3, 5, 6] ?_
  refine zR 2 ?_
  refine zO (X := Nat × Fy) (fun x => [(5, .int .i64 (x.1 : Int))]) [3, 6] (fun x => [ol tFy 39 (some ⟨bo, 0, none⟩) c3 (xs.take x.1 ++ x.2 :: xs.drop x.1)]) (fun x => x.1 ≤ l.length ∧ ∀ y ∈ l.drop x.1, 0 < cF y q) (fun x => x.1) (l.length, w0) ⟨by omega, by simp⟩ ?_
  intro ⟨n, w⟩ ⟨hk, hz⟩
  simp only at hk hz ⊢
  have hmid := mid_len (l := xs) (n := n) (w := w) (by omega)
  refine zR 2 ?_
  by_cases hn0 : 0 < n
  ·skip
   refine go_atY (xs := (xs.take n ++ w :: xs.drop n)) zM (n - 1) (mid_get (by omega) (by omega)) ?_
   refine zY 0 [1, 4, 7, 10, 13, 16, 19, 23, 26, 27, 31, 34] ?_
   refine zR 2 ?_
   refine go_re 20 (.bool true) (by show some (Value.bool (decide _)) = _; rw [decide_eq_true (by omega)]) ?_
   refine zR 4 ?_
   refine go_i64 24 rfl (by omega) (by omega) ?_
   refine go_re 24 (.int .i64 ((n - 1 : Nat) : Int)) (by show some (Value.int _ _) = _; rw [show ((n - 1 : Nat) : Int) = (n : Int) - 1 by omega]) ?_
   refine go_val1 rfl (idx_val Tk rfl rfl rfl rfl rfl (by simp; omega)) rfl ?_
   refine go_val2a rfl (load_val Tk rfl rfl rfl (at_olp fcY fcY_eq (xs := (xs.take n ++ w :: xs.drop n)) zM (n - 1) (mid_get (by omega) (by omega)) rfl rfl) rfl) rfl ?_
   refine zK 0 ?_
   refine zC3 0 (refCompare xs[n - 1].f.p xs[n - 1].A xs[n - 1].f.a xs[n - 1].c _ _ _ _) ?_
   refine zB' 3 ?_ ?_
   ·intro g2
    (try simp only [dcs, ne_eq] at g2)
    refine zR 2 ?_
    have hlast : ∀ (h : 0 < n), ¬ 0 < cF (l[n - 1]'(by omega)) q := by
      intro h
      first
      | omega
      | (rw [← getF hx (show n - 1 < xs.length by omega)]; unfold cF; omega)
    refine zL 3 ?_
    refine go_val0 rfl (idx_val Tk rfl rfl rfl rfl rfl (by simp; omega)) rfl ?_
    refine zSE 0 tFy (xs.take n ++ w :: xs.drop n) n (⟨q, QA, qc⟩ : Fy) (ent_Y (x := ⟨q, QA, qc⟩) zM) ?_
    rw [set_mid (by omega)]
    refine go_ofY (xs := xs.take n ++ (⟨q, QA, qc⟩ : Fy) :: xs.drop n) zM ?_
    rw [mid_map hx, fput_at g1 hr (by omega) hz hlast, show (l ++ [q]).length = (fput l q).length from by rw [fput_no g1]; simp; omega]
    refine go_freeze_ol (xs := fput l q) zM ?_
    refine zE 1 [6] ?_
    refine zT 5 rfl ⟨some ⟨bo, 0, none⟩, c3, rfl, rfl, rfl⟩
   intro g2
   (try simp only [dcs, ne_eq] at g2)
   refine zR 9 ?_
   refine go_i64 35 rfl (by omega) (by omega) ?_
   refine go_re 35 (.int .i64 ((n - 1 : Nat) : Int)) (by show some (Value.int _ _) = _; rw [show ((n - 1 : Nat) : Int) = (n : Int) - 1 by omega]) ?_
   refine go_val0 rfl (idx_val Tk rfl rfl rfl rfl rfl (by simp; omega)) rfl ?_
   refine go_val0 rfl (load_val Tk rfl rfl rfl (at_olp fcY fcY_eq (xs := (xs.take n ++ w :: xs.drop n)) zM (n - 1) (mid_get (by omega) (by omega)) rfl rfl) rfl) rfl ?_
   refine go_val0 rfl (idx_val Tk rfl rfl rfl rfl rfl (by simp; omega)) rfl ?_
   refine zSE 0 tFy (xs.take n ++ w :: xs.drop n) n (xs[n - 1]) (ent_Y zM) ?_
   rw [set_mid (by omega), mid_back (by omega) (by omega)]
   refine zE 1 [3, 5, 6, 22, 23, 24, 25, 26, 27, 28, 29] ?_
   refine zR 3 ?_
   refine go_i64 40 rfl (by omega) (by omega) ?_
   refine go_re 40 (.int .i64 ((n - 1 : Nat) : Int)) (by show some (Value.int _ _) = _; rw [show ((n - 1 : Nat) : Int) = (n : Int) - 1 by omega]) ?_
   refine zR 3 ?_
   refine zz (n - 1, xs[n - 1]) ⟨by show n - 1 ≤ _; omega, drop_more (by omega) (by omega) hz (by rw [← getF hx (show n - 1 < xs.length by omega)]; exact g2)⟩ (by show n - 1 < n; omega)
  ·skip
   refine zY 0 [1, 4, 7, 10, 13, 16, 19, 23, 26, 27, 31, 34] ?_
   refine zR 2 ?_
   refine go_re 20 (.bool false) (by show some (Value.bool (decide _)) = _; rw [decide_eq_false (by omega)]) ?_
   refine zJ 5 ?_
   refine zJ 0 ?_
   refine zDf 4 ?_
   refine zR 2 ?_
   have hlast : ∀ (h : 0 < n), ¬ 0 < cF (l[n - 1]'(by omega)) q := by
     intro h
     first
     | omega
     | (rw [← getF hx (show n - 1 < xs.length by omega)]; unfold cF; omega)
   refine zL 3 ?_
   refine go_val0 rfl (idx_val Tk rfl rfl rfl rfl rfl (by simp; omega)) rfl ?_
   refine zSE 0 tFy (xs.take n ++ w :: xs.drop n) n (⟨q, QA, qc⟩ : Fy) (ent_Y (x := ⟨q, QA, qc⟩) zM) ?_
   rw [set_mid (by omega)]
   refine go_ofY (xs := xs.take n ++ (⟨q, QA, qc⟩ : Fy) :: xs.drop n) zM ?_
   rw [mid_map hx, fput_at g1 hr (by omega) hz hlast, show (l ++ [q]).length = (fput l q).length from by rw [fput_no g1]; simp; omega]
   refine go_freeze_ol (xs := fput l q) zM ?_
   refine zE 1 [6] ?_
   refine zT 5 rfl ⟨some ⟨bo, 0, none⟩, c3, rfl, rfl, rfl⟩
 refine zV 0 ?_
 intro bn
 refine go_appendN (T := tFa) (xs := []) (ys := l) Tk rfl rfl rfl rfl rfl rfl rfl rfl rfl zM rfl zM (by simp; omega) zH ?_
 intro A2 c2
 rw [List.nil_append]
 refine go_append1 (T := tFa) (xs := l) Tk (q) rfl rfl rfl rfl rfl rfl rfl rfl rfl zM zM rfl (ent_fa zM) (by omega) zH ?_
 intro A3 c3
 refine zR 2 ?_
 refine go_ol_addr (xs := l ++ [q]) zM (by simp) (fun bo hA => ?_); subst hA
 refine go_len_ol (xs := l ++ [q]) zM (fun l3 m3 => ?_)
 have hll : (l ++ [q]).length = l.length + 1 := by simp
 refine go_toY (l := l ++ [q]) zM (fun ys hy hyl => ?_)
 obtain ⟨xs, w0, rfl, hx, hw⟩ := split_last hy
 have hxl : xs.length = l.length := by rw [← hx]; simp
 rw [show xs ++ [w0] = xs.take l.length ++ w0 :: xs.drop l.length from by rw [← hxl]; simp]
 refine zE 0 [3, 5, 6] ?_
 refine zR 2 ?_
 refine zO (X := Nat × Fy) (fun x => [(5, .int .i64 (x.1 : Int))]) [3, 6] (fun x => [ol tFy 39 (some ⟨bo, 0, none⟩) c3 (xs.take x.1 ++ x.2 :: xs.drop x.1)]) (fun x => x.1 ≤ l.length ∧ ∀ y ∈ l.drop x.1, 0 < cF y q) (fun x => x.1) (l.length, w0) ⟨by omega, by simp⟩ ?_
 intro ⟨n, w⟩ ⟨hk, hz⟩
 simp only at hk hz ⊢
 have hmid := mid_len (l := xs) (n := n) (w := w) (by omega)
 refine zR 2 ?_
 by_cases hn0 : 0 < n
 ·skip
  refine go_atY (xs := (xs.take n ++ w :: xs.drop n)) zM (n - 1) (mid_get (by omega) (by omega)) ?_
  refine zY 0 [1, 4, 7, 10, 13, 16, 19, 23, 26, 27, 31, 34] ?_
  refine zR 2 ?_
  refine go_re 20 (.bool true) (by show some (Value.bool (decide _)) = _; rw [decide_eq_true (by omega)]) ?_
  refine zR 4 ?_
  refine go_i64 24 rfl (by omega) (by omega) ?_
  refine go_re 24 (.int .i64 ((n - 1 : Nat) : Int)) (by show some (Value.int _ _) = _; rw [show ((n - 1 : Nat) : Int) = (n : Int) - 1 by omega]) ?_
  refine go_val1 rfl (idx_val Tk rfl rfl rfl rfl rfl (by simp; omega)) rfl ?_
  refine go_val2a rfl (load_val Tk rfl rfl rfl (at_olp fcY fcY_eq (xs := (xs.take n ++ w :: xs.drop n)) zM (n - 1) (mid_get (by omega) (by omega)) rfl rfl) rfl) rfl ?_
  refine zK 0 ?_
  refine zC3 0 (refCompare xs[n - 1].f.p xs[n - 1].A xs[n - 1].f.a xs[n - 1].c _ _ _ _) ?_
  refine zB' 3 ?_ ?_
  ·intro g2
   (try simp only [dcs, ne_eq] at g2)
   refine zR 2 ?_
   have hlast : ∀ (h : 0 < n), ¬ 0 < cF (l[n - 1]'(by omega)) q := by
     intro h
     first
     | omega
     | (rw [← getF hx (show n - 1 < xs.length by omega)]; unfold cF; omega)
   refine zL 3 ?_
   refine go_val0 rfl (idx_val Tk rfl rfl rfl rfl rfl (by simp; omega)) rfl ?_
   refine zSE 0 tFy (xs.take n ++ w :: xs.drop n) n (⟨q, QA, qc⟩ : Fy) (ent_Y (x := ⟨q, QA, qc⟩) zM) ?_
   rw [set_mid (by omega)]
   refine go_ofY (xs := xs.take n ++ (⟨q, QA, qc⟩ : Fy) :: xs.drop n) zM ?_
   rw [mid_map hx, fput_at g1 hr (by omega) hz hlast, show (l ++ [q]).length = (fput l q).length from by rw [fput_no g1]; simp; omega]
   refine go_freeze_ol (xs := fput l q) zM ?_
   refine zE 1 [6] ?_
   refine zT 5 rfl ⟨some ⟨bo, 0, none⟩, c3, rfl, rfl, rfl⟩
  intro g2
  (try simp only [dcs, ne_eq] at g2)
  refine zR 9 ?_
  refine go_i64 35 rfl (by omega) (by omega) ?_
  refine go_re 35 (.int .i64 ((n - 1 : Nat) : Int)) (by show some (Value.int _ _) = _; rw [show ((n - 1 : Nat) : Int) = (n : Int) - 1 by omega]) ?_
  refine go_val0 rfl (idx_val Tk rfl rfl rfl rfl rfl (by simp; omega)) rfl ?_
  refine go_val0 rfl (load_val Tk rfl rfl rfl (at_olp fcY fcY_eq (xs := (xs.take n ++ w :: xs.drop n)) zM (n - 1) (mid_get (by omega) (by omega)) rfl rfl) rfl) rfl ?_
  refine go_val0 rfl (idx_val Tk rfl rfl rfl rfl rfl (by simp; omega)) rfl ?_
  refine zSE 0 tFy (xs.take n ++ w :: xs.drop n) n (xs[n - 1]) (ent_Y zM) ?_
  rw [set_mid (by omega), mid_back (by omega) (by omega)]
  refine zE 1 [3, 5, 6, 22, 23, 24, 25, 26, 27, 28, 29] ?_
  refine zR 3 ?_
  refine go_i64 40 rfl (by omega) (by omega) ?_
  refine go_re 40 (.int .i64 ((n - 1 : Nat) : Int)) (by show some (Value.int _ _) = _; rw [show ((n - 1 : Nat) : Int) = (n : Int) - 1 by omega]) ?_
  refine zR 3 ?_
  refine zz (n - 1, xs[n - 1]) ⟨by show n - 1 ≤ _; omega, drop_more (by omega) (by omega) hz (by rw [← getF hx (show n - 1 < xs.length by omega)]; exact g2)⟩ (by show n - 1 < n; omega)
 ·skip
  refine zY 0 [1, 4, 7, 10, 13, 16, 19, 23, 26, 27, 31, 34] ?_
  refine zR 2 ?_
  refine go_re 20 (.bool false) (by show some (Value.bool (decide _)) = _; rw [decide_eq_false (by omega)]) ?_
  refine zJ 5 ?_
  refine zJ 0 ?_
  refine zDf 4 ?_
  refine zR 2 ?_
  have hlast : ∀ (h : 0 < n), ¬ 0 < cF (l[n - 1]'(by omega)) q := by
    intro h
    first
    | omega
    | (rw [← getF hx (show n - 1 < xs.length by omega)]; unfold cF; omega)
  refine zL 3 ?_
  refine go_val0 rfl (idx_val Tk rfl rfl rfl rfl rfl (by simp; omega)) rfl ?_
  refine zSE 0 tFy (xs.take n ++ w :: xs.drop n) n (⟨q, QA, qc⟩ : Fy) (ent_Y (x := ⟨q, QA, qc⟩) zM) ?_
  rw [set_mid (by omega)]
  refine go_ofY (xs := xs.take n ++ (⟨q, QA, qc⟩ : Fy) :: xs.drop n) zM ?_
  rw [mid_map hx, fput_at g1 hr (by omega) hz hlast, show (l ++ [q]).length = (fput l q).length from by rw [fput_no g1]; simp; omega]
  refine go_freeze_ol (xs := fput l q) zM ?_
  refine zE 1 [6] ?_
  refine zT 5 rfl ⟨some ⟨bo, 0, none⟩, c3, rfl, rfl, rfl⟩
theorem ref13Sorted (L : Option Addr) (lc : Nat) (l : List Fa) (hn : l.length ≤ 50000000) :
    Spec Tryz.prog 19 #[.slice L l.length lc] [sl tFa L lc l] [] (fun v Ps' Os' => ∃ A' c', v = .slice A' (fof l).length c' ∧ Ps' = [sl tFa A' c' (fof l)] ∧ Os' = []) := by
 refine zSp [.slice L l.length lc] Tryz.func19 Tryz.ntmps19 (fun w0 hp0 hf0 => ?_)
 refine zR 5 ?_
 refine go_len (xs := l) zM (fun l0 m0 => ?_)
 refine zR 2 ?_
 refine go_own_nil tFa 39 none ?_
 refine go_freeze_ol (xs := ([] : List Fa)) zM ?_
 refine zR 7 ?_
 refine go_loop (X := Nat × Option Addr × Nat) (fun x => [(3, .slice x.2.1 (fof (l.take x.1)).length x.2.2), (4, .int .i64 (x.1 : Int))]) [(0, _)] (fun x => [sl tFa x.2.1 x.2.2 (fof (l.take x.1)), sl tFa L lc l]) (fun _ => []) (fun x => x.1 ≤ l.length) (fun x => l.length - x.1) ((0, none, 0)) zA zM zM (by omega) ?_
 intro ⟨k, A1, c1⟩ hk
 simp only at hk ⊢
 refine zD' 8 ?_ ?_
 ·intro hq1
  refine zR 2 ?_
  rw [List.take_of_length_le (show l.length ≤ k by omega)]
  refine zT 4 rfl ⟨A1, c1, rfl, rfl, rfl⟩
 intro hq1
 refine zR 3 ?_
 refine go_elem_fa (xs := l) zM (k) (List.getElem?_eq_getElem (by omega)) (fun b0 o0 A0 c0 hA => ?_); cases hA
 refine zI 4 ?_
 refine zL 0 ?_
 refine zC 0 (ref13With A1 c1 (fof (l.take k)) l[k] A0 c0 (rises_fof _) (by have := fof_len (l.take k); rw [List.length_take] at this; omega)) ?_
 rintro _ _ _ ⟨A2, c2, rfl, rfl, rfl⟩
 refine zR 8 ?_
 refine go_i64 4 rfl (by omega) (by omega) ?_
 rw [← fof_next (by omega)]
 refine go_back (k + 1, _, _) zA zM zM (by show k + 1 ≤ _; omega) (by show l.length - (k + 1) < l.length - k; omega)
theorem ref13Same (A : Option Addr) (c : Nat) (l : List Fa) (B : Option Addr) (d : Nat) (m : List Fa) :
    Spec Tryz.prog 12 #[.slice A l.length c, .slice B m.length d] [sl tFa A c l, sl tFa B d m] [] (fun v Ps' Os' => v = .bool (decide (l = m)) ∧ Ps' = [] ∧ Os' = []) := by
 refine zSp [.slice A l.length c, .slice B m.length d] Tryz.func12 Tryz.ntmps12 (fun w0 hp0 hf0 => ?_)
 refine zR 6 ?_
 refine go_len (xs := l) zM (fun l0 m0 => ?_)
 refine go_len (xs := m) zM (fun l1 m1 => ?_)
 refine zN 7 ?_ ?_
 ·intro g1
  refine zT 4 rfl ⟨by first | rw [decide_eq_false (fun e => g1 (by rw [e]))] | rw [decide_eq_false (same_no (k := k) (by omega) (by omega) (by simpa using g2))] | rw [decide_eq_true (same_yes hl (show l.length ≤ k by omega) hz)], rfl, rfl⟩
 intro g1
 refine zR 3 ?_
 have hl : l.length = m.length := by omega
 refine zR 4 ?_
 refine zO (X := Nat) (fun k => [(5, .int .i64 (k : Int))]) [0, 1] (fun _ => []) (fun k => k ≤ l.length ∧ l.take k = m.take k) (fun k => l.length - k) 0 ⟨by omega, by simp⟩ ?_
 intro k ⟨hk, hz⟩
 refine zD' 8 ?_ ?_
 ·intro hq1
  refine zT 5 rfl ⟨by first | rw [decide_eq_false (fun e => g1 (by rw [e]))] | rw [decide_eq_false (same_no (k := k) (by omega) (by omega) (by simpa using g2))] | rw [decide_eq_true (same_yes hl (show l.length ≤ k by omega) hz)], rfl, rfl⟩
 intro hq1
 refine zR 4 ?_
 refine go_elem_fa (xs := l) (c := c) zM (k) (List.getElem?_eq_getElem (by omega)) (fun b0 o0 A0 c0 hA => ?_); cases hA
 refine go_elem_fa (xs := m) (c := d) zM (k) (List.getElem?_eq_getElem (by omega)) (fun b2 o2 A2 c2 hA => ?_); cases hA
 refine zY 0 [1, 4, 7, 13, 16, 19, 11, 23, 24, 28] ?_
 refine zI 2 ?_
 refine zI 2 ?_
 refine zK 0 ?_
 refine zK 0 ?_
 refine zC3 0 (refCompare _ _ _ _ _ _ _ _) ?_
 refine zE 2 [0, 1, 5, 26] ?_
 refine zN 0 ?_ ?_
 ·intro g2
  refine zT 4 rfl ⟨by first | rw [decide_eq_false (fun e => g1 (by rw [e]))] | rw [decide_eq_false (same_no (k := k) (by omega) (by omega) (by simpa using g2))] | rw [decide_eq_true (same_yes hl (show l.length ≤ k by omega) hz)], rfl, rfl⟩
 intro g2
 refine zR 7 ?_
 refine go_i64 5 rfl (by omega) (by omega) ?_
 refine zz (k + 1) (⟨by omega, take_next (by omega) (by omega) hz (cmpF_zero.1 (by simpa using g2))⟩) (by omega)
theorem law13F (p : Int) (A : Option Addr) (n c : Nat) :
    Spec Tryz.prog 23 #[.int .u32 p, .slice A n c] [] [] (fun v Ps' Os' => v = .agg #[.int .u32 p, .slice A n c] ∧ Ps' = [] ∧ Os' = []) := by
 refine zSp [.int .u32 p, .slice A n c] Tryz.func23 Tryz.ntmps23 (fun w0 hp0 hf0 => ?_)
 refine zW 2 ?_
 intro b1
 refine zq 5 ?_
 refine zS 0 ?_
 refine zR 1 ?_
 refine go_ret ⟨rfl, rfl⟩ _ _ (res1 (by rfl) (.cell rfl (rdv Tk rfl))) ⟨rfl, rfl, rfl⟩ zM zM
theorem law11A (p : Int) (A : Option Addr) (n c : Nat) :
    Spec Tryz.prog 38 #[.int .u32 p, .slice A n c] [] [] (fun v Ps' Os' => v = .agg #[.int .u32 p, .slice A n c] ∧ Ps' = [] ∧ Os' = []) := by
 refine zSp [.int .u32 p, .slice A n c] Tryz.func38 Tryz.ntmps38 (fun w0 hp0 hf0 => ?_)
 refine zW 2 ?_
 intro b1
 refine zq 5 ?_
 refine zS 0 ?_
 refine zR 1 ?_
 refine go_ret ⟨rfl, rfl⟩ _ _ (res1 (by rfl) (.cell rfl (rdv Tk rfl))) ⟨rfl, rfl, rfl⟩ zM zM
theorem law11V (n : Int) :
    Spec Tryz.prog 39 #[.int .u32 n] [] [] (fun v Ps' Os' => v = .agg #[.bool true, .int .u32 n] ∧ Ps' = [] ∧ Os' = []) := by
 refine zSp [.int .u32 n] Tryz.func39 Tryz.ntmps39 (fun w0 hp0 hf0 => ?_)
 refine zW 2 ?_
 intro b1
 refine zq 4 ?_
 refine zS 0 ?_
 refine zR 1 ?_
 refine go_ret ⟨rfl, rfl⟩ _ _ (res1 (by rfl) (.cell rfl (rdv Tk rfl))) ⟨rfl, rfl, rfl⟩ zM zM
theorem law11Yes (p : Int) (A : Option Addr) (n c : Nat) :
    Spec Tryz.prog 40 #[.int .u32 p, .slice A n c] [] [] (fun v Ps' Os' => v = .agg #[.bool false, .int .u32 p, .slice A n c] ∧ Ps' = [] ∧ Os' = []) := by
 refine zSp [.int .u32 p, .slice A n c] Tryz.func40 Tryz.ntmps40 (fun w0 hp0 hf0 => ?_)
 refine zW 2 ?_
 intro b1
 refine zC3 5 (law11A _ _ _ _) ?_
 refine zq 0 ?_
 refine zS 0 ?_
 refine zR 1 ?_
 refine go_ret ⟨rfl, rfl⟩ _ _ (res1 (by rfl) (.cell rfl (rdv Tk rfl))) ⟨rfl, rfl, rfl⟩ zM zM
theorem law11No (p : Int) (A : Option Addr) (n c : Nat) :
    Spec Tryz.prog 41 #[.int .u32 p, .slice A n c] [] [] (fun v Ps' Os' => v = .agg #[.bool true, .int .u32 p, .slice A n c] ∧ Ps' = [] ∧ Os' = []) := by
 refine zSp [.int .u32 p, .slice A n c] Tryz.func41 Tryz.ntmps41 (fun w0 hp0 hf0 => ?_)
 refine zW 2 ?_
 intro b1
 refine zC3 5 (law11A _ _ _ _) ?_
 refine zq 0 ?_
 refine zS 0 ?_
 refine zR 1 ?_
 refine go_ret ⟨rfl, rfl⟩ _ _ (res1 (by rfl) (.cell rfl (rdv Tk rfl))) ⟨rfl, rfl, rfl⟩ zM zM
theorem law11If (p : Int) (A : Option Addr) (n c : Nat) (B : Option Addr) (m d : Nat) :
    Spec Tryz.prog 37 #[.agg #[.int .u32 p, .slice A n c], .slice B m d] [] [] (fun v Ps' Os' => v = .agg #[.int .u32 p, .slice A n c, .slice B m d] ∧ Ps' = [] ∧ Os' = []) := by
 refine zSp [.agg #[.int .u32 p, .slice A n c], .slice B m d] Tryz.func37 Tryz.ntmps37 (fun w0 hp0 hf0 => ?_)
 refine zX 2 ?_
 intro b1
 refine zW 0 ?_
 intro b2
 refine zL 3 ?_
 refine zq 1 ?_
 refine zS 0 ?_
 refine zR 1 ?_
 refine go_ret ⟨rfl, rfl⟩ _ _ (res1 (by rfl) (.cell rfl (rdv Tk rfl))) ⟨rfl, rfl, rfl⟩ zM zM
abbrev CLok (c : Cl) : Prop := c.b.length ≤ 30 ∧ c.h.a.length ≤ 30 ∧ ∀ x ∈ c.b, x.a.a.length ≤ 30
abbrev few11P (l : List Cl) (F : List Fa) : Prop := ((l.length ≤ 60 ∨ 400 < l.length) ∧ l.length ≤ 1000 ∧ F.length ≤ 120) ∧ (∀ c ∈ l, CLok c) ∧ ∀ x ∈ F, x.a.length ≤ 30
def few11 (l : List Cl) (F : List Fa) : Bool := decide (few11P l F)
theorem few11_no {l : List Cl} {F : List Fa} (h : ¬ few11P l F) : few11 l F = false := by unfold few11; rw [decide_eq_false_iff_not]; exact h
theorem few11_yes {l : List Cl} {F : List Fa} (h : few11P l F) : few11 l F = true := by unfold few11; rw [decide_eq_true_iff]; exact h
theorem few11_of {l : List Cl} {F : List Fa} (h : few11 l F = true) : few11P l F := by unfold few11 at h; exact of_decide_eq_true h
def pos (b : List Li) : Nat := (b.filter fun l => !l.no).length
theorem pos_yes {b : List Li} {k : Nat} (hk : k < b.length) (e : b[k].no = false) : pos (b.take (k + 1)) = pos (b.take k) + 1 := by
  unfold pos
  rw [List.take_succ_eq_append_getElem hk, List.filter_append, List.length_append, List.filter_cons_of_pos (by simpa using e)]; rfl
theorem pos_no {b : List Li} {k : Nat} (hk : k < b.length) (e : b[k].no = true) : pos (b.take (k + 1)) = pos (b.take k) := by
  unfold pos
  rw [List.take_succ_eq_append_getElem hk, List.filter_append, List.length_append, List.filter_cons_of_neg (by simp [e])]; simp
theorem pos_le (b : List Li) (k : Nat) : pos (b.take k) ≤ k := by
  unfold pos
  have := List.length_filter_le (fun l : Li => !l.no) (b.take k)
  rw [List.length_take] at this
  omega
def smallC (c : Cl) (n : Nat) : Bool := decide (c.b.length ≤ 30 ∧ (pos c.b ≤ 3 ∧ n ≤ 60 ∨ pos c.b ≤ 8 ∧ n ≤ 8))
theorem law11Few (A : Option Addr) (c : Nat) (l : List Cl) (B : Option Addr) (d : Nat) (F : List Fa) :
    Spec Tryz.prog 20 #[.slice A l.length c, .slice B F.length d] [sl tCl A c l, sl tFa B d F] [] (fun v Ps' Os' => v = .bool (few11 l F) ∧ Ps' = [] ∧ Os' = []) := by
 refine zSp [.slice A l.length c, .slice B F.length d] Tryz.func20 Tryz.ntmps20 (fun w0 hp0 hf0 => ?_)
 refine zR 6 ?_
 refine go_len (xs := l) zM (fun l0 m0 => ?_)
 refine go_len (xs := F) zM (fun l1 m1 => ?_)
 refine zG' 5 11 ?_ ?_
 ·intro g1
  (try simp only [dcs, ne_eq] at g1)
  refine zG 10 21 ?_ ?_
  ·intro g3
   (try simp only [dcs, ne_eq] at g3)
   refine zE 5 [0, 1, 25] ?_
   refine zDt 0 ?_
   refine zT 4 rfl ⟨by first | rw [few11_no (fun h => by have := h.1; omega)] | rw [few11_no (fun h => by have := h.2.1 l[k] (List.getElem_mem _); have h1 := this.1; omega)] | rw [few11_no (fun h => by have := h.2.1 l[k] (List.getElem_mem _); have h1 := this.2.1; omega)] | rw [few11_no (fun h => by have := (h.2.1 l[k] (List.getElem_mem _)).2.2 l[k].b[m] (List.getElem_mem _); omega)] | rw [few11_no (fun h => by have := h.2.2 F[j] (List.getElem_mem _); omega)] | rw [few11_yes ⟨⟨by omega, by omega, by omega⟩, hz, by rw [List.take_of_length_le (by omega)] at hx; exact hx⟩], rfl, rfl⟩
  intro g3
  (try simp only [dcs, ne_eq] at g3)
  refine zE 5 [0, 1, 25] ?_
  refine zB 0 ?_ ?_
  ·intro g4
   (try simp only [dcs, ne_eq] at g4)
   refine zT 4 rfl ⟨by first | rw [few11_no (fun h => by have := h.1; omega)] | rw [few11_no (fun h => by have := h.2.1 l[k] (List.getElem_mem _); have h1 := this.1; omega)] | rw [few11_no (fun h => by have := h.2.1 l[k] (List.getElem_mem _); have h1 := this.2.1; omega)] | rw [few11_no (fun h => by have := (h.2.1 l[k] (List.getElem_mem _)).2.2 l[k].b[m] (List.getElem_mem _); omega)] | rw [few11_no (fun h => by have := h.2.2 F[j] (List.getElem_mem _); omega)] | rw [few11_yes ⟨⟨by omega, by omega, by omega⟩, hz, by rw [List.take_of_length_le (by omega)] at hx; exact hx⟩], rfl, rfl⟩
  intro g4
  (try simp only [dcs, ne_eq] at g4)
  refine zR 7 ?_
  refine zO (X := Nat) (fun k => [(5, .int .i64 (k : Int))]) [0, 1] (fun _ => []) (fun k => k ≤ l.length ∧ ∀ x ∈ l.take k, CLok x) (fun k => l.length - k) 0 ⟨by omega, by simp⟩ ?_
  intro k ⟨hk, hz⟩
  refine zD' 8 ?_ ?_
  ·intro hq4
   refine zR 3 ?_
   rw [List.take_of_length_le (by omega)] at hz
   refine zR 4 ?_
   refine zO (X := Nat) (fun j => [(7, .int .i64 (j : Int))]) [1] (fun _ => []) (fun j => j ≤ F.length ∧ ∀ x ∈ F.take j, x.a.length ≤ 30) (fun j => F.length - j) 0 ⟨by omega, by simp⟩ ?_
   intro j ⟨hj, hx⟩
   refine zD' 8 ?_ ?_
   ·intro hq6
    refine zT 5 rfl ⟨by first | rw [few11_no (fun h => by have := h.1; omega)] | rw [few11_no (fun h => by have := h.2.1 l[k] (List.getElem_mem _); have h1 := this.1; omega)] | rw [few11_no (fun h => by have := h.2.1 l[k] (List.getElem_mem _); have h1 := this.2.1; omega)] | rw [few11_no (fun h => by have := (h.2.1 l[k] (List.getElem_mem _)).2.2 l[k].b[m] (List.getElem_mem _); omega)] | rw [few11_no (fun h => by have := h.2.2 F[j] (List.getElem_mem _); omega)] | rw [few11_yes ⟨⟨by omega, by omega, by omega⟩, hz, by rw [List.take_of_length_le (by omega)] at hx; exact hx⟩], rfl, rfl⟩
   intro hq6
   refine zR 4 ?_
   refine go_elem_fa (xs := F) zM (j) (List.getElem?_eq_getElem (by omega)) (fun b3 o3 A3 c3 hA => ?_); cases hA
   refine zI 3 ?_
   refine zL 1 ?_
   refine zD' 3 ?_ ?_
   ·intro g8
    refine zR 7 ?_
    refine go_i64 7 rfl (by omega) (by omega) ?_
    refine zz (j + 1) (⟨by omega, mem_take_next (by omega) hx (by omega)⟩) (by omega)
   intro g8
   refine zE 4 [4] ?_
   refine zT 0 rfl ⟨by first | rw [few11_no (fun h => by have := h.1; omega)] | rw [few11_no (fun h => by have := h.2.1 l[k] (List.getElem_mem _); have h1 := this.1; omega)] | rw [few11_no (fun h => by have := h.2.1 l[k] (List.getElem_mem _); have h1 := this.2.1; omega)] | rw [few11_no (fun h => by have := (h.2.1 l[k] (List.getElem_mem _)).2.2 l[k].b[m] (List.getElem_mem _); omega)] | rw [few11_no (fun h => by have := h.2.2 F[j] (List.getElem_mem _); omega)] | rw [few11_yes ⟨⟨by omega, by omega, by omega⟩, hz, by rw [List.take_of_length_le (by omega)] at hx; exact hx⟩], rfl, rfl⟩
  intro hq4
  refine zR 5 ?_
  refine go_elem_cl (xs := l) zM (k) (List.getElem?_eq_getElem (by omega)) (fun b0 o0 A0 c0 B0 d0 hA => ?_); cases hA
  refine go_len (xs := l[k].b) zM (fun l2 m2 => ?_)
  refine zI 3 ?_
  refine zL 1 ?_
  refine zG 3 39 ?_ ?_
  ·intro g5
   (try simp only [dcs, ne_eq] at g5)
   refine zE 10 [0, 1, 5, 40, 41, 42, 43, 44, 45, 46, 47, 48] ?_
   refine zDt 0 ?_
   refine zE 4 [4] ?_
   refine zT 0 rfl ⟨by first | rw [few11_no (fun h => by have := h.1; omega)] | rw [few11_no (fun h => by have := h.2.1 l[k] (List.getElem_mem _); have h1 := this.1; omega)] | rw [few11_no (fun h => by have := h.2.1 l[k] (List.getElem_mem _); have h1 := this.2.1; omega)] | rw [few11_no (fun h => by have := (h.2.1 l[k] (List.getElem_mem _)).2.2 l[k].b[m] (List.getElem_mem _); omega)] | rw [few11_no (fun h => by have := h.2.2 F[j] (List.getElem_mem _); omega)] | rw [few11_yes ⟨⟨by omega, by omega, by omega⟩, hz, by rw [List.take_of_length_le (by omega)] at hx; exact hx⟩], rfl, rfl⟩
  intro g5
  (try simp only [dcs, ne_eq] at g5)
  refine zI 2 ?_
  refine zL 2 ?_
  refine zE 4 [0, 1, 5, 40, 41, 42, 43, 44, 45, 46, 47, 48] ?_
  refine zB 0 ?_ ?_
  ·intro g6
   (try simp only [dcs, ne_eq] at g6)
   refine zE 4 [4] ?_
   refine zT 0 rfl ⟨by first | rw [few11_no (fun h => by have := h.1; omega)] | rw [few11_no (fun h => by have := h.2.1 l[k] (List.getElem_mem _); have h1 := this.1; omega)] | rw [few11_no (fun h => by have := h.2.1 l[k] (List.getElem_mem _); have h1 := this.2.1; omega)] | rw [few11_no (fun h => by have := (h.2.1 l[k] (List.getElem_mem _)).2.2 l[k].b[m] (List.getElem_mem _); omega)] | rw [few11_no (fun h => by have := h.2.2 F[j] (List.getElem_mem _); omega)] | rw [few11_yes ⟨⟨by omega, by omega, by omega⟩, hz, by rw [List.take_of_length_le (by omega)] at hx; exact hx⟩], rfl, rfl⟩
  intro g6
  (try simp only [dcs, ne_eq] at g6)
  refine zR 6 ?_
  refine zO (X := Nat) (fun m => [(6, .int .i64 (m : Int))]) [0, 1, 5, 40, 41, 42, 43, 44, 45, 46, 47] (fun _ => []) (fun m => m ≤ l[k].b.length ∧ ∀ x ∈ l[k].b.take m, x.a.a.length ≤ 30) (fun m => l[k].b.length - m) 0 ⟨by omega, by simp⟩ ?_
  intro m ⟨hm, hy⟩
  refine zI 6 ?_
  refine zL 1 ?_
  refine zD' 3 ?_ ?_
  ·intro hq5
   refine zR 7 ?_
   refine go_i64 5 rfl (by omega) (by omega) ?_
   refine zz (k + 1) (⟨by omega, mem_take_next (by omega) hz ⟨by omega, by omega, by rw [List.take_of_length_le (by omega)] at hy; exact hy⟩⟩) (by omega)
  intro hq5
  refine zR 4 ?_
  refine go_elem_li (xs := l[k].b) zM (m) (List.getElem?_eq_getElem (by omega)) (fun b1 o1 A1 c1 hA => ?_); cases hA
  refine zI 3 ?_
  refine zL 1 ?_
  refine zI 1 ?_
  refine zL 2 ?_
  refine zE 3 [0, 1, 5, 6, 40, 41, 42, 43, 44, 45, 46, 47, 70] ?_
  refine zD' 0 ?_ ?_
  ·intro g7
   refine zR 7 ?_
   refine go_i64 6 rfl (by omega) (by omega) ?_
   refine zz (m + 1) (⟨by omega, mem_take_next (by omega) hy (by omega)⟩) (by omega)
  intro g7
  refine zE 4 [4] ?_
  refine zT 0 rfl ⟨by first | rw [few11_no (fun h => by have := h.1; omega)] | rw [few11_no (fun h => by have := h.2.1 l[k] (List.getElem_mem _); have h1 := this.1; omega)] | rw [few11_no (fun h => by have := h.2.1 l[k] (List.getElem_mem _); have h1 := this.2.1; omega)] | rw [few11_no (fun h => by have := (h.2.1 l[k] (List.getElem_mem _)).2.2 l[k].b[m] (List.getElem_mem _); omega)] | rw [few11_no (fun h => by have := h.2.2 F[j] (List.getElem_mem _); omega)] | rw [few11_yes ⟨⟨by omega, by omega, by omega⟩, hz, by rw [List.take_of_length_le (by omega)] at hx; exact hx⟩], rfl, rfl⟩
 intro g1
 (try simp only [dcs, ne_eq] at g1)
 refine zG 5 16 ?_ ?_
 ·intro g2
  (try simp only [dcs, ne_eq] at g2)
  refine zE 10 [0, 1, 25] ?_
  refine zDt 0 ?_
  refine zT 4 rfl ⟨by first | rw [few11_no (fun h => by have := h.1; omega)] | rw [few11_no (fun h => by have := h.2.1 l[k] (List.getElem_mem _); have h1 := this.1; omega)] | rw [few11_no (fun h => by have := h.2.1 l[k] (List.getElem_mem _); have h1 := this.2.1; omega)] | rw [few11_no (fun h => by have := (h.2.1 l[k] (List.getElem_mem _)).2.2 l[k].b[m] (List.getElem_mem _); omega)] | rw [few11_no (fun h => by have := h.2.2 F[j] (List.getElem_mem _); omega)] | rw [few11_yes ⟨⟨by omega, by omega, by omega⟩, hz, by rw [List.take_of_length_le (by omega)] at hx; exact hx⟩], rfl, rfl⟩
 intro g2
 (try simp only [dcs, ne_eq] at g2)
 refine zG 5 21 ?_ ?_
 ·intro g3
  (try simp only [dcs, ne_eq] at g3)
  refine zE 5 [0, 1, 25] ?_
  refine zDt 0 ?_
  refine zT 4 rfl ⟨by first | rw [few11_no (fun h => by have := h.1; omega)] | rw [few11_no (fun h => by have := h.2.1 l[k] (List.getElem_mem _); have h1 := this.1; omega)] | rw [few11_no (fun h => by have := h.2.1 l[k] (List.getElem_mem _); have h1 := this.2.1; omega)] | rw [few11_no (fun h => by have := (h.2.1 l[k] (List.getElem_mem _)).2.2 l[k].b[m] (List.getElem_mem _); omega)] | rw [few11_no (fun h => by have := h.2.2 F[j] (List.getElem_mem _); omega)] | rw [few11_yes ⟨⟨by omega, by omega, by omega⟩, hz, by rw [List.take_of_length_le (by omega)] at hx; exact hx⟩], rfl, rfl⟩
 intro g3
 (try simp only [dcs, ne_eq] at g3)
 refine zE 5 [0, 1, 25] ?_
 refine zB 0 ?_ ?_
 ·intro g4
  (try simp only [dcs, ne_eq] at g4)
  refine zT 4 rfl ⟨by first | rw [few11_no (fun h => by have := h.1; omega)] | rw [few11_no (fun h => by have := h.2.1 l[k] (List.getElem_mem _); have h1 := this.1; omega)] | rw [few11_no (fun h => by have := h.2.1 l[k] (List.getElem_mem _); have h1 := this.2.1; omega)] | rw [few11_no (fun h => by have := (h.2.1 l[k] (List.getElem_mem _)).2.2 l[k].b[m] (List.getElem_mem _); omega)] | rw [few11_no (fun h => by have := h.2.2 F[j] (List.getElem_mem _); omega)] | rw [few11_yes ⟨⟨by omega, by omega, by omega⟩, hz, by rw [List.take_of_length_le (by omega)] at hx; exact hx⟩], rfl, rfl⟩
 intro g4
 (try simp only [dcs, ne_eq] at g4)
 refine zR 7 ?_
 refine zO (X := Nat) (fun k => [(5, .int .i64 (k : Int))]) [0, 1] (fun _ => []) (fun k => k ≤ l.length ∧ ∀ x ∈ l.take k, CLok x) (fun k => l.length - k) 0 ⟨by omega, by simp⟩ ?_
 intro k ⟨hk, hz⟩
 refine zD' 8 ?_ ?_
 ·intro hq1
  refine zR 3 ?_
  rw [List.take_of_length_le (by omega)] at hz
  refine zR 4 ?_
  refine zO (X := Nat) (fun j => [(7, .int .i64 (j : Int))]) [1] (fun _ => []) (fun j => j ≤ F.length ∧ ∀ x ∈ F.take j, x.a.length ≤ 30) (fun j => F.length - j) 0 ⟨by omega, by simp⟩ ?_
  intro j ⟨hj, hx⟩
  refine zD' 8 ?_ ?_
  ·intro hq3
   refine zT 5 rfl ⟨by first | rw [few11_no (fun h => by have := h.1; omega)] | rw [few11_no (fun h => by have := h.2.1 l[k] (List.getElem_mem _); have h1 := this.1; omega)] | rw [few11_no (fun h => by have := h.2.1 l[k] (List.getElem_mem _); have h1 := this.2.1; omega)] | rw [few11_no (fun h => by have := (h.2.1 l[k] (List.getElem_mem _)).2.2 l[k].b[m] (List.getElem_mem _); omega)] | rw [few11_no (fun h => by have := h.2.2 F[j] (List.getElem_mem _); omega)] | rw [few11_yes ⟨⟨by omega, by omega, by omega⟩, hz, by rw [List.take_of_length_le (by omega)] at hx; exact hx⟩], rfl, rfl⟩
  intro hq3
  refine zR 4 ?_
  refine go_elem_fa (xs := F) zM (j) (List.getElem?_eq_getElem (by omega)) (fun b3 o3 A3 c3 hA => ?_); cases hA
  refine zI 3 ?_
  refine zL 1 ?_
  refine zD' 3 ?_ ?_
  ·intro g8
   refine zR 7 ?_
   refine go_i64 7 rfl (by omega) (by omega) ?_
   refine zz (j + 1) (⟨by omega, mem_take_next (by omega) hx (by omega)⟩) (by omega)
  intro g8
  refine zE 4 [4] ?_
  refine zT 0 rfl ⟨by first | rw [few11_no (fun h => by have := h.1; omega)] | rw [few11_no (fun h => by have := h.2.1 l[k] (List.getElem_mem _); have h1 := this.1; omega)] | rw [few11_no (fun h => by have := h.2.1 l[k] (List.getElem_mem _); have h1 := this.2.1; omega)] | rw [few11_no (fun h => by have := (h.2.1 l[k] (List.getElem_mem _)).2.2 l[k].b[m] (List.getElem_mem _); omega)] | rw [few11_no (fun h => by have := h.2.2 F[j] (List.getElem_mem _); omega)] | rw [few11_yes ⟨⟨by omega, by omega, by omega⟩, hz, by rw [List.take_of_length_le (by omega)] at hx; exact hx⟩], rfl, rfl⟩
 intro hq1
 refine zR 5 ?_
 refine go_elem_cl (xs := l) zM (k) (List.getElem?_eq_getElem (by omega)) (fun b0 o0 A0 c0 B0 d0 hA => ?_); cases hA
 refine go_len (xs := l[k].b) zM (fun l2 m2 => ?_)
 refine zI 3 ?_
 refine zL 1 ?_
 refine zG 3 39 ?_ ?_
 ·intro g5
  (try simp only [dcs, ne_eq] at g5)
  refine zE 10 [0, 1, 5, 40, 41, 42, 43, 44, 45, 46, 47, 48] ?_
  refine zDt 0 ?_
  refine zE 4 [4] ?_
  refine zT 0 rfl ⟨by first | rw [few11_no (fun h => by have := h.1; omega)] | rw [few11_no (fun h => by have := h.2.1 l[k] (List.getElem_mem _); have h1 := this.1; omega)] | rw [few11_no (fun h => by have := h.2.1 l[k] (List.getElem_mem _); have h1 := this.2.1; omega)] | rw [few11_no (fun h => by have := (h.2.1 l[k] (List.getElem_mem _)).2.2 l[k].b[m] (List.getElem_mem _); omega)] | rw [few11_no (fun h => by have := h.2.2 F[j] (List.getElem_mem _); omega)] | rw [few11_yes ⟨⟨by omega, by omega, by omega⟩, hz, by rw [List.take_of_length_le (by omega)] at hx; exact hx⟩], rfl, rfl⟩
 intro g5
 (try simp only [dcs, ne_eq] at g5)
 refine zI 2 ?_
 refine zL 2 ?_
 refine zE 4 [0, 1, 5, 40, 41, 42, 43, 44, 45, 46, 47, 48] ?_
 refine zB 0 ?_ ?_
 ·intro g6
  (try simp only [dcs, ne_eq] at g6)
  refine zE 4 [4] ?_
  refine zT 0 rfl ⟨by first | rw [few11_no (fun h => by have := h.1; omega)] | rw [few11_no (fun h => by have := h.2.1 l[k] (List.getElem_mem _); have h1 := this.1; omega)] | rw [few11_no (fun h => by have := h.2.1 l[k] (List.getElem_mem _); have h1 := this.2.1; omega)] | rw [few11_no (fun h => by have := (h.2.1 l[k] (List.getElem_mem _)).2.2 l[k].b[m] (List.getElem_mem _); omega)] | rw [few11_no (fun h => by have := h.2.2 F[j] (List.getElem_mem _); omega)] | rw [few11_yes ⟨⟨by omega, by omega, by omega⟩, hz, by rw [List.take_of_length_le (by omega)] at hx; exact hx⟩], rfl, rfl⟩
 intro g6
 (try simp only [dcs, ne_eq] at g6)
 refine zR 6 ?_
 refine zO (X := Nat) (fun m => [(6, .int .i64 (m : Int))]) [0, 1, 5, 40, 41, 42, 43, 44, 45, 46, 47] (fun _ => []) (fun m => m ≤ l[k].b.length ∧ ∀ x ∈ l[k].b.take m, x.a.a.length ≤ 30) (fun m => l[k].b.length - m) 0 ⟨by omega, by simp⟩ ?_
 intro m ⟨hm, hy⟩
 refine zI 6 ?_
 refine zL 1 ?_
 refine zD' 3 ?_ ?_
 ·intro hq2
  refine zR 7 ?_
  refine go_i64 5 rfl (by omega) (by omega) ?_
  refine zz (k + 1) (⟨by omega, mem_take_next (by omega) hz ⟨by omega, by omega, by rw [List.take_of_length_le (by omega)] at hy; exact hy⟩⟩) (by omega)
 intro hq2
 refine zR 4 ?_
 refine go_elem_li (xs := l[k].b) zM (m) (List.getElem?_eq_getElem (by omega)) (fun b1 o1 A1 c1 hA => ?_); cases hA
 refine zI 3 ?_
 refine zL 1 ?_
 refine zI 1 ?_
 refine zL 2 ?_
 refine zE 3 [0, 1, 5, 6, 40, 41, 42, 43, 44, 45, 46, 47, 70] ?_
 refine zD' 0 ?_ ?_
 ·intro g7
  refine zR 7 ?_
  refine go_i64 6 rfl (by omega) (by omega) ?_
  refine zz (m + 1) (⟨by omega, mem_take_next (by omega) hy (by omega)⟩) (by omega)
 intro g7
 refine zE 4 [4] ?_
 refine zT 0 rfl ⟨by first | rw [few11_no (fun h => by have := h.1; omega)] | rw [few11_no (fun h => by have := h.2.1 l[k] (List.getElem_mem _); have h1 := this.1; omega)] | rw [few11_no (fun h => by have := h.2.1 l[k] (List.getElem_mem _); have h1 := this.2.1; omega)] | rw [few11_no (fun h => by have := (h.2.1 l[k] (List.getElem_mem _)).2.2 l[k].b[m] (List.getElem_mem _); omega)] | rw [few11_no (fun h => by have := h.2.2 F[j] (List.getElem_mem _); omega)] | rw [few11_yes ⟨⟨by omega, by omega, by omega⟩, hz, by rw [List.take_of_length_le (by omega)] at hx; exact hx⟩], rfl, rfl⟩
theorem law13Small (c : Cl) (CA : Option Addr) (cc : Nat) (CB : Option Addr) (cd : Nat) (n : Nat) :
    Spec Tryz.prog 21 #[.agg #[.int .u32 c.h.p, .slice CA c.h.a.length cc, .slice CB c.b.length cd], .int .i64 (n : Int)] [sl tTm CA cc c.h.a, sl tLi CB cd c.b] [] (fun v Ps' Os' => v = .bool (smallC c n) ∧ Ps' = [] ∧ Os' = []) := by
 refine zSp [.agg #[.int .u32 c.h.p, .slice CA c.h.a.length cc, .slice CB c.b.length cd], .int .i64 (n : Int)] Tryz.func21 Tryz.ntmps21 (fun w0 hp0 hf0 => ?_)
 refine zX 2 ?_
 intro bC
 refine zR 2 ?_
 refine go_freeze_pt (b := bC) zM ?_
 refine zR 1 ?_
 refine go_len (xs := c.b) zM (fun l0 m0 => ?_)
 refine zR 9 ?_
 refine zO (X := Nat) (fun k => [(5, .int .i64 (pos (c.b.take k) : Int)), (6, .int .i64 (k : Int))]) [1, 2] (fun _ => []) (fun k => k ≤ c.b.length) (fun k => c.b.length - k) 0 (by omega) ?_
 intro k hk
 have hpk := pos_le c.b k
 refine zL 5 ?_
 refine zD 3 ?_ ?_
 ·intro hq1
  refine zR 4 ?_
  refine go_elem_li (xs := c.b) zM (k) (List.getElem?_eq_getElem (by omega)) (fun b0 o0 A0 c0 hA => ?_); cases hA
  refine zL 2 ?_
  refine zI 1 ?_
  refine zL 1 ?_
  refine zB' 2 ?_ ?_
  ·intro g1
   (try simp only [dcs, ne_eq] at g1)
   refine zR 7 ?_
   refine go_i64 6 rfl (by omega) (by omega) ?_
   refine go_re 5 (.int .i64 (pos (c.b.take (k + 1)) : Int)) (by show some (Value.int _ _) = _; rw [pos_no (by omega) g1]; skip) ?_
   refine zz (k + 1) (by omega) (by omega)
  intro g1
  (try simp only [dcs, ne_eq] at g1)
  refine zE 5 [1, 2, 5, 6] ?_
  refine zR 6 ?_
  refine go_i64 6 rfl (by omega) (by omega) ?_
  refine go_re 5 (.int .i64 (pos (c.b.take (k + 1)) : Int)) (by show some (Value.int _ _) = _; rw [pos_yes (by omega) g1]; rw [wrap_i64 (by omega) (by omega)]; rfl) ?_
  refine zz (k + 1) (by omega) (by omega)
 intro hq1
 refine zR 2 ?_
 rw [List.take_of_length_le (show c.b.length ≤ k by omega)]
 have hpb := pos_le c.b c.b.length
 rw [List.take_of_length_le (Nat.le_refl _)] at hpb
 refine zL 2 ?_
 refine zG' 3 27 ?_ ?_
 ·intro g2
  (try simp only [dcs, ne_eq] at g2)
  refine zE 17 [4] ?_
  refine zT 0 rfl ⟨by show Value.bool _ = Value.bool _; congr 1; unfold smallC; first | (rw [decide_eq_decide]; constructor <;> intro _ <;> omega) | (symm; rw [decide_eq_true_eq]; omega) | (symm; rw [decide_eq_false_iff_not]; omega), rfl, rfl⟩
 intro g2
 (try simp only [dcs, ne_eq] at g2)
 refine zG' 3 30 ?_ ?_
 ·intro g3
  (try simp only [dcs, ne_eq] at g3)
  refine zG' 7 37 ?_ ?_
  ·intro g5
   (try simp only [dcs, ne_eq] at g5)
   refine zE 7 [4] ?_
   refine zT 0 rfl ⟨by show Value.bool _ = Value.bool _; congr 1; unfold smallC; first | (rw [decide_eq_decide]; constructor <;> intro _ <;> omega) | (symm; rw [decide_eq_true_eq]; omega) | (symm; rw [decide_eq_false_iff_not]; omega), rfl, rfl⟩
  intro g5
  (try simp only [dcs, ne_eq] at g5)
  refine zE 7 [4] ?_
  refine zT 0 rfl ⟨by show Value.bool _ = Value.bool _; congr 1; unfold smallC; first | (rw [decide_eq_decide]; constructor <;> intro _ <;> omega) | (symm; rw [decide_eq_true_eq]; omega) | (symm; rw [decide_eq_false_iff_not]; omega), rfl, rfl⟩
 intro g3
 (try simp only [dcs, ne_eq] at g3)
 refine zG 4 34 ?_ ?_
 ·intro g4
  (try simp only [dcs, ne_eq] at g4)
  refine zE 10 [4] ?_
  refine zT 0 rfl ⟨by show Value.bool _ = Value.bool _; congr 1; unfold smallC; first | (rw [decide_eq_decide]; constructor <;> intro _ <;> omega) | (symm; rw [decide_eq_true_eq]; omega) | (symm; rw [decide_eq_false_iff_not]; omega), rfl, rfl⟩
 intro g4
 (try simp only [dcs, ne_eq] at g4)
 refine zG' 3 37 ?_ ?_
 ·intro g5
  (try simp only [dcs, ne_eq] at g5)
  refine zE 7 [4] ?_
  refine zT 0 rfl ⟨by show Value.bool _ = Value.bool _; congr 1; unfold smallC; first | (rw [decide_eq_decide]; constructor <;> intro _ <;> omega) | (symm; rw [decide_eq_true_eq]; omega) | (symm; rw [decide_eq_false_iff_not]; omega), rfl, rfl⟩
 intro g5
 (try simp only [dcs, ne_eq] at g5)
 refine zE 7 [4] ?_
 refine zT 0 rfl ⟨by show Value.bool _ = Value.bool _; congr 1; unfold smallC; first | (rw [decide_eq_decide]; constructor <;> intro _ <;> omega) | (symm; rw [decide_eq_true_eq]; omega) | (symm; rw [decide_eq_false_iff_not]; omega), rfl, rfl⟩
end Go.Proofs.YtpgnmfnckjnecaaGreat.SL
namespace Go.Proofs.YtpgnmfnckjnecaaGreat.SL
open Go Md
end Go.Proofs.YtpgnmfnckjnecaaGreat.SL
namespace Go.Proofs.YtpgnmfnckjnecaaGreat.SL
open Md
theorem sameLen_snoc {Y : List Am} {a : Am} : sameLen (Y ++ [a]) ↔ sameLen Y ∧ ∀ b ∈ Y, b.p = a.p → b.a.length = a.a.length := by
  constructor
  · intro h
    exact ⟨sameLen_sub h fun b hb => List.mem_append_left _ hb, fun b hb e => h b (List.mem_append_left _ hb) a (List.mem_append_right _ (.head _)) e⟩
  · rintro ⟨h, g⟩ x hx y hy e
    rw [List.mem_append, List.mem_singleton] at hx hy
    rcases hx with hx | rfl <;> rcases hy with hy | rfl
    · exact h x hx y hy e
    · exact g x hx e
    · exact (g y hy e.symm).symm
    · rfl
def ArOK (X : List Am) (fs : List Fa) : Prop := (∀ f ∈ fs, f.a.length ≤ 6) ∧ sameLen (X ++ fs.map lift)
theorem ArOK.nil {X : List Am} (h : sameLen X) : ArOK X [] := ⟨(fun f h => (nomatch h)), by simpa using h⟩
theorem ArOK.snoc {X : List Am} {fs : List Fa} {f : Fa} : ArOK X (fs ++ [f]) ↔ ArOK X fs ∧ f.a.length ≤ 6 ∧ (∀ a ∈ X, a.p = f.p → a.a.length = f.a.length) ∧ ∀ g ∈ fs, g.p = f.p → g.a.length = f.a.length := by
  unfold ArOK
  rw [List.map_append, ← List.append_assoc, List.map_singleton, sameLen_snoc]
  constructor
  · rintro ⟨h1, h2, h3⟩
    refine ⟨⟨fun g hg => h1 g (List.mem_append_left _ hg), h2⟩, h1 f (List.mem_append_right _ (.head _)), fun a ha e => ?_, fun g hg e => ?_⟩
    · have := h3 a (List.mem_append_left _ ha) e; rwa [lift_len] at this
    · have := h3 (lift g) (List.mem_append_right _ (List.mem_map.2 ⟨g, hg, rfl⟩)) e; rwa [lift_len, lift_len] at this
  · rintro ⟨⟨h1, h2⟩, h3, h4, h5⟩
    refine ⟨fun g hg => ?_, h2, fun b hb e => ?_⟩
    · rcases List.mem_append.1 hg with h | h
      · exact h1 g h
      · rw [List.mem_singleton.1 h]; exact h3
    · rw [lift_len]
      rcases List.mem_append.1 hb with h | h
      · exact h4 b h e
      · obtain ⟨g, hg, rfl⟩ := List.mem_map.1 h
        rw [lift_len]; exact h5 g hg e
theorem ArOK.sub {X : List Am} {fs : List Fa} (h : ArOK X fs) (k : Nat) : ArOK X (fs.take k) := ⟨fun f hf => h.1 f (List.mem_of_mem_take hf), sameLen_sub h.2 fun a ha => by
  rcases List.mem_append.1 ha with h | h
  · exact List.mem_append_left _ h
  · obtain ⟨g, hg, rfl⟩ := List.mem_map.1 h
    exact List.mem_append_right _ (List.mem_map.2 ⟨g, List.mem_of_mem_take hg, rfl⟩)⟩
theorem fit_iff {L : Lens} {Y : List Am} (h : LensOf L Y) (hs : sameLen Y) (p : Int) (n : Nat) : fitB L p n = true ↔ ∀ b ∈ Y, b.p = p → b.a.length = n := by
  unfold fitB
  cases e : L p with
  | none =>
    refine ⟨fun _ b hb q => ?_, fun _ => rfl⟩
    obtain ⟨k, hk⟩ := h.2 b hb
    rw [q, e] at hk; cases hk
  | some k =>
    obtain ⟨z, hz, g1, g2⟩ := h.1 _ _ e
    simp only [decide_eq_true_eq]
    constructor
    · intro q b hb qb
      have := hs b hb z hz (by rw [qb, g1])
      omega
    · intro q
      have := q z hz g1
      omega
theorem ArOK.fit {X : List Am} {fs : List Fa} {L : Lens} (h : ArOK X fs) (hL : LensOf L (X ++ fs.map lift)) (f : Fa) (hf : f.a.length ≤ 6) : fitB L f.p f.a.length = true ↔ ArOK X (fs ++ [f]) := by
  rw [fit_iff hL h.2, ArOK.snoc]
  constructor
  · intro q
    refine ⟨h, hf, fun a ha e => q a (List.mem_append_left _ ha) e, fun g hg e => ?_⟩
    have := q (lift g) (List.mem_append_right _ (List.mem_map.2 ⟨g, hg, rfl⟩)) e; rwa [lift_len] at this
  · rintro ⟨_, _, h4, h5⟩ b hb e
    rcases List.mem_append.1 hb with h | h
    · exact h4 b h e
    · obtain ⟨g, hg, rfl⟩ := List.mem_map.1 h
      rw [lift_len]; exact h5 g hg e
theorem LensOf.fact {L : Lens} {X : List Am} {fs : List Fa} (hL : LensOf L (X ++ fs.map lift)) (f : Fa) : LensOf (learn L f.p f.a.length) (X ++ (fs ++ [f]).map lift) := by
  have := hL.step (lift f)
  rw [lift_len] at this
  rw [List.map_append, ← List.append_assoc]; exact this
theorem ArOK.bad {X : List Am} {fs : List Fa} {k : Nat} (hk : k < fs.length) (h : ¬ ArOK X (fs.take k ++ [fs[k]])) : ¬ ArOK X fs := fun q => h (by
  have := q.sub (k + 1)
  rwa [List.take_succ_eq_append_getElem hk] at this)
end Go.Proofs.YtpgnmfnckjnecaaGreat.SL
namespace Go.Proofs.YtpgnmfnckjnecaaGreat.SL
open Go Md
theorem safeArities (l : List Cl) (LA : Option Addr) (lc : Nat) (fs : List Fa) (FA : Option Addr) (fc : Nat) (hr : (rightC l).2 = 0) :
    Spec Tryz.prog 25 #[.slice LA l.length lc, .slice FA fs.length fc] [sl tCl LA lc l, sl tFa FA fc fs] [] (fun v Ps' Os' => ∃ (i e : Int), v = .tuple #[.int .i64 i, .int .i64 e] ∧ ((e = 0 ∧ ArOK (atomsL l) fs) ∨ (e = 9 ∧ ¬ ArOK (atomsL l) fs)) ∧ Ps' = [] ∧ Os' = []) := by
 refine zSp [.slice LA l.length lc, .slice FA fs.length fc] Tryz.func25 Tryz.ntmps25 (fun w0 hp0 hf0 => ?_)
 refine zR 1 ?_
 have hri := rightC_iff.1 hr
 have hl := hri.1
 have hb : ∀ c ∈ l, c.b.length ≤ 8 := fun c hc => may_body (hri.2.1 c hc).1
 have hsl := hri.2.2
 refine go_len (xs := l) zM (fun l0 m0 => ?_)
 refine go_len (xs := fs) zM (fun l1 m1 => ?_)
 refine zR 6 ?_
 refine go_makemap (kk := .u32) rfl rfl rfl zH ?_
 intro bm
 refine zR 10 ?_
 refine zO (X := Nat × List (Int × Value)) (fun x => [(14, .int .i64 (x.1 : Int))]) [1, 6, 12, 13] (fun x => [mapO bm .u32 x.2]) (fun x => x.1 ≤ l.length ∧ Lens.Is x.2 ((l.take (x.1)).foldl (fun L c => (clauseL L c).2) (fun _ => none)) ∧ LensOf ((l.take (x.1)).foldl (fun L c => (clauseL L c).2) (fun _ => none)) (atomsL (l.take x.1))) (fun x => l.length - x.1) (0, []) ⟨Nat.zero_le _, Lens.Is.nil, LensOf.nil⟩ ?_
 intro ⟨k, m⟩ ⟨hk, hm, hL⟩
 simp only at hk hm hL ⊢
 refine zD 5 ?_ ?_
 ·intro hq1
  refine zR 4 ?_
  refine go_elem_cl (xs := l) zM (k) (List.getElem?_eq_getElem (by omega)) (fun b0 o0 A0 c0 B0 d0 hA => ?_); cases hA
  refine zI 1 ?_
  refine zL 0 ?_
  refine zW 0 ?_
  intro bt
  refine zS 0 ?_
  refine zR 1 ?_
  refine go_freeze_pt (b := bt) zM ?_
  refine zL 2 ?_
  refine zC 0 (safeClause bm m _ hm l[k] A0 c0 B0 d0) ?_
  rintro _ _ _ ⟨m1, hm1, rfl, rfl, rfl⟩
  refine zR 6 ?_
  refine go_i64n 14 (k + 1) rfl ?_
  refine zz (k + 1, m1) (⟨by show k + 1 ≤ _; omega, by show Lens.Is m1 ((l.take (k + 1)).foldl (fun L c => (clauseL L c).2) (fun _ => none)); rw [fold_next (by omega)]; exact hm1, by show LensOf ((l.take (k + 1)).foldl (fun L c => (clauseL L c).2) (fun _ => none)) (atomsL (l.take (k + 1))); rw [fold_next (by omega), atomsL_next (by omega)]; exact hL.clause l[k]⟩) (by show _ - (k + 1) < _ - k; omega)
 intro hq1
 refine zR 3 ?_
 rw [List.take_of_length_le (show l.length ≤ k by omega)] at hm hL
 have hL0 : LensOf (l.foldl (fun L c => (clauseL L c).2) (fun _ => none)) (atomsL l ++ (fs.take 0).map lift) := by rw [List.take_zero, List.map_nil, List.append_nil]; exact hL
 refine zR 6 ?_
 refine go_loop' (X := Nat × List (Int × Value) × Lens) (fun x => [(24, .int .i64 (x.1 : Int))]) [(6, _), (22, _), (23, _)] (fun x => [mapO bm .u32 x.2.1]) (fun x => x.1 ≤ fs.length ∧ Lens.Is x.2.1 x.2.2 ∧ LensOf x.2.2 (atomsL l ++ (fs.take x.1).map lift) ∧ ArOK (atomsL l) (fs.take x.1)) (fun x => fs.length - x.1) ((0, m, _)) zA zM ⟨Nat.zero_le _, hm, hL0, ArOK.nil hsl⟩ ?_
 intro ⟨j, m2, L⟩ ⟨hj, hm2, hL2, hA⟩
 simp only at hj hm2 hL2 hA ⊢
 refine zD' 5 ?_ ?_
 ·intro hq2
  refine zT 6 rfl ⟨0, 0, rfl, .inl ⟨rfl, by rw [List.take_of_length_le (by omega)] at hA; exact hA⟩, rfl, rfl⟩
 intro hq2
 refine zR 4 ?_
 refine go_elem_fa (xs := fs) zM (j) (List.getElem?_eq_getElem (by omega)) (fun b1 o1 A1 c1 hA => ?_); cases hA
 refine go_len (xs := fs[j].a) zM (fun lf mf => ?_)
 refine zI 2 ?_
 refine zL 0 ?_
 refine zW 0 ?_
 intro bf
 refine zS 1 ?_
 refine zR 1 ?_
 refine go_freeze_pt (b := bf) zM ?_
 refine zL 3 ?_
 refine zG 3 33 ?_ ?_
 ·intro g1
  (try simp only [dcs, ne_eq] at g1)
  refine zDt 10 ?_
  refine zE 6 [4, 5] ?_
  refine zT 0 rfl ⟨_, 9, rfl, .inr ⟨rfl, ArOK.bad (k := j) (by omega) (fun q => by have := (ArOK.snoc.1 q).2.1; omega)⟩, rfl, rfl⟩
 intro g1
 (try simp only [dcs, ne_eq] at g1)
 refine zL 2 ?_
 refine zL 1 ?_
 refine zC 1 (safeFits bm m2 L hm2 fs[j].p fs[j].a.length) ?_
 rintro _ _ _ ⟨m3, hm3, rfl, rfl, rfl⟩
 refine zB 3 ?_ ?_
 ·intro g2
  (try simp only [dcs, ne_eq] at g2)
  refine zE 6 [4, 5] ?_
  refine zT 0 rfl ⟨_, 9, rfl, .inr ⟨rfl, ArOK.bad (k := j) (by omega) (fun q => by have := (hA.fit hL2 fs[j] (by omega)).2 q; rw [this] at g2; simp at g2)⟩, rfl, rfl⟩
 intro g2
 (try simp only [dcs, ne_eq] at g2)
 refine zR 6 ?_
 refine go_i64n 24 (j + 1) rfl ?_
 refine zz (j + 1, m3, learn L fs[j].p fs[j].a.length) (⟨by show j + 1 ≤ _; omega, hm3, by show LensOf _ (atomsL l ++ (fs.take (j + 1)).map lift); rw [List.take_succ_eq_append_getElem (show j < fs.length by omega)]; exact hL2.fact fs[j], by show ArOK _ (fs.take (j + 1)); rw [List.take_succ_eq_append_getElem (show j < fs.length by omega)]; exact (hA.fit hL2 fs[j] (by omega)).1 (by first | exact g2 | simpa using g2)⟩) (by show _ - (j + 1) < _ - j; omega)
end Go.Proofs.YtpgnmfnckjnecaaGreat.SL
namespace Go.Proofs.YtpgnmfnckjnecaaGreat.SL
open Md
abbrev Lx := List Cl × Option Addr × Nat
def encL (x : Lx) : Value := .slice x.2.1 x.1.length x.2.2
def pxL (st : List (List Cl)) (pre : List Lx) (x : Lx) : List PA := [PA.and (st[pre.length]? = some x.1) (sl tCl x.2.1 x.2.2 x.1)]
inductive ModA (l : List Cl) (fs : List Fa) (most : Int) : Option (List Fa) → Int → Prop where
  | arg : most < 0 → ModA l fs most none 1
  | strat {ss : List (List Nat)} {e : Int} : 0 ≤ most → StrR l ss e → e ≠ 0 → ModA l fs most none e
  | ari {ss : List (List Nat)} : 0 ≤ most → StrR l ss 0 → ¬ ArOK (atomsL l) fs → ModA l fs most none 9
  | run {ss : List (List Nat)} {r : Option (List Fa)} {e : Int} : 0 ≤ most → StrR l ss 0 → ArOK (atomsL l) fs → ModelR (ss.map (clausesAt l)) most (fof fs) r e → ModA l fs most r e
theorem LeastR.bad {l : List Cl} {N : List Fa} {most : Int} {r : Option (List Fa)} {n : Nat} {e : Int} (h : LeastR l N most r n e) (he : ¬ e = 0) : r = none := by
  cases h with
  | arg h1 => rfl
  | many k h1 h2 h3 => rfl
  | ok k h1 h2 h3 h4 h5 => exact absurd rfl he
theorem LeastR.good {l : List Cl} {N : List Fa} {most : Int} {r : Option (List Fa)} {n : Nat} {e : Int} (h : LeastR l N most r n e) (he : e = 0) : ∃ B, r = some B := by
  cases h with
  | arg h1 => cases he
  | many k h1 h2 h3 => cases he
  | ok k h1 h2 h3 h4 h5 => exact ⟨_, rfl⟩
theorem RefL.bad {l : List Cl} {N : List Fa} {most : Int} {b : List Fa} {e : Int} (h : RefL l N most b e) (he : ¬ e = 0) : b = [] := by
  cases h with
  | arg h1 => rfl
  | many k h1 h2 h3 => rfl
  | ok k h1 h2 h3 h5 => exact absurd rfl he
theorem Md.Upto.fine {st : List (List Cl)} {most : Int} {N A : List Fa} {k : Nat} (h : Upto st most N k A) (hl : ∀ s ∈ st, ∀ c ∈ s, c.ok) (hN : ∀ x ∈ N, x.ok ∧ x.a.length ≤ 100000) : ∀ x ∈ A, x.ok ∧ x.a.length ≤ 100000 := by
  induction h with
  | zero => exact hN
  | succ h hk hL ih =>
    obtain ⟨j, e, _, _⟩ := hL.some_ok
    rw [e]
    exact Sq_ok (hl _ (List.getElem_mem _)) ih j
theorem clausesAt_mem {l : List Cl} {is : List Nat} {c : Cl} (h : c ∈ clausesAt l is) : c ∈ l := by
  obtain ⟨i, _, e⟩ := List.mem_filterMap.1 h
  exact List.mem_of_getElem? e
theorem clausesAt_snoc {l : List Cl} {is : List Nat} {u : Nat} (h : u < l.length) : clausesAt l (is ++ [u]) = clausesAt l is ++ [l[u]] := by
  unfold clausesAt; rw [List.filterMap_append]; simp [h]
theorem clausesAt_len {l : List Cl} : ∀ {is : List Nat}, (∀ u ∈ is, u < l.length) → (clausesAt l is).length = is.length
  | [], _ => rfl
  | u :: is, h => by
    have h1 := clausesAt_len (l := l) (is := is) (fun v hv => h v (.tail _ hv))
    have h2 := h u (.head _)
    unfold clausesAt at h1 ⊢
    rw [List.filterMap_cons, List.getElem?_eq_getElem h2, List.length_cons, List.length_cons, h1]
theorem StrR.zero {l : List Cl} {ss : List (List Nat)} {e : Int} (h : StrR l ss e) (he : e = 0) : (rightC l).2 = 0 ∧ ss.length ≤ 4001 ∧ ∀ p ∈ ss, p.length ≤ 400 ∧ ∀ u ∈ p, u < l.length := by
  cases h with
  | bad e h1 h2 => exact absurd he h1
  | ok lv h1 h2 h3 h4 =>
    have hl := (rightC_iff.1 h1).1
    refine ⟨h1, ?_, fun p hp => ?_⟩
    · unfold strata; rw [List.length_map, List.length_range]
      exact top_le (fun x hx => by obtain ⟨c, _, rfl⟩ := List.mem_map.1 hx; exact h4 _)
    · unfold strata at hp
      obtain ⟨k, _, rfl⟩ := List.mem_map.1 hp
      refine ⟨Nat.le_trans (strI_len _ _) (by rw [List.length_map]; exact hl), fun u hu => ?_⟩
      have := mem_strI.1 hu
      rw [List.getElem?_map] at this
      cases e : l[u]? with
      | none => rw [e] at this; cases this
      | some c => exact (List.getElem?_eq_some_iff.1 e).1
theorem st_mem {l : List Cl} {ss : List (List Nat)} : ∀ s ∈ ss.map (clausesAt l), ∀ c ∈ s, c ∈ l := fun s hs c hc => by
  obtain ⟨p, _, rfl⟩ := List.mem_map.1 hs
  exact clausesAt_mem hc
end Go.Proofs.YtpgnmfnckjnecaaGreat.SL
namespace Go.Proofs.YtpgnmfnckjnecaaGreat.SL
open Go
theorem fixRight (l : List Cl) (LA : Option Addr) (lc : Nat) :
    Spec Tryz.prog 48 #[.slice LA l.length lc] [sl tCl LA lc l] [] (fun v Ps' Os' => v = .bool (fixR l) ∧ Ps' = [] ∧ Os' = []) := by
 refine zSp [.slice LA l.length lc] Tryz.func48 Tryz.ntmps48 (fun w0 hp0 hf0 => ?_)
 refine zC3 8 (safeRight LA lc l) ?_
 refine zN 11 ?_ ?_
 ·intro g1
  refine zT 4 rfl ⟨by rw [show fixR l = false from decide_eq_false (fun q => g1 q.1)], rfl, rfl⟩
 intro g1
 refine zR 3 ?_
 refine go_makemap (kk := .u32) rfl rfl rfl zH ?_
 intro bm
 refine zR 4 ?_
 refine go_len (xs := l) zM (fun l0 m0 => ?_)
 refine zR 6 ?_
 refine zO (X := Nat × List (Int × Value)) (fun x => [(22, .int .i64 (x.1 : Int))]) [0, 5, 20, 21] (fun x => [mapO bm .u32 x.2]) (fun x => x.1 ≤ l.length ∧ Ones x.2 ((l.take x.1).map fun c => c.h.p)) (fun x => l.length - x.1) (0, []) ⟨by omega, Ones.nil⟩ ?_
 intro ⟨k, m⟩ ⟨hk, hm⟩
 simp only at hk hm ⊢
 refine zD 5 ?_ ?_
 ·intro hq1
  refine zR 4 ?_
  refine go_elem_cl (xs := l) zM (k) (List.getElem?_eq_getElem (by omega)) (fun b1 o1 A1 c1 B1 d1 hA => ?_); cases hA
  refine zI 1 ?_
  refine zL 0 ?_
  refine zW 0 ?_
  intro bT
  refine zS 0 ?_
  refine zR 1 ?_
  refine go_freeze_pt (b := bT) zM ?_
  refine zL 4 ?_
  refine go_mset (m := m) Tk rfl rfl rfl rfl rfl rfl rfl rfl zM zF ?_
  refine zR 6 ?_
  refine go_i64 22 rfl (by omega) (by omega) ?_
  refine go_back (k + 1, _) zA zM zM ⟨by show k + 1 ≤ _; omega, (hm.set l[k].h.p).same (fun z => by simp only [List.take_succ_eq_append_getElem (show k < l.length by omega), List.map_append, List.mem_append, List.mem_cons, List.map_cons, List.map_nil, List.not_mem_nil, or_false]; exact or_comm)⟩ (by show l.length - (k + 1) < l.length - k; omega)
 intro hq1
 refine zR 3 ?_
 rw [List.take_of_length_le (by omega)] at hm
 refine zR 6 ?_
 refine zO (X := Nat) (fun i => [(33, .int .i64 (i : Int))]) [5, 31, 32] (fun _ => []) (fun i => i ≤ l.length ∧ ∀ c ∈ l.take i, ∀ x ∈ c.b, x.no = true → ∀ d ∈ l, ¬ d.h.p = x.a.p) (fun i => l.length - i) 0 ⟨by omega, by simp⟩ ?_
 intro i ⟨hi, hz⟩
 refine zD' 5 ?_ ?_
 ·intro hq2
  refine zT 5 rfl ⟨by rw [show fixR l = true from decide_eq_true ⟨by simpa using g1, fun c hc => by rw [List.take_of_length_le (by omega)] at hz; exact hz c hc⟩], rfl, rfl⟩
 intro hq2
 refine zR 4 ?_
 refine go_elem_cl (xs := l) zM (i) (List.getElem?_eq_getElem (by omega)) (fun b2 o2 A2 c2 B2 d2 hA => ?_); cases hA
 refine zI 1 ?_
 refine zL 0 ?_
 refine zW 0 ?_
 intro bU
 refine zS 0 ?_
 refine zR 1 ?_
 refine go_freeze_pt (b := bU) zM ?_
 refine zR 1 ?_
 refine go_len (xs := l[i].b) zM (fun l2 m2 => ?_)
 refine zL 2 ?_
 refine zR 4 ?_
 refine zO (X := Nat) (fun j => [(40, .int .i64 (j : Int))]) [5, 31, 32, 33, 38, 39] (fun _ => []) (fun j => j ≤ l[i].b.length ∧ ∀ x ∈ l[i].b.take j, x.no = true → ∀ d ∈ l, ¬ d.h.p = x.a.p) (fun j => l[i].b.length - j) 0 ⟨by omega, by simp⟩ ?_
 intro j ⟨hj, hy⟩
 refine zD' 5 ?_ ?_
 ·intro hq3
  refine zR 6 ?_
  refine go_i64 33 rfl (by omega) (by omega) ?_
  refine zz (i + 1) (⟨by omega, mem_take_next (by omega) hz (by rw [List.take_of_length_le (by omega)] at hy; exact hy)⟩) (by omega)
 intro hq3
 refine zR 4 ?_
 refine go_elem_li (xs := l[i].b) zM (j) (List.getElem?_eq_getElem (by omega)) (fun b3 o3 A3 c3 hA => ?_); cases hA
 refine zI 1 ?_
 refine zL 0 ?_
 refine zW 0 ?_
 intro bV
 refine zS 0 ?_
 refine zR 1 ?_
 refine go_freeze_pt (b := bV) zM ?_
 refine zL 3 ?_
 refine zG' 1 46 ?_ ?_
 ·intro g2
  (try simp only [dcs, ne_eq] at g2)
  refine zDf 8 ?_
  refine zR 6 ?_
  refine go_i64 40 rfl (by omega) (by omega) ?_
  refine zz (j + 1) (⟨by omega, mem_take_next (by omega) hy (fun q => by first | exact absurd (g2.symm.trans q) (by decide) | exact g4)⟩) (by omega)
 intro g2
 (try simp only [dcs, ne_eq] at g2)
 refine zL 3 ?_
 refine go_val0 rfl (lookup_val (m := m) (n := l[i].b[j].a.p) (c := false) (v := (mget m l[i].b[j].a.p).getD (.int .i64 0)) Tk rfl rfl rfl rfl rfl rfl zM rfl) rfl ?_
 refine go_re 51 (.int .i64 (if l[i].b[j].a.p ∈ (l.map fun c => c.h.p) then 1 else 0)) (by show some _ = some _; rw [hm]; split <;> rfl) ?_
 refine zB 3 ?_ ?_
 ·intro g3
  (try simp only [dcs, ne_eq] at g3)
  have g4 : l[i].b[j].a.p ∈ (l.map fun c => c.h.p) := Decidable.byContradiction fun h => by rw [if_neg h] at g3; omega
  refine zE 4 [2] ?_
  refine zT 0 rfl ⟨by rw [show fixR l = false from decide_eq_false (fun q => by obtain ⟨d, hd, e⟩ := List.mem_map.1 g4; exact q.2 l[i] (List.getElem_mem _) _ (List.getElem_mem _) g2 d hd e)], rfl, rfl⟩
 intro g3
 (try simp only [dcs, ne_eq] at g3)
 have g4 : ∀ d ∈ l, ¬ d.h.p = l[i].b[j].a.p := fun d hd e => by rw [if_pos (List.mem_map.2 ⟨d, hd, e⟩)] at g3; omega
 refine zR 6 ?_
 refine go_i64 40 rfl (by omega) (by omega) ?_
 refine zz (j + 1) (⟨by omega, mem_take_next (by omega) hy (fun q => by first | exact absurd (g2.symm.trans q) (by decide) | exact g4)⟩) (by omega)
theorem joinHeadsR (c : Cl) (CA : Option Addr) (cc : Nat) (CB : Option Addr) (cd : Nat) (ba : Nat) (pn : Option Addr) (F N : List Fa) (hs : JoinS F [] N) (hok : c.ok) (hb : (goL c F [] N c.b ch0 true).length ≤ 50000000) : Spec Tryz.prog 51 #[.agg #[.int .u32 c.h.p, .slice CA c.h.a.length cc, .slice CB c.b.length cd], .pointer (some ⟨ba, 0, none⟩), .pointer pn] [sl tTm CA cc c.h.a, sl tLi CB cd c.b, relN pn N] [relO ba F] (fun v Ps' Os' => ∃ A k, v = .slice A (headsC c F [] N false).length k ∧ Ps' = [] ∧ Os' = [relO ba F, dl tFa 39 A k (headsC c F [] N false)]) :=
  (((joinHeadsAll c CA cc CB cd (some ⟨ba, 0, none⟩) pn F N hs hok hb).less (Ps' := [relN (some ⟨ba, 0, none⟩) F, sl tTm CA cc c.h.a, sl tLi CB cd c.b, relN pn N]) (fun q hq => by
    simp only [List.mem_cons, List.not_mem_nil, or_false] at hq ⊢
    rcases hq with h | h | h | h <;> simp [h])).lend (relO ba F) (fun hp h1 H l1 l2 q => relN_some (lend_rel hp h1 H l1 l2 q)) (fun v P' O' ⟨A, k, _, h2, h3⟩ => ⟨h2, fun B hB => by rw [h3, List.mem_singleton] at hB; subst hB; exact fun _ _ _ q => q⟩)).imp fun v P' O' ⟨O2, ⟨A, k, h1, _, h3⟩, h4, h5⟩ => ⟨A, k, h1, h4, by rw [h5, h3]⟩
theorem joinNewsR (c : Cl) (CA : Option Addr) (cc : Nat) (CB : Option Addr) (cd : Nat) (ba : Nat) (pg pn : Option Addr) (F R N : List Fa) (hs : JoinS F R N) (hok : c.ok) (hb : (goL c F R N c.b ch0 false).length ≤ 50000000) : Spec Tryz.prog 54 #[.agg #[.int .u32 c.h.p, .slice CA c.h.a.length cc, .slice CB c.b.length cd], .pointer (some ⟨ba, 0, none⟩), .pointer pg, .pointer pn] [sl tTm CA cc c.h.a, sl tLi CB cd c.b, relN pg R, relN pn N] [relO ba F] (fun v Ps' Os' => ∃ A k, v = .slice A (headsC c F R N true).length k ∧ Ps' = [] ∧ Os' = [relO ba F, dl tFa 39 A k (headsC c F R N true)]) :=
  (((joinNews c CA cc CB cd (some ⟨ba, 0, none⟩) pg pn F R N hs hok hb).less (Ps' := [relN (some ⟨ba, 0, none⟩) F, sl tTm CA cc c.h.a, sl tLi CB cd c.b, relN pg R, relN pn N]) (fun q hq => by
    simp only [List.mem_cons, List.not_mem_nil, or_false] at hq ⊢
    rcases hq with h | h | h | h | h <;> simp [h])).lend (relO ba F) (fun hp h1 H l1 l2 q => relN_some (lend_rel hp h1 H l1 l2 q)) (fun v P' O' ⟨A, k, _, h2, h3⟩ => ⟨h2, fun B hB => by rw [h3, List.mem_singleton] at hB; subst hB; exact fun _ _ _ q => q⟩)).imp fun v P' O' ⟨O2, ⟨A, k, h1, _, h3⟩, h4, h5⟩ => ⟨A, k, h1, h4, by rw [h5, h3]⟩
theorem least1 (c : Cl) (CA : Option Addr) (cc : Nat) (CB : Option Addr) (cd : Nat) (b6 b4 ba : Nat) (pn : Option Addr) (F N : List Fa) (hs : JoinS F [] N) (hok : c.ok) (hb : (goL c F [] N c.b ch0 true).length ≤ 50000000) :
    Spec Tryz.prog 50 #[.agg #[.int .u32 c.h.p, .slice CA c.h.a.length cc, .slice CB c.b.length cd], .pointer (some ⟨b6, 0, none⟩), .pointer (some ⟨b4, 0, none⟩)] [sl tTm CA cc c.h.a, sl tLi CB cd c.b, cl b4 0 [.pointer pn], relN pn N] [pt b6 61 [.pointer (some ⟨ba, 0, none⟩)], relO ba F] (fun v Ps' Os' => ∃ A k, v = .slice A (headsC c F [] N false).length k ∧ Ps' = [] ∧ Os' = [pt b6 61 [.pointer (some ⟨ba, 0, none⟩)], relO ba F, dl tFa 39 A k (headsC c F [] N false)]) := by
 refine zSp [.agg #[.int .u32 c.h.p, .slice CA c.h.a.length cc, .slice CB c.b.length cd], .pointer (some ⟨b6, 0, none⟩), .pointer (some ⟨b4, 0, none⟩)] Tryz.func50 Tryz.ntmps50 (fun w0 hp0 hf0 => ?_)
 refine zX 2 ?_
 intro bC
 refine zR 2 ?_
 refine go_freeze_pt (b := bC) zM ?_
 refine zL 2 ?_
 refine zL 0 ?_
 refine zL 0 ?_
 refine zC 0 (joinHeadsR c CA cc CB cd ba pn F N hs hok hb) ?_
 rintro _ _ _ ⟨A9, k9, rfl, rfl, rfl⟩
 refine zT 2 rfl ⟨A9, k9, rfl, rfl, rfl⟩
theorem least2 (c : Cl) (CA : Option Addr) (cc : Nat) (CB : Option Addr) (cd : Nat) (b6 bg b4 ba : Nat) (pg pn : Option Addr) (F R N : List Fa) (hs : JoinS F R N) (hok : c.ok) (hb : (goL c F R N c.b ch0 false).length ≤ 50000000) :
    Spec Tryz.prog 53 #[.agg #[.int .u32 c.h.p, .slice CA c.h.a.length cc, .slice CB c.b.length cd], .pointer (some ⟨b6, 0, none⟩), .pointer (some ⟨bg, 0, none⟩), .pointer (some ⟨b4, 0, none⟩)] [sl tTm CA cc c.h.a, sl tLi CB cd c.b, cl bg 0 [.pointer pg], relN pg R, cl b4 0 [.pointer pn], relN pn N] [pt b6 61 [.pointer (some ⟨ba, 0, none⟩)], relO ba F] (fun v Ps' Os' => ∃ A k, v = .slice A (headsC c F R N true).length k ∧ Ps' = [] ∧ Os' = [pt b6 61 [.pointer (some ⟨ba, 0, none⟩)], relO ba F, dl tFa 39 A k (headsC c F R N true)]) := by
 refine zSp [.agg #[.int .u32 c.h.p, .slice CA c.h.a.length cc, .slice CB c.b.length cd], .pointer (some ⟨b6, 0, none⟩), .pointer (some ⟨bg, 0, none⟩), .pointer (some ⟨b4, 0, none⟩)] Tryz.func53 Tryz.ntmps53 (fun w0 hp0 hf0 => ?_)
 refine zX 2 ?_
 intro bC
 refine zR 2 ?_
 refine go_freeze_pt (b := bC) zM ?_
 refine zL 2 ?_
 refine zL 0 ?_
 refine zL 0 ?_
 refine zL 0 ?_
 refine zC 0 (joinNewsR c CA cc CB cd ba pg pn F R N hs hok hb) ?_
 rintro _ _ _ ⟨A9, k9, rfl, rfl, rfl⟩
 refine zT 2 rfl ⟨A9, k9, rfl, rfl, rfl⟩
theorem pre_mem {l : List Cl} {hd : Cl → List Fa} {k j : Nat} (hk : k < l.length) {x : Fa} (h : x ∈ (l.take k).flatMap hd ++ (hd l[k]).take j) : x ∈ l.flatMap hd := by
  rw [List.mem_flatMap]
  rcases List.mem_append.1 h with h | h
  · obtain ⟨c, hc, h⟩ := List.mem_flatMap.1 h
    exact ⟨c, List.mem_of_mem_take hc, h⟩
  · exact ⟨l[k], List.getElem_mem _, List.mem_of_mem_take h⟩
theorem fixNews (l : List Cl) (LA : Option Addr) (lc : Nat) (b6 ba : Nat) (F : List Fa) (g : FuncId) (caps : Array Value) (PK : PA) (hd : Cl → List Fa) (most : Int) (hask : ∀ c ∈ l, ∀ (CA : Option Addr) (cc : Nat) (CB : Option Addr) (cd : Nat), Spec Tryz.prog g (Value.agg #[.int .u32 c.h.p, .slice CA c.h.a.length cc, .slice CB c.b.length cd] :: caps.toList).toArray [sl tTm CA cc c.h.a, sl tLi CB cd c.b, PK] [pt b6 61 [.pointer (some ⟨ba, 0, none⟩)], relO ba F] (fun v Ps' Os' => ∃ A k, v = .slice A (hd c).length k ∧ Ps' = [] ∧ Os' = [pt b6 61 [.pointer (some ⟨ba, 0, none⟩)], relO ba F, dl tFa 39 A k (hd c)])) (hr : rises F) (hm : most ≤ 100000) (hF : (F.length : Int) ≤ most) (hda : ∀ c ∈ l, ∀ x ∈ hd c, x.a.length ≤ 100000) :
    Spec Tryz.prog 52 #[.agg #[.slice LA l.length lc, .pointer (some ⟨ba, 0, none⟩), .func (.func g) #[] caps], .int .i64 most] [sl tCl LA lc l, PK] [pt b6 61 [.pointer (some ⟨ba, 0, none⟩)], relO ba F] (fun v Ps' Os' => ∃ b R, v = .pointer (some ⟨b, 0, none⟩) ∧ rises R ∧ R.length ≤ 100001 ∧ ((most < ((F.length + R.length : Nat) : Int) ∧ most < ((F.length + (nws F (l.flatMap hd)).length : Nat) : Int)) ∨ (R = nws F (l.flatMap hd) ∧ ((F.length + R.length : Nat) : Int) ≤ most)) ∧ Ps' = [] ∧ Os' = [pt b6 61 [.pointer (some ⟨ba, 0, none⟩)], relO ba F, relO b R]) := by
 refine zSp [.agg #[.slice LA l.length lc, .pointer (some ⟨ba, 0, none⟩), .func (.func g) #[] caps], .int .i64 most] Tryz.func52 Tryz.ntmps52 (fun w0 hp0 hf0 => ?_)
 refine zX 2 ?_
 intro bR
 refine zR 2 ?_
 refine go_freeze_pt (b := bR) zM ?_
 refine zC 2 relNew ?_
 rintro _ _ _ ⟨b, rfl, rfl, rfl⟩
 refine go_same (A := relO b []) (B := relO b (nws F ((l.take (0)).flatMap hd))) zM rfl ?_
 refine zR 4 ?_
 refine go_len (xs := l) zM (fun l0 m0 => ?_)
 refine zL 2 ?_
 refine zR 4 ?_
 refine zO (X := Nat) (fun k => [(14, .int .i64 (k : Int))]) [1, 2, 5, 12, 13] (fun k => [pt b6 61 [.pointer (some ⟨ba, 0, none⟩)], relO ba F, relO b (nws F ((l.take (k)).flatMap hd))]) (fun k => k ≤ l.length ∧ ((F.length + (nws F ((l.take (k)).flatMap hd)).length : Nat) : Int) ≤ most) (fun k => l.length - k) 0 ⟨by omega, by show ((F.length + 0 : Nat) : Int) ≤ most; omega⟩ ?_
 intro k ⟨hk, hkm⟩
 refine zD' 5 ?_ ?_
 ·intro hq1
  refine zT 6 rfl ⟨b, _, rfl, rises_nws _ _, by omega, .inr ⟨by rw [List.take_of_length_le (show l.length ≤ k by omega)], hkm⟩, rfl, rfl⟩
 intro hq1
 refine zR 4 ?_
 refine go_elem_cl (xs := l) zM (k) (List.getElem?_eq_getElem (by omega)) (fun b1 o1 A1 c1 B1 d1 hA => ?_); cases hA
 refine zI 1 ?_
 refine zL 0 ?_
 refine zW 0 ?_
 intro bT
 refine zS 0 ?_
 refine zR 1 ?_
 refine go_freeze_pt (b := bT) zM ?_
 refine zL 3 ?_
 refine zL 0 ?_
 refine zC 0 (hask l[k] (List.getElem_mem _) A1 c1 B1 d1) ?_
 rintro _ _ _ ⟨A2, k2, rfl, rfl, rfl⟩
 refine go_freeze_dl (T := tFa) (A := A2) (xs := hd l[k]) zM ?_
 refine go_len (xs := hd l[k]) zM (fun l2 m2 => ?_)
 refine go_same (A := relO b (nws F ((l.take (k)).flatMap hd))) (B := relO b (nws F ((l.take k).flatMap hd ++ (hd l[k]).take 0))) zM (by rw [List.take_zero, List.append_nil]) ?_
 refine zR 4 ?_
 refine zO (X := Nat) (fun j => [(23, .int .i64 (j : Int))]) [1, 2, 5, 12, 13, 14, 21, 22] (fun j => [pt b6 61 [.pointer (some ⟨ba, 0, none⟩)], relO ba F, relO b (nws F ((l.take k).flatMap hd ++ (hd l[k]).take j))]) (fun j => j ≤ (hd l[k]).length ∧ ((F.length + (nws F ((l.take k).flatMap hd ++ (hd l[k]).take j)).length : Nat) : Int) ≤ most) (fun j => (hd l[k]).length - j) 0 ⟨by omega, by rw [List.take_zero, List.append_nil]; exact hkm⟩ ?_
 intro j ⟨hj, hjm⟩
 refine zD' 5 ?_ ?_
 ·intro hq2
  refine zR 6 ?_
  refine go_same (A := relO b (nws F ((l.take k).flatMap hd ++ (hd l[k]).take j))) (B := relO b (nws F ((l.take (k + 1)).flatMap hd))) zM (by rw [List.take_of_length_le (show (hd l[k]).length ≤ j by omega), ← flat_next (by omega)]) ?_
  refine go_i64 14 rfl (by omega) (by omega) ?_
  refine zz (k + 1) ⟨by omega, by rw [List.take_of_length_le (show (hd l[k]).length ≤ j by omega), ← flat_next (by omega)] at hjm; exact hjm⟩ (by omega)
 intro hq2
 refine zR 4 ?_
 refine go_elem_fa (xs := hd l[k]) zM (j) (List.getElem?_eq_getElem (by omega)) (fun b3 o3 A3 c3 hA => ?_); cases hA
 have hxs : ((l.take k).flatMap hd ++ (hd l[k]).take (j + 1)) = ((l.take k).flatMap hd ++ (hd l[k]).take j) ++ [(hd l[k])[j]] := by rw [List.take_succ_eq_append_getElem (show j < (hd l[k]).length by omega), ← List.append_assoc]
 have hsn := nws_snoc F ((l.take k).flatMap hd ++ (hd l[k]).take j) (hd l[k])[j]
 rw [← hxs] at hsn
 refine zI 1 ?_
 refine zL 0 ?_
 refine zW 0 ?_
 intro bV
 refine zS 0 ?_
 refine zR 1 ?_
 refine go_freeze_pt (b := bV) zM ?_
 refine zL 4 ?_
 refine zL 0 ?_
 refine zC3 0 (relHas ba F (hd l[k])[j] A3 c3 hr (by omega)) ?_
 refine zB' 2 ?_ ?_
 ·intro g1
  (try simp only [dcs, ne_eq] at g1)
  rw [if_pos g1] at hsn
  refine go_same (A := relO b (nws F ((l.take k).flatMap hd ++ (hd l[k]).take j))) (B := relO b (nws F ((l.take k).flatMap hd ++ (hd l[k]).take (j + 1)))) zM (by rw [hsn]) ?_
  refine zR 2 ?_
  have hle : (nws F ((l.take k).flatMap hd ++ (hd l[k]).take (j + 1))).length ≤ (nws F ((l.take k).flatMap hd ++ (hd l[k]).take j)).length + 1 := by rw [hsn]; first | omega | exact fput_len _ _
  refine zL 2 ?_
  refine zC3 0 (relLen ba F) ?_
  refine zC3 1 (relLen b (nws F ((l.take k).flatMap hd ++ (hd l[k]).take (j + 1)))) ?_
  refine zR 1 ?_
  refine go_i64 40 rfl (by omega) (by omega) ?_
  refine zE 3 [1, 2, 5, 12, 13, 14, 21, 22, 23, 42] ?_
  refine zD' 0 ?_ ?_
  ·intro g2
   refine zR 6 ?_
   refine go_i64 23 rfl (by omega) (by omega) ?_
   refine zz (j + 1) ⟨by omega, by omega⟩ (by omega)
  intro g2
  refine zT 5 rfl ⟨b, nws F ((l.take k).flatMap hd ++ (hd l[k]).take (j + 1)), rfl, rises_nws _ _, by omega, .inl ⟨by omega, by have := nws_sub (S := F) (X := ((l.take k).flatMap hd ++ (hd l[k]).take (j + 1))) (Y := l.flatMap hd) (fun x hx => pre_mem (by omega) hx); omega⟩, rfl, rfl⟩
 intro g1
 (try simp only [dcs, ne_eq] at g1)
 rw [if_neg g1] at hsn
 refine zL 2 ?_
 refine zC3 0 (relPut b (nws F ((l.take k).flatMap hd ++ (hd l[k]).take j)) (hd l[k])[j] A3 c3 (rises_nws _ _) (by omega) (hda l[k] (List.getElem_mem _) _ (List.getElem_mem _))) ?_
 rw [← hsn]
 refine zE 1 [1, 2, 5, 12, 13, 14, 21, 22, 23] ?_
 refine zR 1 ?_
 have hle : (nws F ((l.take k).flatMap hd ++ (hd l[k]).take (j + 1))).length ≤ (nws F ((l.take k).flatMap hd ++ (hd l[k]).take j)).length + 1 := by rw [hsn]; first | omega | exact fput_len _ _
 refine zL 2 ?_
 refine zC3 0 (relLen ba F) ?_
 refine zC3 1 (relLen b (nws F ((l.take k).flatMap hd ++ (hd l[k]).take (j + 1)))) ?_
 refine zR 1 ?_
 refine go_i64 40 rfl (by omega) (by omega) ?_
 refine zD' 3 ?_ ?_
 ·intro g2
  refine zR 6 ?_
  refine go_i64 23 rfl (by omega) (by omega) ?_
  refine zz (j + 1) ⟨by omega, by omega⟩ (by omega)
 intro g2
 refine zE 5 [4] ?_
 refine zT 0 rfl ⟨b, nws F ((l.take k).flatMap hd ++ (hd l[k]).take (j + 1)), rfl, rises_nws _ _, by omega, .inl ⟨by omega, by have := nws_sub (S := F) (X := ((l.take k).flatMap hd ++ (hd l[k]).take (j + 1))) (Y := l.flatMap hd) (fun x hx => pre_mem (by omega) hx); omega⟩, rfl, rfl⟩
theorem Spec.ents {P : Program} {f : FuncId} {args : Array Value} {Ps Ps' : List PA} {Os : List OA} {Q : Value → List PA → List OA → Prop} (s : Spec P f args Ps Os Q) (h : ∀ q, q ∈ Ps → Ent Ps' q) : Spec P f args Ps' Os Q :=
  ⟨s.fn, fun w hp ho hf hs a b c => s.calls w hp ho hf (hs.ents h) a b c⟩
def relR (p : Option Addr) (r : Option (List Fa)) : OA := ⟨fun hp h => match r with | none => p = none | some S => ∃ b, p = some ⟨b, 0, none⟩ ∧ (relO b S).p hp h, fun {hp hp' h} hl q => by
  cases r with
  | none => exact q
  | some S => obtain ⟨b, e, r⟩ := q; exact ⟨b, e, (relO b S).up hl r⟩⟩
section
variable {C : Ctx} {k : List It} {E : Env} {Ps : List PA} {Os : List OA}
theorem go_relR0 (g : Go C k E Ps (relR none none :: Os)) : Go C k E Ps Os := fun a w hp ho hf hs hb => g a w hp ho hf ⟨hs.inp, hs.ino, hs.dj, hs.ps, Heap.nil, ho, Heap.nil_le _, Heap.le_refl _, Heap.nil_dj _, rfl, hs.os⟩ hb
theorem go_relR1 {b : Nat} {S : List Fa} {rr : List OA} (h : Rem (relO b S) Os rr) (g : Go C k E Ps (relR (some ⟨b, 0, none⟩) (some S) :: rr)) : Go C k E Ps Os := go_imp _ [relR (some ⟨b, 0, none⟩) (some S)] h (fun _ _ q => sep_one ⟨b, rfl, q⟩) g
theorem go_relRs {p : Option Addr} {S : List Fa} {rr : List OA} (h : Rem (relR p (some S)) Os rr) (g : ∀ b, p = some ⟨b, 0, none⟩ → Go C k E Ps (relO b S :: rr)) : Go C k E Ps Os := fun a w hp ho hf hs hb => by
  obtain ⟨g1, g2, i, b, d, ⟨b', e, q⟩, sp⟩ := Sep.rem h hs.os
  exact g b' e a w hp ho hf ⟨hs.inp, hs.ino, hs.dj, hs.ps, g1, g2, i, b, d, q, sp⟩ hb
end
theorem Rq_len (l : List Cl) (N : List Fa) : ∀ k, (Rq l N k).length ≤ (Sq l N k).length
  | 0 => by simp [Rq]
  | k + 1 => by rw [Sq_len]; show (nx l N (Sq l N k)).length ≤ _; omega
def lkF (b6 b4 bg : Nat) : Nat → Value
  | 0 => .func (.func 50) #[] #[.pointer (some ⟨b6, 0, none⟩), .pointer (some ⟨b4, 0, none⟩)]
  | _ + 1 => .func (.func 53) #[] #[.pointer (some ⟨b6, 0, none⟩), .pointer (some ⟨bg, 0, none⟩), .pointer (some ⟨b4, 0, none⟩)]
def lkP (b4 : Nat) (pn : Option Addr) (N : List Fa) (bg bf : Nat) (R : List Fa) : Nat → PA
  | 0 => PA.all [cl b4 0 [.pointer pn], relN pn N]
  | _ + 1 => PA.all [cl bg 0 [.pointer (some ⟨bf, 0, none⟩)], relN (some ⟨bf, 0, none⟩) R, cl b4 0 [.pointer pn], relN pn N]
theorem lk_js {l : List Cl} {N : List Fa} {most : Int} (hl : ∀ c ∈ l, c.ok) (hN : ∀ x ∈ N, x.ok ∧ x.a.length ≤ 100000) (hr : rises N) (hm : most ≤ 100000) (hbig : ∀ c ∈ l, ∀ (F R : List Fa) (new : Bool), (F.length : Int) ≤ most → (goL c F R N c.b ch0 new).length ≤ 50000000) (hNl : (N.length : Int) ≤ most) {k : Nat} (hk : ((Sq l N k).length : Int) ≤ most) : JoinS (Sq l N k) (Rq l N k) N :=
  ⟨by omega, fun x hx => (Sq_ok hl hN k x hx).2, fun x hx => (Sq_ok hl hN k x hx).1, (by cases k with
    | zero => exact rises_nil
    | succ k => exact rises_nws _ _), by have := Rq_len l N k; omega, hr, by omega⟩
theorem roundNews (l : List Cl) (LA : Option Addr) (lc : Nat) (b6 b4 ba bg bf : Nat) (pn : Option Addr) (N : List Fa) (most : Int) (hl : ∀ c ∈ l, c.ok) (hN : ∀ x ∈ N, x.ok ∧ x.a.length ≤ 100000) (hr : rises N) (hm : most ≤ 100000) (hbig : ∀ c ∈ l, ∀ (F R : List Fa) (new : Bool), (F.length : Int) ≤ most → (goL c F R N c.b ch0 new).length ≤ 50000000) (hNl : (N.length : Int) ≤ most) : ∀ (k : Nat) (hk : ((Sq l N k).length : Int) ≤ most),
    Spec Tryz.prog 52 #[.agg #[.slice LA l.length lc, .pointer (some ⟨ba, 0, none⟩), lkF b6 b4 bg k], .int .i64 most] [sl tCl LA lc l, lkP b4 pn N bg bf (Rq l N k) k] [pt b6 61 [.pointer (some ⟨ba, 0, none⟩)], relO ba (Sq l N k)] (fun v Ps' Os' => ∃ b R, v = .pointer (some ⟨b, 0, none⟩) ∧ rises R ∧ R.length ≤ 100001 ∧ ((most < (((Sq l N k).length + R.length : Nat) : Int) ∧ most < ((Sq l N (k + 1)).length : Int)) ∨ (R = nx l N (Sq l N k) ∧ (((Sq l N k).length + R.length : Nat) : Int) ≤ most)) ∧ Ps' = [] ∧ Os' = [pt b6 61 [.pointer (some ⟨ba, 0, none⟩)], relO ba (Sq l N k), relO b R])
  | 0, hk => (fixNews l LA lc b6 ba (Sq l N 0) 50 #[.pointer (some ⟨b6, 0, none⟩), .pointer (some ⟨b4, 0, none⟩)] _ (askH l N 0) most (fun c hc CA cc CB cd => (least1 c CA cc CB cd b6 b4 ba pn (Sq l N 0) N (lk_js hl hN hr hm hbig hNl (k := 0) hk) (hl c hc) (hbig c hc _ _ _ hk)).ents (fun q hq => by
      simp only [List.mem_cons, List.not_mem_nil, or_false] at hq
      first
      | (rcases hq with rfl | rfl | rfl | rfl)
      | (rcases hq with rfl | rfl | rfl | rfl | rfl | rfl)
      all_goals intro h a; first | exact a _ (.head _) | exact a _ (.tail _ (.head _)) | exact a _ (.tail _ (.tail _ (.head _))) _ (by simp))) (rises_Sq hr 0) hm hk (fun c hc x hx => by have := (heads_ok (hl c hc) (fun y hy => (Sq_ok hl hN 0 y hy).1) hx).2; omega)).imp fun v P' O' ⟨b, R, h1, h2, h0, h3, h4, h5⟩ => ⟨b, R, h1, h2, h0, by rw [ask_news hl] at h3; rw [Sq_len]; exact h3, h4, h5⟩
  | k + 1, hk => (fixNews l LA lc b6 ba (Sq l N (k + 1)) 53 #[.pointer (some ⟨b6, 0, none⟩), .pointer (some ⟨bg, 0, none⟩), .pointer (some ⟨b4, 0, none⟩)] _ (askH l N (k + 1)) most (fun c hc CA cc CB cd => (least2 c CA cc CB cd b6 bg b4 ba (some ⟨bf, 0, none⟩) pn (Sq l N (k + 1)) (Rq l N (k + 1)) N (lk_js hl hN hr hm hbig hNl hk) (hl c hc) (hbig c hc _ _ _ hk)).ents (fun q hq => by
      simp only [List.mem_cons, List.not_mem_nil, or_false] at hq
      first
      | (rcases hq with rfl | rfl | rfl | rfl)
      | (rcases hq with rfl | rfl | rfl | rfl | rfl | rfl)
      all_goals intro h a; first | exact a _ (.head _) | exact a _ (.tail _ (.head _)) | exact a _ (.tail _ (.tail _ (.head _))) _ (by simp))) (rises_Sq hr (k + 1)) hm hk (fun c hc x hx => by have := (heads_ok (hl c hc) (fun y hy => (Sq_ok hl hN (k + 1) y hy).1) hx).2; omega)).imp fun v P' O' ⟨b, R, h1, h2, h0, h3, h4, h5⟩ => ⟨b, R, h1, h2, h0, by rw [ask_news hl] at h3; rw [show (Sq l N (k + 1 + 1)).length = _ from Sq_len l N (k + 1)]; exact h3, h4, h5⟩
set_option maxHeartbeats 4000000 in
theorem fixLeast (l : List Cl) (LA : Option Addr) (lc : Nat) (pn : Option Addr) (N : List Fa) (most : Int) (hl : ∀ c ∈ l, c.ok) (hN : ∀ x ∈ N, x.ok ∧ x.a.length ≤ 100000) (hr : rises N) (hm : most ≤ 100000) (hbig : ∀ c ∈ l, ∀ (F R : List Fa) (new : Bool), (F.length : Int) ≤ most → (goL c F R N c.b ch0 new).length ≤ 50000000) (hNl : N.length ≤ 100000) :
    Spec Tryz.prog 29 #[.slice LA l.length lc, .pointer pn, .int .i64 most] [sl tCl LA lc l, relN pn N] [] (fun v Ps' Os' => ∃ r n e p, LeastR l N most r n e ∧ v = .tuple #[.pointer p, .int .i64 ((n : Nat) : Int), .int .i64 e] ∧ Ps' = [] ∧ Os' = [relR p r]) := by
 refine zSp [.slice LA l.length lc, .pointer pn, .int .i64 most] Tryz.func29 Tryz.ntmps29 (fun w0 hp0 hf0 => ?_)
 refine zX 2 ?_
 intro b4
 refine go_freeze_pt (b := b4) zM ?_
 refine zW 0 ?_
 intro b6
 refine zG 9 15 ?_ ?_
 ·intro g1
  (try simp only [dcs, ne_eq] at g1)
  refine zDt 5 ?_
  refine zR 1 ?_
  refine go_relR0 ?_
  refine zS 1 ?_
  refine zR 3 ?_
  refine go_ret ⟨rfl, rfl⟩ _ _ (res3 (by rfl) (.cell rfl (rdv Tk rfl)) (.tmp rfl) (.tmp rfl)) ⟨none, 0, 1, none, .arg (.inl g1), rfl, rfl, rfl⟩ zM zM
 intro g1
 (try simp only [dcs, ne_eq] at g1)
 refine zC3 1 (fixRight l LA lc) ?_
 refine zB 3 ?_ ?_
 ·intro g2
  (try simp only [dcs, ne_eq] at g2)
  refine zR 1 ?_
  refine go_relR0 ?_
  refine zS 1 ?_
  refine zR 3 ?_
  refine go_ret ⟨rfl, rfl⟩ _ _ (res3 (by rfl) (.cell rfl (rdv Tk rfl)) (.tmp rfl) (.tmp rfl)) ⟨none, 0, 1, none, .arg (.inr g2), rfl, rfl, rfl⟩ zM zM
 intro g2
 (try simp only [dcs, ne_eq] at g2)
 refine zR 2 ?_
 refine go_ent (relN none []) (fun _ _ => relN_nil) ?_
 have g1' : 0 ≤ most := by omega
 refine zL 1 ?_
 refine zC 0 (relLessN pn N none [] rises_nil (by simp) (by omega) (fun x hx => (hN x hx).2)) ?_
 rintro _ _ _ ⟨ba, rfl, rfl, rfl⟩
 refine go_relD (b := ba) zM ?_
 refine go_same (A := relO ba _) (B := relO ba (Sq l N 0)) zM (by rw [less_nil]; rfl) ?_
 refine zS 0 ?_
 refine zL 4 ?_
 refine zC3 0 (relLen ba (Sq l N 0)) ?_
 refine zE 3 [0, 2, 4, 6, 7, 25] ?_
 refine zD 0 ?_ ?_
 ·intro g3
  refine zR 1 ?_
  refine go_relR0 ?_
  refine zS 1 ?_
  refine zR 3 ?_
  refine go_ret ⟨rfl, rfl⟩ _ _ (res3 (by rfl) (.cell rfl (rdv Tk rfl)) (.tmp rfl) (.tmp rfl)) ⟨none, 0, 6, none, .many 0 g1' g2 (by omega), rfl, rfl, rfl⟩ zM zM
 intro g3
 refine zL 4 ?_
 refine zq 1 ?_
 refine zW 0 ?_
 intro b9
 refine zS 0 ?_
 refine zR 1 ?_
 refine go_mkall [cl b4 0 [.pointer pn], relN pn N] zM ?_
 have hSN : ((Sq l N 0).length : Int) ≤ most := by omega
 have hNm : (N.length : Int) ≤ most := hSN
 refine zR 1 ?_
 refine go_loop (X := Nat × Nat × Nat) (fun x => [(7, .int .i64 (x.1 : Int))]) [(2, _), (4, _), (6, _), (9, _)] (fun x => [sl tCl LA lc l, lkP b4 pn N x.2.1 x.2.2 (Rq l N x.1) x.1, cl b4 0 [.pointer pn], relN pn N]) (fun x => [pt b6 61 [.pointer (some ⟨ba, 0, none⟩)], relO ba (Sq l N x.1), pt b9 104 [.slice LA l.length lc, .pointer (some ⟨ba, 0, none⟩), lkF b6 b4 x.2.1 x.1]]) (fun x => ((Sq l N x.1).length : Int) ≤ most ∧ x.1 ≤ (Sq l N x.1).length ∧ ∀ j < x.1, ¬ nx l N (Sq l N j) = []) (fun x => most.toNat + 1 - x.1) ((0, 0, 0)) zA zM zM ⟨hSN, by omega, by omega⟩ ?_
 intro ⟨k, bg0, bf0⟩ ⟨hk, hkl, hkn⟩
 simp only at hk hkl hkn ⊢
 refine zR 5 ?_
 refine go_i64 31 rfl (by omega) (by omega) ?_
 refine go_re 31 (.int .i64 ((k + 1 : Nat) : Int)) (by rfl) ?_
 refine zL 4 ?_
 refine zC 1 (roundNews l LA lc b6 b4 ba bg0 bf0 pn N most hl hN hr hm hbig hNm k hk) ?_
 rintro _ _ _ ⟨bf, R, rfl, hRr, hRl, hca, rfl, rfl⟩
 refine zW 0 ?_
 intro bg
 refine zS 0 ?_
 refine zR 3 ?_
 refine go_draw ([]) ([pt b6 61 [.pointer (some ⟨ba, 0, none⟩)], pt bg 61 [.pointer (some ⟨bf, 0, none⟩)]]) [0, 2] (SL.pre [(1, 5), (2, 0), (2, 2), (0, 1), (0, 3), (1, 4), (1, 6)] .nil) mixed rfl (by kernel_rfl) ?_
 refine zK 1 ?_
 refine zK 0 ?_
 refine go_call (relLen ba (Sq l N k)) rfl rfl (by rfl) rfl zM zM (fun _ v Ps' Os' hq => by obtain ⟨rfl, rfl, rfl⟩ := hq; exact satS zM zM) ?_
 rintro _ _ _ ⟨rfl, rfl, rfl⟩
 refine zC3 0 (relLen bf R) ?_
 refine zR 1 ?_
 refine go_i64 39 rfl (by omega) (by omega) ?_
 refine zD 2 ?_ ?_
 ·intro g3
  refine zR 1 ?_
  refine go_relR0 ?_
  refine zS 1 ?_
  refine zE 3 [6, 7, 8] ?_
  refine go_ret ⟨rfl, rfl⟩ _ _ (res3 (by rfl) (.cell rfl (rdv Tk rfl)) (.tmp rfl) (.tmp rfl)) ⟨none, 0, 6, none, .many (k + 1) g1' g2 (hca.elim (fun q => q.2) (fun q => absurd q.2 (by omega))), rfl, rfl, rfl⟩ zM zM
 intro g3
 obtain ⟨rfl, hle⟩ := hca.resolve_left (fun q => by omega)
 refine zL 4 ?_
 refine zC3 0 (relLen bf (nx l N (Sq l N k))) ?_
 refine zE 2 [2, 4, 6, 7, 9, 10, 44] ?_
 refine zD 0 ?_ ?_
 ·intro g4
  have g5 : nx l N (Sq l N k) = [] := List.eq_nil_of_length_eq_zero (by omega)
  refine zR 1 ?_
  skip
  refine zL 1 ?_
  refine zS 1 ?_
  refine zR 3 ?_
  refine go_relR1 (b := ba) zM ?_
  refine go_ret ⟨rfl, rfl⟩ _ _ (res3 (by rfl) (.cell rfl (rdv Tk rfl)) (.tmp rfl) (.tmp rfl)) ⟨some (Sq l N k), k + 1, 0, _, .ok k g1' g2 hk hkn g5, rfl, rfl, rfl⟩ zM zM
 intro g4
 have g5 : ¬ nx l N (Sq l N k) = [] := fun q => g4 (by rw [q]; rfl)
 have hnl : 0 < (nx l N (Sq l N k)).length := List.length_pos_iff.2 g5
 refine zR 3 ?_
 refine go_freeze_pt (b := bg) zM ?_
 refine go_freeze_rel (b := bf) zM ?_
 refine go_ent (relN (some ⟨bf, 0, none⟩) (nx l N (Sq l N k))) (fun hh hps => relN_some (hps (relP bf (nx l N (Sq l N k))) zM)) ?_
 refine zL 1 ?_
 refine zC 0 (relListN (some ⟨bf, 0, none⟩) (nx l N (Sq l N k)) (by omega) (fun x hx => (Sq_ok hl hN (k + 1) x (mem_nextS.2 (.inr (mem_nws.1 hx).1))).2)) ?_
 rintro _ _ _ ⟨A9, k9, rfl, rfl, rfl⟩
 refine go_freeze_dl (T := tFa) (A := A9) (xs := nx l N (Sq l N k)) zM ?_
 refine go_len (xs := nx l N (Sq l N k)) zM (fun l9 m9 => ?_)
 refine go_same (A := relO ba (Sq l N k)) (B := relO ba (((nx l N (Sq l N k)).take (0)).foldl fput (Sq l N k))) zM rfl ?_
 refine zR 4 ?_
 refine zO (X := Nat) (fun j => [(50, .int .i64 (j : Int))]) [2, 4, 6, 7, 9, 10, 48, 49] (fun j => [pt b6 61 [.pointer (some ⟨ba, 0, none⟩)], relO ba (((nx l N (Sq l N k)).take (j)).foldl fput (Sq l N k))]) (fun j => j ≤ (nx l N (Sq l N k)).length) (fun j => (nx l N (Sq l N k)).length - j) 0 (by omega) ?_
 intro j hj
 have hcl := foldl_flen ((nx l N (Sq l N k)).take j) (Sq l N k)
 rw [List.length_take] at hcl
 refine zD' 5 ?_ ?_
 ·intro hq1
  refine zS 4 ?_
  refine zR 1 ?_
  refine go_same (A := relO ba _) (B := relO ba (Sq l N (k + 1))) zM (by rw [List.take_of_length_le (by omega)]; rfl) ?_
  refine zR 1 ?_
  refine go_mkall [cl bg 0 [.pointer (some ⟨bf, 0, none⟩)], relN (some ⟨bf, 0, none⟩) (nx l N (Sq l N k)), cl b4 0 [.pointer pn], relN pn N] zM ?_
  refine zz (k + 1, bg, bf) ⟨by show ((Sq l N (k + 1)).length : Int) ≤ most; rw [Sq_len]; exact hle, by show k + 1 ≤ _; rw [Sq_len]; omega, fun j' hj' => (Nat.lt_or_ge j' k).elim (hkn j') (fun q => by rw [show j' = k by have : j' < k + 1 := hj'; omega]; exact g5)⟩ (by show most.toNat + 1 - (k + 1) < most.toNat + 1 - k; omega)
 intro hq1
 refine zR 4 ?_
 refine go_elem_fa (xs := nx l N (Sq l N k)) zM (j) (List.getElem?_eq_getElem (by omega)) (fun b1 o1 A1 c1 hA => ?_); cases hA
 refine zI 1 ?_
 refine zL 0 ?_
 refine zW 0 ?_
 intro bV
 refine zS 0 ?_
 refine zR 1 ?_
 refine go_freeze_pt (b := bV) zM ?_
 refine zL 1 ?_
 refine zL 0 ?_
 refine zC3 0 (relPut ba (((nx l N (Sq l N k)).take (j)).foldl fput (Sq l N k)) (nx l N (Sq l N k))[j] A1 c1 (foldl_rises _ _ (rises_Sq hr k)) (by omega) (Sq_ok hl hN (k + 1) _ (mem_nextS.2 (.inr (mem_nws.1 (List.getElem_mem (show j < (nx l N (Sq l N k)).length by omega))).1))).2) ?_
 refine zR 6 ?_
 refine go_i64 50 rfl (by omega) (by omega) ?_
 refine go_same (B := relO ba (((nx l N (Sq l N k)).take (j + 1)).foldl fput (Sq l N k))) .here (by rw [List.take_succ_eq_append_getElem (show j < (nx l N (Sq l N k)).length by omega), List.foldl_append]; rfl) ?_
 refine zz (j + 1) (by omega) (by omega)
end Go.Proofs.YtpgnmfnckjnecaaGreat.SL
namespace Go.Proofs.YtpgnmfnckjnecaaGreat.SL
open Go Md
theorem modelLevels (l : List Cl) (LA : Option Addr) (lc : Nat) (ss : List (List Nat)) (SA : Option Addr) (sc : Nat) :
    Spec Tryz.prog 28 #[.slice LA l.length lc, .slice SA ss.length sc] [] [] (fun v Ps' Os' => ∃ bL bS, v = .func (.func 47) #[] #[.pointer (some ⟨bS, 0, none⟩), .pointer (some ⟨bL, 0, none⟩)] ∧ Ps' = [cl bL 0 [.slice LA l.length lc], cl bS 0 [.slice SA ss.length sc]] ∧ Os' = []) := by
 refine zSp [.slice LA l.length lc, .slice SA ss.length sc] Tryz.func28 Tryz.ntmps28 (fun w0 hp0 hf0 => ?_)
 refine zX 2 ?_
 intro bL
 refine zX 0 ?_
 intro bS
 refine go_freeze_pt (b := bL) zM ?_
 refine go_freeze_pt (b := bS) zM ?_
 refine zT 7 rfl ⟨bL, bS, rfl, rfl, rfl⟩
theorem levels1 (ly bL bS : Nat) (R St : List Lx → OA) (l : List Cl) (LA : Option Addr) (lc : Nat) (ss : List (List Nat)) (SA : Option Addr) (sc : Nat) (hY : YldS Tryz.prog ly encL (pxL (ss.map (clausesAt l))) R St) (hss : ∀ p ∈ ss, p.length ≤ 400 ∧ ∀ u ∈ p, u < l.length) (hsl : ss.length ≤ 4001) :
    Spec Tryz.prog 47 #[.func (.yield ly) #[] #[], .pointer (some ⟨bS, 0, none⟩), .pointer (some ⟨bL, 0, none⟩)] [cl bL 0 [.slice LA l.length lc], cl bS 0 [.slice SA ss.length sc], sl tCl LA lc l, sl (tSl (tInt .i64)) SA sc (ss.map cs)] [R []] (fun v Ps' Os' => Ps' = [] ∧ ((∃ xs : List Lx, xs.map (·.1) = (ss.map (clausesAt l)) ∧ Os' = [R xs]) ∨ (∃ xs : List Lx, True ∧ Os' = [St xs]))) := by
 refine zSp [.func (.yield ly) #[] #[], .pointer (some ⟨bS, 0, none⟩), .pointer (some ⟨bL, 0, none⟩)] Tryz.func47 Tryz.ntmps47 (fun w0 hp0 hf0 => ?_)
 refine zR 1 ?_
 refine go_len (xs := ss.map cs) zM (fun l0 m0 => ?_)
 rw [List.length_map] at l0
 refine go_len (xs := l) zM (fun l1 m1 => ?_)
 refine zL 1 ?_
 refine zR 4 ?_
 refine zO (X := Nat × List Lx) (fun x => [(11, .int .i64 (x.1 : Int))]) [0, 2, 9, 10] (fun x => [R x.2]) (fun x => x.1 ≤ ss.length ∧ x.2.map (·.1) = (ss.take x.1).map (clausesAt l)) (fun x => ss.length - x.1) (0, []) ⟨Nat.zero_le _, rfl⟩ ?_
 intro ⟨k, D⟩ ⟨hk, hD⟩
 simp only at hk hD ⊢
 have hDl : D.length = k := by have := congrArg List.length hD; rw [List.length_map, List.length_map, List.length_take] at this; omega
 refine zD' 5 ?_ ?_
 ·intro hq1
  refine zT 1 rfl ⟨rfl, .inl ⟨D, by rw [List.take_of_length_le (by omega)] at hD; exact hD, rfl⟩⟩
 intro hq1
 refine zR 4 ?_
 obtain ⟨p, hpk⟩ : ∃ p, ss[k]? = some p := ⟨_, List.getElem?_eq_getElem (by omega)⟩
 have hpk' : ss[k]'(by omega) = p := (List.getElem?_eq_some_iff.1 hpk).2
 have hpm := hss p (List.mem_of_getElem? hpk)
 have hcp := cs_len p
 refine go_elem_row (T := tInt .i64) (xss := ss.map cs) zM k (xs := cs p) (by rw [List.getElem?_map, hpk]; rfl) (fun b1 o1 A5 c5 hA1 => ?_); cases hA1
 refine go_len (xs := cs p) zM (fun lp mp => ?_)
 refine zI 1 ?_
 refine zL 0 ?_
 refine zR 8 ?_
 refine go_own_nil tCl 36 none ?_
 refine zR 6 ?_
 refine zO (X := Nat × Option Addr × Nat) (fun x => [(6, .slice x.2.1 (clausesAt l (p.take x.1)).length x.2.2), (17, .int .i64 (x.1 : Int))]) [0, 2, 9, 10, 11, 15, 16] (fun x => [ol tCl 36 x.2.1 x.2.2 (clausesAt l (p.take x.1))]) (fun x => x.1 ≤ p.length) (fun x => p.length - x.1) (0, none, 0) (Nat.zero_le _) ?_
 intro ⟨j, A3, c3⟩ hj
 simp only at hj ⊢
 have hcl := clausesAt_len (l := l) (is := p.take j) (fun u hu => hpm.2 u (List.mem_of_mem_take hu))
 rw [List.length_take] at hcl
 refine zD' 5 ?_ ?_
 ·intro hq2
  refine zR 2 ?_
  rw [List.take_of_length_le (show p.length ≤ j by omega)]
  refine go_freeze_ol (xs := clausesAt l p) zM ?_
  refine go_ent (PA.and ((ss.map (clausesAt l))[D.length]? = some (clausesAt l p)) (sl tCl A3 c3 (clausesAt l p))) (fun hh a => ⟨by rw [hDl, List.getElem?_map, hpk]; rfl, a _ zM⟩) ?_
  refine go_regionY [false, false, true] rfl ?_
  refine zR 2 ?_
  refine go_yield2 hY (D) ((clausesAt l p, A3, c3)) rfl rfl rfl rfl rfl zM zM ?_ ?_
  ·skip
   refine zDf 2 ?_
   refine zR 6 ?_
   refine go_i64n 11 (k + 1) rfl ?_
   refine go_back (k + 1, _) zA zM zM (⟨by show k + 1 ≤ _; omega, by show List.map _ (D ++ [_]) = _; rw [List.map_append, hD, List.take_succ_eq_append_getElem (show k < ss.length by omega), List.map_append, hpk']; rfl⟩) (by show _ - (k + 1) < _ - k; omega)
  ·skip
   refine zDt 2 ?_
   refine zT 0 rfl ⟨rfl, .inr ⟨_, trivial, rfl⟩⟩
 intro hq2
 refine zR 4 ?_
 obtain ⟨u, hpu⟩ : ∃ u, p[j]? = some u := ⟨_, List.getElem?_eq_getElem (by omega)⟩
 have hpu' : p[j]'(by omega) = u := (List.getElem?_eq_some_iff.1 hpu).2
 have hun := hpm.2 u (List.mem_of_getElem? hpu)
 have hnx : clausesAt l (p.take j) ++ [l[u]] = clausesAt l (p.take (j + 1)) := by rw [List.take_succ_eq_append_getElem (show j < p.length by omega), hpu', clausesAt_snoc hun]
 refine go_elem_int (xs := cs p) zM j (cs_get hpu) (fun b2 o2 hA2 => ?_); cases hA2
 refine zI 1 ?_
 refine zL 0 ?_
 refine zR 2 ?_
 refine go_elem_cl (xs := l) zM (u) (List.getElem?_eq_getElem (by omega)) (fun b3 o3 A6 c6 B6 d6 hA => ?_); cases hA
 refine zL 2 ?_
 refine zI 1 ?_
 refine zL 0 ?_
 refine zV 0 ?_
 intro b1
 refine go_append1 (T := tCl) (xs := clausesAt l (p.take j)) Tk (l[u]) rfl rfl rfl rfl rfl rfl rfl rfl rfl zM zM rfl (ent_cl zM zM) (by omega) zH ?_
 intro A4 c4
 refine zR 7 ?_
 refine go_i64n 17 (j + 1) rfl ?_
 rw [hnx]
 refine zz (j + 1, A4, c4) (by show j + 1 ≤ _; omega) (by show _ - (j + 1) < _ - j; omega)
def modO (b12 b9 b6 b7 : Nat) (st : List (List Cl)) (most : Int) (N : List Fa) (D : List Lx) : OA := OA.ex fun x : Option Addr × List Fa => OA.and (Upto st most N D.length x.2) (OA.all [pt b12 61 [.pointer x.1], relR x.1 (some x.2), pt b9 26 [.int .i64 0], pt b6 23 [.slice none 0 0], pt b7 26 [.int .i64 0]])
def modX (b6 b7 : Nat) (st : List (List Cl)) (most : Int) (N : List Fa) : OA := OA.ex fun e : Int => OA.and (∃ k A, ∃ hk : k < st.length, Upto st most N k A ∧ Stg st[k] A most none e) (OA.all [pt b6 23 [.slice none 0 0], pt b7 26 [.int .i64 e]])
theorem go_mod {C : Ctx} {k : List It} {E : Env} {Ps : List PA} {Os : List OA} {b12 b9 b6 b7 : Nat} {st : List (List Cl)} {most : Int} {N : List Fa} {D : List Lx} {rr : List OA} (h : Rem (modO b12 b9 b6 b7 st most N D) Os rr) (g : ∀ p M, Upto st most N D.length M → Go C k E Ps ([pt b12 61 [.pointer p], relR p (some M), pt b9 26 [.int .i64 0], pt b6 23 [.slice none 0 0], pt b7 26 [.int .i64 0]] ++ rr)) : Go C k E Ps Os :=
  go_oex h fun x => go_oand .here fun hm => go_oall .here (g x.1 x.2 hm)
theorem go_modX {C : Ctx} {k : List It} {E : Env} {Ps : List PA} {Os : List OA} {b6 b7 : Nat} {st : List (List Cl)} {most : Int} {N : List Fa} {rr : List OA} (h : Rem (modX b6 b7 st most N) Os rr) (g : ∀ e k' A, ∀ hk : k' < st.length, Upto st most N k' A → Stg st[k'] A most none e → Go C k E Ps ([pt b6 23 [.slice none 0 0], pt b7 26 [.int .i64 e]] ++ rr)) : Go C k E Ps Os :=
  go_oex h fun e => go_oand .here fun ⟨k', A, hk, h1, h2⟩ => go_oall .here (g e k' A hk h1 h2)
set_option maxHeartbeats 8000000 in
theorem modelOf (l : List Cl) (LA : Option Addr) (lc : Nat) (fs : List Fa) (FA : Option Addr) (fc : Nat) (most : Int) (hl : ∀ c ∈ l, c.ok) (hF : ∀ x ∈ fs, x.ok ∧ x.a.length ≤ 100000) (hfl : fs.length ≤ 100000) (hm : most ≤ 100000) (hbig : ∀ c ∈ l, ∀ (F R N : List Fa) (new : Bool), (F.length : Int) ≤ most → (goL c F R N c.b ch0 new).length ≤ 50000000) :
    Spec Tryz.prog 10 #[.slice LA l.length lc, .slice FA fs.length fc, .int .i64 most] [sl tCl LA lc l, sl tFa FA fc fs] [] (fun v Ps' Os' => ∃ A c r e, ModA l fs most r e ∧ v = .tuple #[.slice A (r.getD []).length c, .int .i64 e] ∧ Ps' = [sl tFa A c (r.getD [])] ∧ Os' = []) := by
 refine zSp [.slice LA l.length lc, .slice FA fs.length fc, .int .i64 most] Tryz.func10 Tryz.ntmps10 (fun w0 hp0 hf0 => ?_)
 refine zX 2 ?_
 intro b5
 refine go_freeze_pt (b := b5) zM ?_
 refine zW 0 ?_
 intro b6
 refine zW 0 ?_
 intro b7
 refine zL 4 ?_
 refine zD 2 ?_ ?_
 ·intro g1
  refine go_sl_nil tFa ?_
  refine zS 2 ?_
  refine zS 0 ?_
  refine zR 1 ?_
  refine go_ret ⟨rfl, rfl⟩ _ _ (res2 (by rfl) (.cell rfl (rdv Tk rfl)) (.cell rfl (rdv Tk rfl))) ⟨none, 0, none, 1, .arg g1, rfl, rfl, rfl⟩ zM zM
 intro g1
 have g1' : 0 ≤ most := by omega
 refine zC 4 (stratStrata l LA lc) ?_
 rintro _ _ _ ⟨SA, sc, ss, e, hS, rfl, rfl, rfl⟩
 refine zW 3 ?_
 intro b9
 refine zS 1 ?_
 refine zL 4 ?_
 refine zN 2 ?_ ?_
 ·intro g2
  refine go_sl_nil tFa ?_
  refine zR 1 ?_
  refine go_draw ([]) ([pt b9 26 [.int .i64 e], pt b6 23 [.slice none 0 0], pt b7 26 [.int .i64 0]]) [0] (SL.pre [(2, 0), (0, 1), (0, 2)] .nil) mixed rfl (by kernel_rfl) ?_
  refine zK 0 ?_
  refine go_store Tk rfl rfl rfl rfl rfl rfl zM rfl rfl (by rfl) (fun _ => satA) ?_
  refine zS 0 ?_
  refine zE 1 [6, 7] ?_
  refine go_ret ⟨rfl, rfl⟩ _ _ (res2 (by rfl) (.cell rfl (rdv Tk rfl)) (.cell rfl (rdv Tk rfl))) ⟨none, 0, none, e, .strat g1' hS g2, rfl, rfl, rfl⟩ zM zM
 intro g2
 subst g2
 obtain ⟨hr, hsl, hss⟩ := hS.zero rfl
 refine zC 6 (safeArities l LA lc fs FA fc hr) ?_
 rintro _ _ _ ⟨i1, e1, rfl, hA, rfl, rfl⟩
 refine zE 6 [0, 1, 5, 6, 7, 8, 9, 11] ?_
 refine zN 5 ?_ ?_
 ·intro g3
  obtain ⟨rfl, hA'⟩ := hA.resolve_left (fun q => g3 q.1)
  refine go_sl_nil tFa ?_
  refine zS 3 ?_
  refine zS 0 ?_
  refine zR 1 ?_
  refine go_ret ⟨rfl, rfl⟩ _ _ (res2 (by rfl) (.cell rfl (rdv Tk rfl)) (.cell rfl (rdv Tk rfl))) ⟨none, 0, none, 9, .ari g1' hS hA', rfl, rfl, rfl⟩ zM zM
 intro g3
 have hA' := (hA.resolve_right (fun q => by have := q.1; omega)).2
 refine zC 4 (relOf FA fc fs (by omega) (fun x hx => (hF x hx).2)) ?_
 rintro _ _ _ ⟨ba, rfl, rfl, rfl⟩
 refine zW 0 ?_
 intro b12
 refine zS 0 ?_
 refine zR 3 ?_
 refine go_draw ([cl b5 0 [.int .i64 most]]) ([pt b12 61 [.pointer (some ⟨ba, 0, none⟩)], relO ba (fof fs)]) [0, 2] (SL.pre [(2, 0), (2, 2), (0, 1), (1, 3)] .nil) mixed rfl (by kernel_rfl) ?_
 refine zK 0 ?_
 refine zK 0 ?_
 refine go_call (relLen ba (fof fs)) rfl rfl (by rfl) rfl zM zM (fun _ v Ps' Os' hq => by obtain ⟨rfl, rfl, rfl⟩ := hq; exact satS zM zM) ?_
 rintro _ _ _ ⟨rfl, rfl, rfl⟩
 refine zD 2 ?_ ?_
 ·intro g4
  refine go_sl_nil tFa ?_
  refine zS 2 ?_
  refine zS 0 ?_
  refine zE 1 [6, 7] ?_
  refine go_ret ⟨rfl, rfl⟩ _ _ (res2 (by rfl) (.cell rfl (rdv Tk rfl)) (.cell rfl (rdv Tk rfl))) ⟨none, 0, none, 6, .run g1' hS hA' (.big (by omega)), rfl, rfl, rfl⟩ zM zM
 intro g4
 have hfN : ((fof fs).length : Int) ≤ most := by omega
 have hNf : ∀ x ∈ fof fs, x.ok ∧ x.a.length ≤ 100000 := fun x hx => hF x (mem_fof.1 hx)
 have hst : ∀ s ∈ (ss.map (clausesAt l)), ∀ c ∈ s, c.ok := fun s hs c hc => hl c (st_mem s hs c hc)
 refine zC 6 (modelLevels l LA lc ss SA sc) ?_
 rintro _ _ _ ⟨bL, bS, rfl, rfl, rfl⟩
 refine go_relR1 (b := ba) zM ?_
 refine go_fold [pt b12 61 [.pointer (some ⟨ba, 0, none⟩)], relR (some ⟨ba, 0, none⟩) (some (fof fs)), pt b9 26 [.int .i64 0], pt b6 23 [.slice none 0 0], pt b7 26 [.int .i64 0]] (modO b12 b9 b6 b7 (ss.map (clausesAt l)) most (fof fs) []) zM (fun _ _ q => ⟨(some ⟨ba, 0, none⟩, fof fs), .zero, q⟩) ?_
 refine zE 1 [5, 6, 7, 9, 12, 41] ?_
 refine zR 1 ?_
 refine go_rangeS (α := Lx) (enc := encL) (Px := (pxL (ss.map (clausesAt l)))) rfl rfl rfl (fun D => [modO b12 b9 b6 b7 (ss.map (clausesAt l)) most (fof fs) D]) (fun D => [modX b6 b7 (ss.map (clausesAt l)) most (fof fs)]) ([]) ([]) zM zM ([cl bL 0 [.slice LA l.length lc], cl bS 0 [.slice SA ss.length sc], sl tCl LA lc l, sl (tSl (tInt .i64)) SA sc (ss.map cs)]) zM (fun ys => ys.map (·.1) = (ss.map (clausesAt l))) (fun ys => True) (fun ly R St hY => (levels1 ly bL bS R St l LA lc ss SA sc hY hss hsl)) (X := Lx) (fun y => [(13, .slice y.2.1 y.1.length y.2.2)]) [(5, .pointer (some ⟨b5, 0, none⟩)), (6, .pointer (some ⟨b6, 0, none⟩)), (7, .pointer (some ⟨b7, 0, none⟩)), (9, .pointer (some ⟨b9, 0, none⟩)), (12, .pointer (some ⟨b12, 0, none⟩))] (fun pre x y => [modO b12 b9 b6 b7 (ss.map (clausesAt l)) most (fof fs) pre]) (fun _ x y => y = x) (fun ly pre x w0' hp0' hf0' => ?_) (fun ly pre x y hyx w0' hp0' hf0' => ?_) (fun D ys hdj1 hys => ?_) (fun D ys hdj1 hys => ?_)
 ·skip
  refine zR 3 ?_
  refine zz x rfl (by decide)
 ·skip
  subst hyx
  refine go_pand (fun hxa => ?_)
  obtain ⟨hk, hst1⟩ := List.getElem?_eq_some_iff.1 hxa
  have hxm : y.1 ∈ (ss.map (clausesAt l)) := List.mem_of_getElem? hxa
  refine go_mod zM (fun p M hU => ?_)
  refine go_relRs zM (fun bq hA => ?_); subst hA
  refine go_freeze_rel (b := bq) zM ?_
  refine go_ent (relN (some ⟨bq, 0, none⟩) (M)) (fun hh hps => relN_some (hps (relP bq (M)) zM)) ?_
  have hMl := hU.len hfN
  refine zL 4 ?_
  refine zL 0 ?_
  refine zC 0 (fixLeast y.1 y.2.1 y.2.2 (some ⟨bq, 0, none⟩) M most (fun c hc => hst _ hxm c hc) (hU.fine hst hNf) (hU.rises (rises_fof _)) hm (fun c hc F R new h => hbig c (st_mem _ hxm c hc) F R M new h) (by omega)) ?_
  rintro _ _ _ ⟨r2, n2, e2, p2, hL2, rfl, rfl, rfl⟩
  refine zS 4 ?_
  refine zS 0 ?_
  refine zL 3 ?_
  refine zE 2 [6, 7, 9, 52] ?_
  refine zN' 0 ?_ ?_
  ·intro g5
   obtain ⟨B, rfl⟩ := hL2.good g5
   subst g5
   have hS2 := stg_least hL2
   refine zR 2 ?_
   refine go_fold [pt b12 61 [.pointer p2], relR p2 (some B), pt b9 26 [.int .i64 0], pt b6 23 [.slice none 0 0], pt b7 26 [.int .i64 0]] (modO b12 b9 b6 b7 (ss.map (clausesAt l)) most (fof fs) (pre ++ [y])) zM (fun _ _ q => ⟨(p2, B), by show Upto _ _ _ (pre ++ [y]).length B; rw [List.length_append]; exact .succ hU hk (hst1 ▸ hS2), q⟩) ?_
   refine go_back () trivial zM zM trivial (by decide)
  intro g5
  obtain rfl := hL2.bad g5
  have hS2 := stg_least hL2
  refine zR 1 ?_
  refine go_draw ([]) ([pt b9 26 [.int .i64 e2], pt b6 23 [.slice none 0 0], pt b7 26 [.int .i64 0]]) [0] (SL.pre [(2, 0), (0, 1), (0, 2)] .nil) mixed rfl (by kernel_rfl) ?_
  refine zK 0 ?_
  refine go_store Tk rfl rfl rfl rfl rfl rfl zM rfl rfl (by rfl) (fun _ => satA) ?_
  refine zS 0 ?_
  refine zR 1 ?_
  refine go_fold [pt b6 23 [.slice none 0 0], pt b7 26 [.int .i64 e2]] (modX b6 b7 (ss.map (clausesAt l)) most (fof fs)) zM (fun _ _ q => ⟨e2, ⟨pre.length, M, hk, hU, hst1 ▸ hS2⟩, q⟩) ?_
  refine go_stop zM
 ·skip
  refine go_mod zM (fun p M hU => ?_)
  have hyl : ys.length = (ss.map (clausesAt l)).length := by rw [← hys, List.length_map]
  rw [hyl] at hU
  have hMl := hU.len hfN
  refine go_relRs zM (fun bq hA => ?_); subst hA
  refine go_freeze_rel (b := bq) zM ?_
  refine go_ent (relN (some ⟨bq, 0, none⟩) (M)) (fun hh hps => relN_some (hps (relP bq (M)) zM)) ?_
  refine zL 3 ?_
  refine zC 0 (relListN (some ⟨bq, 0, none⟩) M (by omega) (fun x hx => (hU.fine hst hNf x hx).2)) ?_
  rintro _ _ _ ⟨A9, k9, rfl, rfl, rfl⟩
  refine go_freeze_dl (T := tFa) (A := A9) zM ?_
  refine zS 0 ?_
  refine zS 0 ?_
  refine zR 1 ?_
  refine go_retN (.mark .base hdj1) ⟨rfl, rfl⟩ _ _ (res2 (by rfl) (.cell rfl (rdv Tk rfl)) (.cell rfl (rdv Tk rfl))) ⟨A9, k9, some M, 0, .run g1' hS hA' (.ok hfN hU), rfl, rfl, rfl⟩ zM zM
 ·skip
  refine go_modX zM (fun e2 k2 A2 hk2 hU2 hS2 => ?_)
  refine go_sl_nil tFa ?_
  refine go_retN (.mark .base hdj1) ⟨rfl, rfl⟩ _ _ (res2 (by rfl) (.cell rfl (rdv Tk rfl)) (.cell rfl (rdv Tk rfl))) ⟨none, 0, none, e2, .run g1' hS hA' (.bad hfN hU2 hk2 hS2), rfl, rfl, rfl⟩ zM zM
end Go.Proofs.YtpgnmfnckjnecaaGreat.SL
namespace Go.Proofs.YtpgnmfnckjnecaaGreat.SL
open Go
theorem ok_am (p : Int) (l : List Tm) (h : (decide (0 ≤ p ∧ p < 4294967296) && l.all fun t => decide (0 ≤ t.n ∧ t.n < 4294967296)) = true) : (⟨p, l⟩ : Am).ok := by
  simp only [Bool.and_eq_true, decide_eq_true_eq, List.all_eq_true] at h
  exact ⟨h.1, fun t ht => h.2 t ht⟩
theorem ok_fa (p : Int) (l : List Int) (h : (decide (0 ≤ p ∧ p < 4294967296) && l.all fun t => decide (0 ≤ t ∧ t < 4294967296)) = true) : (⟨p, l⟩ : Fa).ok := by
  simp only [Bool.and_eq_true, decide_eq_true_eq, List.all_eq_true] at h
  exact ⟨h.1, fun t ht => h.2 t ht⟩
abbrev few14P (l : List Cl) (a : List Fa) : Prop := l.length ≤ 20 ∧ a.length ≤ 30 ∧ few11 l a = true ∧ ∀ c ∈ l, smallC c 60 = true
def few14 (l : List Cl) (a : List Fa) : Bool := decide (few14P l a)
theorem few14_no {l : List Cl} {a : List Fa} (h : ¬ few14P l a) : few14 l a = false := decide_eq_false h
theorem few14_yes {l : List Cl} {a : List Fa} (h : few14P l a) : few14 l a = true := decide_eq_true h
theorem few14_of {l : List Cl} {a : List Fa} (h : few14 l a = true) : few14P l a := of_decide_eq_true h
theorem small60 {c : Cl} (h : smallC c 60 = true) {F R N : List Fa} {new : Bool} {n : Nat} (hF : F.length ≤ n) (hn : 1 ≤ n) : (goL c F R N c.b ch0 new).length ≤ n ^ 3 := by
  refine Nat.le_trans (goL_len _ _ _ _ _ _ _) ?_
  unfold smallC at h
  rw [decide_eq_true_eq] at h
  have hp : pos c.b ≤ 3 := by omega
  show F.length ^ pos c.b ≤ _
  exact Nat.le_trans (Nat.pow_le_pow_left hF _) (Nat.pow_le_pow_right hn hp)
theorem big14 {l : List Cl} {a : List Fa} (h : few14P l a) {most : Int} (hm : most ≤ 80) (N : List Fa) : ∀ c ∈ l, ∀ (F R : List Fa) (new : Bool), (F.length : Int) ≤ most → (goL c F R N c.b ch0 new).length ≤ 50000000 := fun c hc F R new hF =>
  Nat.le_trans (small60 (h.2.2.2 c hc) (n := 80) (by omega) (by omega)) (by decide)
theorem law14Few (l : List Cl) (LA : Option Addr) (lc : Nat) (a : List Fa) (A : Option Addr) (k : Nat) :
    Spec Tryz.prog 8 #[.slice LA l.length lc, .slice A a.length k] [sl tCl LA lc l, sl tFa A k a] [] (fun v Ps' Os' => v = .bool (few14 l a) ∧ Ps' = [] ∧ Os' = []) := by
 refine zSp [.slice LA l.length lc, .slice A a.length k] Tryz.func8 Tryz.ntmps8 (fun w0 hp0 hf0 => ?_)
 refine zR 6 ?_
 refine go_len (xs := l) zM (fun l0 m0 => ?_)
 refine go_len (xs := a) zM (fun l1 m1 => ?_)
 refine zG 5 9 ?_ ?_
 ·intro g1
  (try simp only [dcs, ne_eq] at g1)
  refine zE 11 [0, 19] ?_
  refine zDt 0 ?_
  refine zT 4 rfl ⟨by first | rw [few14_no (l := l) (a := a) (fun h => by have h1 := h.1; have h2 := h.2.1; have h3 := h.2.2.1; first | omega | exact absurd (g3.symm.trans h3) (by decide) | exact absurd (g4.symm.trans (h.2.2.2 l[j] (List.getElem_mem _))) (by decide))] | rw [few14_yes (l := l) (a := a) ⟨by omega, by omega, g3, by rw [List.take_of_length_le (by omega)] at hz; exact hz⟩], rfl, rfl⟩
 intro g1
 (try simp only [dcs, ne_eq] at g1)
 refine zG 5 14 ?_ ?_
 ·intro g2
  (try simp only [dcs, ne_eq] at g2)
  refine zE 6 [0, 19] ?_
  refine zDt 0 ?_
  refine zT 4 rfl ⟨by first | rw [few14_no (l := l) (a := a) (fun h => by have h1 := h.1; have h2 := h.2.1; have h3 := h.2.2.1; first | omega | exact absurd (g3.symm.trans h3) (by decide) | exact absurd (g4.symm.trans (h.2.2.2 l[j] (List.getElem_mem _))) (by decide))] | rw [few14_yes (l := l) (a := a) ⟨by omega, by omega, g3, by rw [List.take_of_length_le (by omega)] at hz; exact hz⟩], rfl, rfl⟩
 intro g2
 (try simp only [dcs, ne_eq] at g2)
 refine zC3 2 (law11Few LA lc l A k a) ?_
 refine zE 3 [0, 19] ?_
 refine zB 0 ?_ ?_
 ·intro g3
  (try simp only [dcs, ne_eq] at g3)
  refine zT 4 rfl ⟨by first | rw [few14_no (l := l) (a := a) (fun h => by have h1 := h.1; have h2 := h.2.1; have h3 := h.2.2.1; first | omega | exact absurd (g3.symm.trans h3) (by decide) | exact absurd (g4.symm.trans (h.2.2.2 l[j] (List.getElem_mem _))) (by decide))] | rw [few14_yes (l := l) (a := a) ⟨by omega, by omega, g3, by rw [List.take_of_length_le (by omega)] at hz; exact hz⟩], rfl, rfl⟩
 intro g3
 (try simp only [dcs, ne_eq] at g3)
 refine zR 7 ?_
 refine zO (X := Nat) (fun j => [(5, .int .i64 (j : Int))]) [0] (fun _ => []) (fun j => j ≤ l.length ∧ ∀ c ∈ l.take j, smallC c 60 = true) (fun j => l.length - j) 0 ⟨by omega, by simp⟩ ?_
 intro j ⟨hj, hz⟩
 refine zD' 8 ?_ ?_
 ·intro hq1
  refine zT 5 rfl ⟨by first | rw [few14_no (l := l) (a := a) (fun h => by have h1 := h.1; have h2 := h.2.1; have h3 := h.2.2.1; first | omega | exact absurd (g3.symm.trans h3) (by decide) | exact absurd (g4.symm.trans (h.2.2.2 l[j] (List.getElem_mem _))) (by decide))] | rw [few14_yes (l := l) (a := a) ⟨by omega, by omega, g3, by rw [List.take_of_length_le (by omega)] at hz; exact hz⟩], rfl, rfl⟩
 intro hq1
 refine zR 4 ?_
 refine go_elem_cl (xs := l) zM (j) (List.getElem?_eq_getElem (by omega)) (fun b1 o1 A1 c1 B1 d1 hA => ?_); cases hA
 refine zI 3 ?_
 refine zL 0 ?_
 refine zC3 0 (law13Small l[j] A1 c1 B1 d1 60) ?_
 refine zB' 2 ?_ ?_
 ·intro g4
  (try simp only [dcs, ne_eq] at g4)
  refine zR 7 ?_
  refine go_i64 5 rfl (by omega) (by omega) ?_
  refine zz (j + 1) (⟨by omega, mem_take_next (by omega) hz g4⟩) (by omega)
 intro g4
 (try simp only [dcs, ne_eq] at g4)
 refine zE 4 [4] ?_
 refine zT 0 rfl ⟨by first | rw [few14_no (l := l) (a := a) (fun h => by have h1 := h.1; have h2 := h.2.1; have h3 := h.2.2.1; first | omega | exact absurd (g3.symm.trans h3) (by decide) | exact absurd (g4.symm.trans (h.2.2.2 l[j] (List.getElem_mem _))) (by decide))] | rw [few14_yes (l := l) (a := a) ⟨by omega, by omega, g3, by rw [List.take_of_length_le (by omega)] at hz; exact hz⟩], rfl, rfl⟩
end Go.Proofs.YtpgnmfnckjnecaaGreat.SL
namespace Go.Proofs.YtpgnmfnckjnecaaGreat.SL
open Go Md
end Go.Proofs.YtpgnmfnckjnecaaGreat.SL
namespace Go.Proofs.YtpgnmfnckjnecaaGreat.SL
open Md
def RP (l : List Cl) (fs : List Fa) : Prop := (rightC l).2 = 0 ∧ (∃ lv, Levels l lv) ∧ ArOK (atomsL l) fs
theorem filterMap_len {α β : Type} (f : α → Option β) (l : List α) : (l.filterMap f).length ≤ l.length := List.length_filterMap_le ..
theorem run_perfect {l : List Cl} {fs : List Fa} {most : Int} {ss : List (List Nat)} {r : Option (List Fa)} {e : Int} (ho : ∀ c ∈ l, c.ok) (hs : StrR l ss 0) (h0 : 0 ≤ most) (h : ModelR (ss.map (clausesAt l)) most (fof fs) r e) : (∃ lv, Levels l lv) ∧ Perfect l (· ∈ fof fs) most r e := by
  generalize he : (0 : Int) = z at hs
  cases hs with
  | bad e h1 h2 => exact absurd he.symm h1
  | ok lv h1 h2 h3 h4 =>
    refine ⟨⟨lv, h2⟩, ModelR.perfect ho h2 (strata_split l lv) (strata_all l lv) (fun k hk => level_fix h1 h2 (k := k) (fun c => strata_split l lv k hk c) ?_) h0 (rises_fof _) h⟩
    have hk' : k < (strata (l.map fun c => lv c.h.p)).length := by simpa using hk
    rw [List.getElem_map]
    refine Nat.le_trans (filterMap_len _ _) ?_
    have : (strata (l.map fun c => lv c.h.p))[k] = strI (l.map fun c => lv c.h.p) k := by simp [strata]
    rw [this]
    refine Nat.le_trans (strI_len _ _) ?_
    rw [List.length_map]; exact (rightC_iff.1 h1).1
theorem StrR.right {l : List Cl} {ss : List (List Nat)} (h : StrR l ss 0) : (rightC l).2 = 0 ∧ ∃ lv, Levels l lv := by
  generalize he : (0 : Int) = z at h
  cases h with
  | bad e h1 h2 => exact absurd he.symm h1
  | ok lv h1 h2 h3 h4 => exact ⟨h1, lv, h2⟩
theorem StrR.wrong {l : List Cl} {ss : List (List Nat)} {e : Int} (h : StrR l ss e) (he : e ≠ 0) : ¬ ((rightC l).2 = 0 ∧ ∃ lv, Levels l lv) := by
  cases h with
  | bad e h1 h2 =>
    rintro ⟨q1, lv, q2⟩
    rcases h2 with ⟨a, _⟩ | ⟨_, _, b⟩
    · exact a q1
    · exact b lv q2
  | ok lv h1 h2 h3 h4 => exact absurd rfl he
theorem ModA.one {l : List Cl} {fs : List Fa} {most : Int} {r r' : Option (List Fa)} {e e' : Int} (ho : ∀ c ∈ l, c.ok) (h : ModA l fs most r e) (h' : ModA l fs most r' e') : r = r' ∧ e = e' := by
  cases h with
  | arg a =>
    cases h' with
    | arg a' => exact ⟨rfl, rfl⟩
    | strat a' s' n' => omega
    | ari a' s' n' => omega
    | run a' s' o' m' => omega
  | strat a s n =>
    cases h' with
    | arg a' => omega
    | strat a' s' n' => exact ⟨rfl, (s.one s').2⟩
    | ari a' s' n' => exact absurd (s.one s').2 n
    | run a' s' o' m' => exact absurd (s.one s').2 n
  | ari a s n =>
    cases h' with
    | arg a' => omega
    | strat a' s' n' => exact absurd (s'.one s).2 n'
    | ari a' s' n' => exact ⟨rfl, rfl⟩
    | run a' s' o' m' => exact absurd o' n
  | run a s o m =>
    cases h' with
    | arg a' => omega
    | strat a' s' n' => exact absurd (s'.one s).2 n'
    | ari a' s' n' => exact absurd o n'
    | run a' s' o' m' =>
      obtain ⟨⟨lv, hl⟩, p⟩ := run_perfect ho s a m
      exact p.same (run_perfect ho s' a' m').2 hl fun _ => Iff.rfl
theorem ModA.of_right {l : List Cl} {fs : List Fa} {most : Int} {r : Option (List Fa)} {e : Int} (ho : ∀ c ∈ l, c.ok) (h : ModA l fs most r e) (hr : RP l fs) (h0 : 0 ≤ most) : Perfect l (· ∈ fof fs) most r e := by
  cases h with
  | arg a => omega
  | strat a s n => exact absurd ⟨hr.1, hr.2.1⟩ (s.wrong n)
  | ari a s n => exact absurd hr.2.2 n
  | run a s o m => exact (run_perfect ho s a m).2
theorem ModA.ok {l : List Cl} {fs : List Fa} {most : Int} {r : Option (List Fa)} {e : Int} (ho : ∀ c ∈ l, c.ok) (h : ModA l fs most r e) (he : e = 0) : RP l fs ∧ 0 ≤ most ∧ ∃ M, r = some M ∧ rises M ∧ (M.length : Int) ≤ most ∧ Stable l (· ∈ fof fs) (· ∈ M) := by
  cases h with
  | arg a => cases he
  | strat a s n => exact absurd he n
  | ari a s n => cases he
  | run a s o m =>
    have hp := (run_perfect ho s a m).2
    refine ⟨⟨s.right.1, s.right.2, o⟩, a, ?_⟩
    rcases hp with ⟨_, M, h2, h3, h4, h5⟩ | ⟨h1, _, _⟩
    · exact ⟨M, h2, h3, h4, h5⟩
    · omega
theorem ModA.none_ {l : List Cl} {fs : List Fa} {most : Int} {r : Option (List Fa)} {e : Int} (ho : ∀ c ∈ l, c.ok) (h : ModA l fs most r e) (he : ¬ e = 0) : r = none := by
  cases h with
  | arg a => rfl
  | strat a s n => rfl
  | ari a s n => rfl
  | run a s o m =>
    rcases (run_perfect ho s a m).2 with ⟨h1, _⟩ | ⟨_, h2, _⟩
    · exact absurd h1 he
    · exact h2
theorem Md.Perfect.of_stable {l : List Cl} {B : Fa → Prop} {most : Int} {M : List Fa} {r : Option (List Fa)} {e : Int} (h : Perfect l B most r e) {lv : Int → Nat} (hl : Levels l lv) (hM : rises M) (hS : Stable l B (· ∈ M)) :
    ((M.length : Int) ≤ most → r = some M ∧ e = 0) ∧ (most < (M.length : Int) → r = none ∧ e = 6) := by
  rcases h with ⟨g1, M', g2, g3, g4, g5⟩ | ⟨g1, g2, g3⟩
  · have : M = M' := rises_ext hM g3 fun x => hS.same hl g5 x
    subst this
    exact ⟨fun _ => ⟨g2, g1⟩, fun q => by omega⟩
  · have := g3 M hM hS
    exact ⟨fun q => by omega, fun _ => ⟨g2, g1⟩⟩
theorem ArOK.mono {X Y : List Am} {fs gs : List Fa} (h : ArOK X fs) (hX : ∀ a ∈ Y, a ∈ X) (hf : ∀ f ∈ gs, f ∈ fs) : ArOK Y gs := ⟨fun f q => h.1 f (hf f q), sameLen_sub h.2 fun a ha => by
  rcases List.mem_append.1 ha with h | h
  · exact List.mem_append_left _ (hX a h)
  · obtain ⟨g, hg, rfl⟩ := List.mem_map.1 h
    exact List.mem_append_right _ (List.mem_map.2 ⟨g, hf g hg, rfl⟩)⟩
theorem atomsL_mono {l l' : List Cl} (h : ∀ c ∈ l', c ∈ l) : ∀ a ∈ atomsL l', a ∈ atomsL l := fun a ha => by
  obtain ⟨c, hc, q⟩ := mem_atomsL.1 ha
  exact mem_atomsL.2 ⟨c, h c hc, q⟩
theorem RP.sub {l l' : List Cl} {fs gs : List Fa} (h : RP l fs) (hl : ∀ c ∈ l', c ∈ l) (hf : ∀ f ∈ gs, f ∈ fs) (hn : l'.length ≤ 400) : RP l' gs :=
  ⟨right_sub h.1 hl hn, h.2.1.imp fun lv q => levels_sub q fun c hc => .inl (hl c hc), h.2.2.mono (atomsL_mono hl) hf⟩
theorem Md.H.len {c : Cl} {F N : Fa → Prop} {x : Fa} (h : H c F N x) : x.a.length = c.h.a.length := by
  obtain ⟨_, s, _, _, _, h4⟩ := h
  rw [h4]; simp [ap]
theorem may_head {c : Cl} (h : mayC c = true) : c.h.a.length ≤ 6 := (mayA_iff.1 (mayC_iff.1 h).2.1).1
theorem RP.model {l : List Cl} {fs M : List Fa} (h : RP l fs) (hS : Stable l (· ∈ fof fs) (· ∈ M)) : ArOK (atomsL l) M := by
  have hw : ∀ x ∈ M, x.a.length ≤ 6 ∧ ∃ y ∈ atomsL l ++ fs.map lift, y.p = x.p ∧ y.a.length = x.a.length := fun x hx => by
    rcases hS.why x hx with q | ⟨c, hc, q⟩
    · have q := mem_fof.1 q
      exact ⟨h.2.2.1 x q, lift x, List.mem_append_right _ (List.mem_map.2 ⟨x, q, rfl⟩), rfl, lift_len x⟩
    · refine ⟨by rw [q.len]; exact may_head ((rightC_iff.1 h.1).2.1 c hc).1, c.h, List.mem_append_left _ (mem_atomsL.2 ⟨c, hc, .head _⟩), q.p.symm, q.len.symm⟩
  refine ⟨fun x hx => (hw x hx).1, ?_⟩
  have key : ∀ a ∈ atomsL l ++ M.map lift, ∃ y ∈ atomsL l ++ fs.map lift, y.p = a.p ∧ y.a.length = a.a.length := fun a ha => by
    rcases List.mem_append.1 ha with q | q
    · exact ⟨a, List.mem_append_left _ q, rfl, rfl⟩
    · obtain ⟨x, hx, rfl⟩ := List.mem_map.1 q
      obtain ⟨_, y, h1, h2, h3⟩ := hw x hx
      exact ⟨y, h1, h2, by rw [lift_len]; exact h3⟩
  intro a ha b hb e
  obtain ⟨y, h1, h2, h3⟩ := key a ha
  obtain ⟨z, h4, h5, h6⟩ := key b hb
  have := h.2.2.2 y h1 z h4 (by rw [h2, h5, e])
  omega
end Go.Proofs.YtpgnmfnckjnecaaGreat.SL
namespace Go.Proofs.YtpgnmfnckjnecaaGreat.SL
open Go Md
def wa15 : Cl := ⟨⟨1, [⟨true, 0⟩]⟩, [⟨false, ⟨2, [⟨true, 0⟩]⟩⟩, ⟨true, ⟨3, [⟨true, 0⟩]⟩⟩]⟩
def wb15 : Cl := ⟨⟨3, [⟨true, 0⟩]⟩, [⟨false, ⟨4, [⟨true, 0⟩]⟩⟩]⟩
def wl15 : List Cl := [wa15, wb15]
def wn15 : List Fa := [(⟨2, [10]⟩ : Fa), (⟨2, [11]⟩ : Fa), (⟨4, [10]⟩ : Fa)]
def wm15 : List Fa := [(⟨1, [11]⟩ : Fa), (⟨2, [10]⟩ : Fa), (⟨2, [11]⟩ : Fa), (⟨3, [10]⟩ : Fa), (⟨4, [10]⟩ : Fa)]
theorem wa15_ok : wa15.ok := ⟨ok_am _ _ (by decide), fun l hl => by
  simp only [wa15, List.mem_cons, List.not_mem_nil, or_false] at hl
  rcases hl with rfl | rfl <;> exact ok_am _ _ (by decide)⟩
theorem wb15_ok : wb15.ok := ⟨ok_am _ _ (by decide), fun l hl => by
  simp only [wb15, List.mem_cons, List.not_mem_nil, or_false] at hl
  rcases hl with rfl; exact ok_am _ _ (by decide)⟩
theorem wl15_ok : ∀ c ∈ wl15, c.ok := fun c hc => by
  simp only [wl15, List.mem_cons, List.not_mem_nil, or_false] at hc
  rcases hc with rfl | rfl
  · exact wa15_ok
  · exact wb15_ok
theorem wl15_at : ∀ a ∈ atomsL wl15, a.a.length = 1 := fun a ha => by
  obtain ⟨c, hc, q⟩ := mem_atomsL.1 ha
  simp only [wl15, List.mem_cons, List.not_mem_nil, or_false] at hc
  rcases hc with rfl | rfl <;> simp only [atomsC, wa15, wb15, List.map_cons, List.map_nil, List.mem_cons, List.not_mem_nil, or_false] at q
  · rcases q with rfl | rfl | rfl <;> rfl
  · rcases q with rfl | rfl <;> rfl
theorem wl15_r : (rightC wl15).2 = 0 := rightC_iff.2 ⟨by decide, fun c hc => by
  simp only [wl15, List.mem_cons, List.not_mem_nil, or_false] at hc
  rcases hc with rfl | rfl <;> exact ⟨by decide, by decide⟩, fun a ha b hb _ => by rw [wl15_at a ha, wl15_at b hb]⟩
theorem wl15_c : ∀ c ∈ wl15, (rightC [c]).2 = 0 := right_all wl15_r
theorem wn15_len : ∀ x ∈ wn15, x.ok ∧ x.a.length = 1 := fun x hx => by
  simp only [wn15, List.mem_cons, List.not_mem_nil, or_false] at hx
  rcases hx with rfl | rfl | rfl <;> exact ⟨ok_fa _ _ (by decide), rfl⟩
def wlv15 (p : Int) : Nat := if p = 1 then 1 else 0
theorem wl15_lv : Levels wl15 wlv15 := fun c hc x hx => by
  simp only [wl15, List.mem_cons, List.not_mem_nil, or_false] at hc
  rcases hc with rfl | rfl <;> simp only [wa15, wb15, List.mem_cons, List.not_mem_nil, or_false] at hx
  · rcases hx with rfl | rfl <;> decide
  · rcases hx with rfl; decide
theorem wl15_rp : RP wl15 wn15 := ⟨wl15_r, ⟨_, wl15_lv⟩, fun x hx => by rw [(wn15_len x hx).2]; omega, fun a ha b hb _ => by
  have h : ∀ a ∈ atomsL wl15 ++ wn15.map lift, a.a.length = 1 := fun a ha => by
    rcases List.mem_append.1 ha with q | q
    · exact wl15_at a q
    · obtain ⟨x, hx, rfl⟩ := List.mem_map.1 q
      rw [lift_len]; exact (wn15_len x hx).2
  rw [h a ha, h b hb]⟩
theorem wa15_H {F N : Fa → Prop} {x : Fa} : H wa15 F N x ↔ ∃ a : Int, F ⟨2, [a]⟩ ∧ ¬ N ⟨3, [a]⟩ ∧ x = ⟨1, [a]⟩ := by
  unfold H Hd
  constructor
  · rintro ⟨_, s, h1, h2, _, h4⟩
    exact ⟨s 0, h1 _ (.head _) rfl, h2 _ (.tail _ (.head _)) rfl, h4⟩
  · rintro ⟨a, h1, h2, h3⟩
    refine ⟨wl15_c _ (.head _), fun _ => a, fun l hl e => ?_, fun l hl e => ?_, fun e => (nomatch e), h3⟩
    · simp only [wa15, List.mem_cons, List.not_mem_nil, or_false] at hl
      rcases hl with rfl | rfl
      · exact h1
      · cases e
    · simp only [wa15, List.mem_cons, List.not_mem_nil, or_false] at hl
      rcases hl with rfl | rfl
      · cases e
      · exact h2
theorem wb15_H {F N : Fa → Prop} {x : Fa} : H wb15 F N x ↔ ∃ a : Int, F ⟨4, [a]⟩ ∧ x = ⟨3, [a]⟩ := by
  unfold H Hd
  constructor
  · rintro ⟨_, s, h1, h2, _, h4⟩
    exact ⟨s 0, h1 _ (.head _) rfl, h4⟩
  · rintro ⟨a, h1, h3⟩
    refine ⟨wl15_c _ (.tail _ (.head _)), fun _ => a, fun l hl e => ?_, fun l hl e => ?_, fun e => (nomatch e), h3⟩
    · simp only [wb15, List.mem_cons, List.not_mem_nil, or_false] at hl
      rcases hl with rfl
      exact h1
    · simp only [wb15, List.mem_cons, List.not_mem_nil, or_false] at hl
      rcases hl with rfl
      cases e
theorem wm15_st : Stable wl15 (· ∈ fof wn15) (· ∈ wm15) := by
  refine ⟨fun x hx => ?_, fun c hc x hx => ?_, fun S h1 h2 x hx => ?_⟩
  · rw [mem_fof] at hx
    simp only [wn15, wm15, List.mem_cons, List.not_mem_nil, or_false] at hx ⊢
    rcases hx with rfl | rfl | rfl <;> simp
  · simp only [wl15, List.mem_cons, List.not_mem_nil, or_false] at hc
    rcases hc with rfl | rfl
    · obtain ⟨a, q1, q2, rfl⟩ := wa15_H.1 hx
      have q1 : (⟨2, [a]⟩ : Fa) ∈ wm15 := q1
      have q2 : ¬ (⟨3, [a]⟩ : Fa) ∈ wm15 := q2
      show (⟨1, [a]⟩ : Fa) ∈ wm15
      simp [wm15] at q1 q2 ⊢
      omega
    · obtain ⟨a, q1, rfl⟩ := wb15_H.1 hx
      have q1 : (⟨4, [a]⟩ : Fa) ∈ wm15 := q1
      show (⟨3, [a]⟩ : Fa) ∈ wm15
      simp [wm15] at q1 ⊢
      exact q1
  · have b1 : ∀ y ∈ wn15, S y := fun y hy => h1 y (mem_fof.2 hy)
    simp only [wm15, List.mem_cons, List.not_mem_nil, or_false] at hx
    rcases hx with rfl | rfl | rfl | rfl | rfl
    · refine h2 wa15 (.head _) _ (wa15_H.2 ⟨11, b1 _ (by simp [wn15]), ?_, rfl⟩)
      simp [wm15]
    · exact b1 _ (by simp [wn15])
    · exact b1 _ (by simp [wn15])
    · exact h2 wb15 (.tail _ (.head _)) _ (wb15_H.2 ⟨10, b1 _ (by simp [wn15]), rfl⟩)
    · exact b1 _ (by simp [wn15])
theorem wm15_rises : rises wm15 := by unfold rises wm15; decide
theorem w15_big : ∀ c ∈ wl15, ∀ (F R N : List Fa) (new : Bool), (F.length : Int) ≤ 100 → (goL c F R N c.b ch0 new).length ≤ 50000000 := fun c hc F R N new hF => by
  have h : F.length ≤ 100 := by omega
  refine Nat.le_trans (goL_len _ _ _ _ _ _ _) ?_
  simp only [wl15, List.mem_cons, List.not_mem_nil, or_false] at hc
  rcases hc with rfl | rfl
  · show F.length ^ 1 ≤ _; rw [Nat.pow_one]; omega
  · show F.length ^ 1 ≤ _; rw [Nat.pow_one]; omega
theorem w15_yes {r : Option (List Fa)} {e : Int} (h : ModA wl15 wn15 100 r e) : r = some wm15 ∧ e = 0 :=
  ((h.of_right wl15_ok wl15_rp (by omega)).of_stable wl15_lv wm15_rises wm15_st).1 (by decide)
theorem w15_no {r : Option (List Fa)} {e : Int} (h : ModA wl15 wn15 4 r e) : r = none ∧ e = 6 :=
  ((h.of_right wl15_ok wl15_rp (by omega)).of_stable wl15_lv wm15_rises wm15_st).2 (by decide)
set_option maxHeartbeats 4000000 in
theorem law15Example  :
    Spec Tryz.prog 22 #[] [] [] (fun v Ps' Os' => ∃ A B, v = .tuple #[.slice A 2 2, .slice B 3 3] ∧ Ps' = [sl tCl A 2 wl15, sl tFa B 3 wn15] ∧ Os' = []) := by
 refine zSp [] Tryz.func22 Tryz.ntmps22 (fun w0 hp0 hf0 => ?_)
 refine zC3 7 (law11V 0) ?_
 refine zV 0 ?_
 intro u1
 refine go_lit tTm (b := u1) [⟨true, 0⟩] zM (fun hp a => ⟨[_, _], [], rfl, tTm_mk (x := ⟨true, 0⟩), rfl⟩) (by simp) ?_
 refine zC3 0 (law11A _ _ _ _) ?_
 refine zC3 0 (law11V 0) ?_
 refine zV 0 ?_
 intro u2
 refine go_lit tTm (b := u2) [⟨true, 0⟩] zM (fun hp a => ⟨[_, _], [], rfl, tTm_mk (x := ⟨true, 0⟩), rfl⟩) (by simp) ?_
 refine zC3 0 (law11Yes _ _ _ _) ?_
 refine zC3 0 (law11V 0) ?_
 refine zV 0 ?_
 intro u3
 refine go_lit tTm (b := u3) [⟨true, 0⟩] zM (fun hp a => ⟨[_, _], [], rfl, tTm_mk (x := ⟨true, 0⟩), rfl⟩) (by simp) ?_
 refine zC3 0 (law11No _ _ _ _) ?_
 refine zV 0 ?_
 intro u4
 refine go_lit tLi (b := u4) wa15.b zM (fun hp a => ⟨[_, _, _], _, rfl, tLi_mk (x := ⟨false, ⟨2, [⟨true, 0⟩]⟩⟩) (a (sl tTm (some ⟨u2, 0, none⟩) 1 [⟨true, 0⟩]) zM), [_, _, _], [], rfl, tLi_mk (x := ⟨true, ⟨3, [⟨true, 0⟩]⟩⟩) (a (sl tTm (some ⟨u3, 0, none⟩) 1 [⟨true, 0⟩]) zM), rfl⟩) (by decide) ?_
 refine zC3 0 (law11If _ _ _ _ _ _ _) ?_
 refine zC3 0 (law11V 0) ?_
 refine zV 0 ?_
 intro u5
 refine go_lit tTm (b := u5) [⟨true, 0⟩] zM (fun hp a => ⟨[_, _], [], rfl, tTm_mk (x := ⟨true, 0⟩), rfl⟩) (by simp) ?_
 refine zC3 0 (law11A _ _ _ _) ?_
 refine zC3 0 (law11V 0) ?_
 refine zV 0 ?_
 intro u6
 refine go_lit tTm (b := u6) [⟨true, 0⟩] zM (fun hp a => ⟨[_, _], [], rfl, tTm_mk (x := ⟨true, 0⟩), rfl⟩) (by simp) ?_
 refine zC3 0 (law11Yes _ _ _ _) ?_
 refine zV 0 ?_
 intro u7
 refine go_lit tLi (b := u7) wb15.b zM (fun hp a => ⟨[_, _, _], [], rfl, tLi_mk (x := ⟨false, ⟨4, [⟨true, 0⟩]⟩⟩) (a (sl tTm (some ⟨u6, 0, none⟩) 1 [⟨true, 0⟩]) zM), rfl⟩) (by decide) ?_
 refine zC3 0 (law11If _ _ _ _ _ _ _) ?_
 refine zV 0 ?_
 intro bs
 refine go_lit tCl (b := bs) wl15 zM (fun hp a => ⟨[.int .u32 wa15.h.p, .slice (some ⟨u1, 0, none⟩) wa15.h.a.length 1, .slice (some ⟨u4, 0, none⟩) wa15.b.length 2], _, rfl, tCl_mk (a (sl tTm (some ⟨u1, 0, none⟩) 1 wa15.h.a) zM) (a (sl tLi (some ⟨u4, 0, none⟩) 2 wa15.b) zM), [.int .u32 wb15.h.p, .slice (some ⟨u5, 0, none⟩) wb15.h.a.length 1, .slice (some ⟨u7, 0, none⟩) wb15.b.length 1], [], rfl, tCl_mk (a (sl tTm (some ⟨u5, 0, none⟩) 1 wb15.h.a) zM) (a (sl tLi (some ⟨u7, 0, none⟩) 1 wb15.b) zM), rfl⟩) (by decide) ?_
 refine zV 0 ?_
 intro f1
 refine go_lit_int (kk := .u32) [10] zM (by simp) ?_
 refine zC3 0 (law13F 2 _ 1 1) ?_
 refine zV 0 ?_
 intro f2
 refine go_lit_int (kk := .u32) [11] zM (by simp) ?_
 refine zC3 0 (law13F 2 _ 1 1) ?_
 refine zV 0 ?_
 intro f3
 refine go_lit_int (kk := .u32) [10] zM (by simp) ?_
 refine zC3 0 (law13F 4 _ 1 1) ?_
 refine zV 0 ?_
 intro bf
 refine go_lit tFa (b := bf) wn15 zM (fun hp a => ⟨[_, _], _, rfl, tFa_mk (x := (⟨2, [10]⟩ : Fa)) (a (sl tU (some ⟨f1, 0, none⟩) 1 [10]) zM), [_, _], _, rfl, tFa_mk (x := (⟨2, [11]⟩ : Fa)) (a (sl tU (some ⟨f2, 0, none⟩) 1 [11]) zM), [_, _], [], rfl, tFa_mk (x := (⟨4, [10]⟩ : Fa)) (a (sl tU (some ⟨f3, 0, none⟩) 1 [10]) zM), rfl⟩) (by decide) ?_
 refine zE 3 [0, 1] ?_
 refine go_ret ⟨rfl, rfl⟩ [sl tCl (some ⟨bs, 0, none⟩) 2 wl15, sl tFa (some ⟨bf, 0, none⟩) 3 wn15] [] (res2 (by rfl) (.tmp rfl) (.tmp rfl)) ⟨_, _, rfl, rfl, rfl⟩ zM zM
set_option maxHeartbeats 4000000 in
theorem lawWorks15  :
    Spec Tryz.prog 9 #[] [] [] (fun v Ps' Os' => v = .bool true ∧ Ps' = [] ∧ Os' = []) := by
 refine zSp [] Tryz.func9 Tryz.ntmps9 (fun w0 hp0 hf0 => ?_)
 refine zC 6 law15Example ?_
 rintro _ _ _ ⟨A, B, rfl, rfl, rfl⟩
 refine zC 10 (modelOf wl15 A 2 wn15 B 3 100 wl15_ok (fun x hx => ⟨(wn15_len x hx).1, by rw [(wn15_len x hx).2]; omega⟩) (by decide) (by omega) (fun c hc F R N new h => w15_big c hc F R N new (by omega))) ?_
 rintro _ _ _ ⟨A5, c5, r5, e5, hM5, rfl, rfl, rfl⟩
 obtain ⟨rfl, rfl⟩ := w15_yes hM5
 refine zC 10 (modelOf wl15 A 2 wn15 B 3 4 wl15_ok (fun x hx => ⟨(wn15_len x hx).1, by rw [(wn15_len x hx).2]; omega⟩) (by decide) (by omega) (fun c hc F R N new h => w15_big c hc F R N new (by omega))) ?_
 rintro _ _ _ ⟨A6, c6, r6, e6, hM6, rfl, rfl, rfl⟩
 obtain ⟨rfl, rfl⟩ := w15_no hM6
 refine zE 6 [3, 4, 6] ?_
 refine zR 5 ?_
 refine go_re 25 (.bool true) (by show some (Value.bool _) = _; first | rfl | simp) ?_
 refine zV 1 ?_
 intro f0
 refine go_lit_int (kk := .u32) [11] zM (by simp) ?_
 refine zC3 0 (law13F 1 _ 1 1) ?_
 refine zV 0 ?_
 intro f1
 refine go_lit_int (kk := .u32) [10] zM (by simp) ?_
 refine zC3 0 (law13F 2 _ 1 1) ?_
 refine zV 0 ?_
 intro f2
 refine go_lit_int (kk := .u32) [11] zM (by simp) ?_
 refine zC3 0 (law13F 2 _ 1 1) ?_
 refine zV 0 ?_
 intro f3
 refine go_lit_int (kk := .u32) [10] zM (by simp) ?_
 refine zC3 0 (law13F 3 _ 1 1) ?_
 refine zV 0 ?_
 intro f4
 refine go_lit_int (kk := .u32) [10] zM (by simp) ?_
 refine zC3 0 (law13F 4 _ 1 1) ?_
 refine zV 0 ?_
 intro bm
 refine go_lit tFa (b := bm) wm15 zM (fun hp a => ⟨[_, _], _, rfl, tFa_mk (x := (⟨1, [11]⟩ : Fa)) (a (sl tU (some ⟨f0, 0, none⟩) 1 [11]) zM), [_, _], _, rfl, tFa_mk (x := (⟨2, [10]⟩ : Fa)) (a (sl tU (some ⟨f1, 0, none⟩) 1 [10]) zM), [_, _], _, rfl, tFa_mk (x := (⟨2, [11]⟩ : Fa)) (a (sl tU (some ⟨f2, 0, none⟩) 1 [11]) zM), [_, _], _, rfl, tFa_mk (x := (⟨3, [10]⟩ : Fa)) (a (sl tU (some ⟨f3, 0, none⟩) 1 [10]) zM), [_, _], [], rfl, tFa_mk (x := (⟨4, [10]⟩ : Fa)) (a (sl tU (some ⟨f4, 0, none⟩) 1 [10]) zM), rfl⟩) (by decide) ?_
 refine zC3 0 (ref13Same A5 c5 wm15 (some ⟨bm, 0, none⟩) 5 wm15) ?_
 refine zR 2 ?_
 refine go_re 40 (.bool true) (by show some (Value.bool _) = _; first | rfl | simp) ?_
 refine zR 3 ?_
 refine go_re 43 (.bool true) (by show some (Value.bool _) = _; first | rfl | simp) ?_
 refine zE 2 [0] ?_
 refine zT 0 rfl ⟨rfl, rfl, rfl⟩
end Go.Proofs.YtpgnmfnckjnecaaGreat.SL
namespace Go.Proofs.YtpgnmfnckjnecaaGreat.SL
open Md
theorem ModA.fine {l : List Cl} {fs : List Fa} {most : Int} {M : List Fa} (ho : ∀ c ∈ l, c.ok) (hf : ∀ x ∈ fs, x.ok ∧ x.a.length ≤ 100000) (h : ModA l fs most (some M) 0) : ∀ x ∈ M, x.ok ∧ x.a.length ≤ 100000 := by
  generalize hr : some M = r at h
  generalize he : (0 : Int) = e at h
  cases h with
  | arg a => cases hr
  | strat a s n => cases hr
  | ari a s n => cases hr
  | run a s o m =>
    cases m with
    | big g => cases hr
    | bad h0 h1 hk hL => cases hr
    | ok g u => cases hr; exact u.fine (fun s hs c hc => ho c (st_mem s hs c hc)) (fun x hx => hf x (mem_fof.1 hx))
theorem ok_pos {c : Cl} (h : c.ok) : 0 ≤ c.h.p ∧ ∀ x ∈ c.b, 0 ≤ x.a.p := ⟨h.1.1.1, fun x hx => (h.2 x hx).1.1⟩
def lowC (c : Cl) : Prop := c.h.p < far ∧ ∀ x ∈ c.b, x.a.p < far
theorem mem_aw {gs : List Fa} {x : Fa} : x ∈ gs.map awF ↔ unF x ∈ gs := by
  constructor
  · intro h; obtain ⟨g, hg, rfl⟩ := List.mem_map.1 h; rw [un_aw]; exact hg
  · intro h; rw [← aw_un x]; exact List.mem_map_of_mem h
theorem far_ok {c : Cl} (h : c.ok) : ¬ (awC c).h.p < far ∧ ∀ x ∈ (awC c).b, ¬ x.a.p < far := by
  obtain ⟨h1, h2⟩ := ok_pos h
  refine ⟨by show ¬ c.h.p + far < far; omega, fun x hx => ?_⟩
  obtain ⟨m, hm, rfl⟩ := mem_awC.1 hx
  have := h2 m hm
  show ¬ m.a.p + far < far; omega
theorem low_atoms {l : List Cl} {fs : List Fa} (h : ∀ c ∈ l, lowC c) (hf : ∀ f ∈ fs, f.p < far) : ∀ a ∈ atomsL l ++ fs.map lift, a.p < far := fun a ha => by
  rcases List.mem_append.1 ha with q | q
  · obtain ⟨c, hc, q⟩ := mem_atomsL.1 q
    rcases List.mem_cons.1 q with rfl | q
    · exact (h c hc).1
    · obtain ⟨x, hx, rfl⟩ := List.mem_map.1 q; exact (h c hc).2 x hx
  · obtain ⟨f, hf', rfl⟩ := List.mem_map.1 q; exact hf f hf'
theorem pos_atoms {l : List Cl} {fs : List Fa} (h : ∀ c ∈ l, c.ok) (hf : ∀ f ∈ fs, f.ok) : ∀ a ∈ atomsL l ++ fs.map lift, 0 ≤ a.p := fun a ha => by
  rcases List.mem_append.1 ha with q | q
  · obtain ⟨c, hc, q⟩ := mem_atomsL.1 q
    rcases List.mem_cons.1 q with rfl | q
    · exact (ok_pos (h c hc)).1
    · obtain ⟨x, hx, rfl⟩ := List.mem_map.1 q; exact (ok_pos (h c hc)).2 x hx
  · obtain ⟨f, hf', rfl⟩ := List.mem_map.1 q; exact (hf f hf').1.1
theorem lift_aw (f : Fa) : lift (awF f) = awA (lift f) := rfl
def orF (p : Int) : Int := IntKind.u32.wrap (BitVec.ofInt IntKind.u32.bits p ||| BitVec.ofInt IntKind.u32.bits 2147483648).toNat
theorem orF_eq {p : Int} (h0 : 0 ≤ p) (h1 : p < far) : orF p = p + far := by
  obtain ⟨n, rfl⟩ : ∃ n : Nat, p = (n : Int) := ⟨p.toNat, by omega⟩
  have h2 : n < 2 ^ 31 := by unfold far at h1; omega
  have h3 : (BitVec.ofInt IntKind.u32.bits (n : Int) ||| BitVec.ofInt IntKind.u32.bits 2147483648).toNat = n + 2147483648 := by
    show (BitVec.ofInt 32 (n : Int) ||| BitVec.ofInt 32 2147483648).toNat = _
    rw [BitVec.toNat_or]
    have e1 : (BitVec.ofInt 32 (n : Int)).toNat = n := by rw [BitVec.toNat_ofInt]; omega
    have e2 : (BitVec.ofInt 32 2147483648).toNat = 2 ^ 31 * 1 := by decide
    rw [e1, e2, Nat.or_comm, ← Nat.two_pow_add_eq_or_of_lt h2 1]
    omega
  unfold orF
  rw [h3, wrap32 (by unfold far at h1; omega)]
  unfold far; omega
def orFa (x : Fa) : Fa := ⟨orF x.p, x.a⟩
def orA (a : Am) : Am := ⟨orF a.p, a.a⟩
def orL (l : Li) : Li := ⟨l.no, orA l.a⟩
def awO (c : Cl) : Cl := ⟨orA c.h, c.b.map orL⟩
theorem orFa_eq {x : Fa} (h : x.ok) (h1 : x.p < far) : orFa x = awF x := by unfold orFa awF; rw [orF_eq h.1.1 h1]
theorem awO_eq {c : Cl} (h : c.ok) (h1 : lowC c) : awO c = awC c := by
  obtain ⟨q1, q2⟩ := ok_pos h
  unfold awO awC orA awA
  rw [orF_eq q1 h1.1]
  congr 1
  refine List.map_congr_left fun x hx => ?_
  unfold orL orA; rw [orF_eq (q2 x hx) (h1.2 x hx)]
theorem awF_ok {x : Fa} (h : x.ok) (h1 : x.p < far) : (awF x).ok := by
  unfold far at h1
  exact ⟨by show 0 ≤ x.p + 2147483648 ∧ x.p + 2147483648 < 4294967296; have := h.1; omega, h.2⟩
theorem awC_ok {c : Cl} (h : c.ok) (h1 : lowC c) : (awC c).ok := by
  obtain ⟨a1, a2⟩ := h1
  unfold far at a1 a2
  refine ⟨⟨by show 0 ≤ c.h.p + 2147483648 ∧ c.h.p + 2147483648 < 4294967296; have := h.1.1; omega, h.1.2⟩, fun x hx => ?_⟩
  obtain ⟨m, hm, rfl⟩ := mem_awC.1 hx
  have h2 := h.2 m hm
  have h3 := a2 m hm
  exact ⟨by show 0 ≤ m.a.p + 2147483648 ∧ m.a.p + 2147483648 < 4294967296; have := h2.1; omega, h2.2⟩
theorem map_orFa {gs : List Fa} (h : ∀ x ∈ gs, x.ok) (h1 : ∀ x ∈ gs, x.p < far) : gs.map orFa = gs.map awF := List.map_congr_left fun x hx => orFa_eq (h x hx) (h1 x hx)
theorem map_awO {k : List Cl} (h : ∀ c ∈ k, c.ok) (h1 : ∀ c ∈ k, lowC c) : k.map awO = k.map awC := List.map_congr_left fun c hc => awO_eq (h c hc) (h1 c hc)
theorem app_oks {l k : List Cl} (h : ∀ c ∈ l, c.ok) (h' : ∀ c ∈ k, c.ok) (h1 : ∀ c ∈ k, lowC c) : ∀ c ∈ l ++ k.map awC, c.ok := fun c hc => by
  rcases List.mem_append.1 hc with q | q
  · exact h c q
  · obtain ⟨d, hd, rfl⟩ := List.mem_map.1 q; exact awC_ok (h' d hd) (h1 d hd)
theorem app_facts {fs gs : List Fa} (h : ∀ x ∈ fs, x.ok ∧ x.a.length ≤ 100000) (h' : ∀ x ∈ gs, x.ok ∧ x.a.length ≤ 100000) (h1 : ∀ x ∈ gs, x.p < far) : ∀ x ∈ fs ++ gs.map awF, x.ok ∧ x.a.length ≤ 100000 := fun x hx => by
  rcases List.mem_append.1 hx with q | q
  · exact h x q
  · obtain ⟨d, hd, rfl⟩ := List.mem_map.1 q; exact ⟨awF_ok (h' d hd).1 (h1 d hd), (h' d hd).2⟩
theorem RP.apart {l k : List Cl} {fs gs : List Fa} (ho' : ∀ c ∈ k, c.ok) (hg : ∀ f ∈ gs, f.ok) (hl : ∀ c ∈ l, lowC c) (hfl : ∀ f ∈ fs, f.p < far) (hn : l.length + k.length ≤ 400) (h : RP l fs) (h' : RP k gs) : RP (l ++ k.map awC) (fs ++ gs.map awF) := by
  obtain ⟨a1, ⟨lv, a2⟩, a3⟩ := h
  obtain ⟨b1, ⟨lw, b2⟩, b3⟩ := h'
  have hY : ∀ a ∈ (atomsL k ++ gs.map lift).map awA, ¬ a.p < far := fun a ha => by
    obtain ⟨b, hb, rfl⟩ := List.mem_map.1 ha
    have := pos_atoms ho' hg b hb
    show ¬ b.p + far < far; omega
  refine ⟨right_union a1 (right_away.2 b1) (by rw [List.length_map]; exact hn) (fun a ha b hb e => ?_), ?_, fun f hf => ?_, fun a ha b hb e => ?_⟩
  · have h1 := low_atoms hl hfl a (List.mem_append_left _ ha)
    rw [atomsL_aw] at hb
    have h2 := hY b (by rw [List.map_append]; exact List.mem_append_left _ hb)
    omega
  · exact levels_union (P := fun p => p < far) a2 (levels_away b2) (fun c hc => hl c hc) fun c hc => by
      obtain ⟨d, hd, rfl⟩ := List.mem_map.1 hc
      exact far_ok (ho' d hd)
  · rcases List.mem_append.1 hf with q | q
    · exact a3.1 f q
    · obtain ⟨g, hg', rfl⟩ := List.mem_map.1 q; exact b3.1 g hg'
  · have key : ∀ a ∈ atomsL (l ++ k.map awC) ++ (fs ++ gs.map awF).map lift, a ∈ atomsL l ++ fs.map lift ∨ a ∈ (atomsL k ++ gs.map lift).map awA := fun a ha => by
      rcases List.mem_append.1 ha with q | q
      · obtain ⟨c, hc, q⟩ := mem_atomsL.1 q
        rcases List.mem_append.1 hc with w | w
        · exact .inl (List.mem_append_left _ (mem_atomsL.2 ⟨c, w, q⟩))
        · refine .inr (by rw [List.map_append, ← atomsL_aw]; exact List.mem_append_left _ (mem_atomsL.2 ⟨c, w, q⟩))
      · obtain ⟨f, hf, rfl⟩ := List.mem_map.1 q
        rcases List.mem_append.1 hf with w | w
        · exact .inl (List.mem_append_right _ (List.mem_map_of_mem w))
        · obtain ⟨g, hg', rfl⟩ := List.mem_map.1 w
          exact .inr (by rw [lift_aw]; exact List.mem_map_of_mem (List.mem_append_right _ (List.mem_map_of_mem hg')))
    rcases key a ha with p | p <;> rcases key b hb with q | q
    · exact a3.2 a p b q e
    · have := low_atoms hl hfl a p; have := hY b q; omega
    · have := low_atoms hl hfl b q; have := hY a p; omega
    · exact len_aw.2 b3.2 a p b q e
theorem model_apart {l k : List Cl} {fs gs : List Fa} {M M' : List Fa} {r : Option (List Fa)} {e most : Int} (ho : ∀ c ∈ l, c.ok) (ho' : ∀ c ∈ k, c.ok) (ho2 : ∀ c ∈ l ++ k.map awC, c.ok) (hg : ∀ f ∈ gs, f.ok) (hl : ∀ c ∈ l, lowC c) (hfl : ∀ f ∈ fs, f.p < far) (hn : l.length + k.length ≤ 400)
    (h : ModA l fs most (some M) 0) (h' : ModA k gs most (some M') 0) (h2 : ModA (l ++ k.map awC) (fs ++ gs.map awF) (most + most) r e) : r = some (fof (M ++ M'.map awF)) ∧ e = 0 := by
  obtain ⟨r1, h0, _, q, a3, a4, a5⟩ := h.ok ho rfl
  cases q
  obtain ⟨r2, _, _, q, b3, b4, b5⟩ := h'.ok ho' rfl
  cases q
  have hr := RP.apart ho' hg hl hfl hn r1 r2
  obtain ⟨lv, hlv⟩ := hr.2.1
  have hs := Stable.union (P := fun p => p < far) hl (fun c hc => by
    obtain ⟨d, hd, rfl⟩ := List.mem_map.1 hc
    exact far_ok (ho' d hd)) (fun x hx => hfl x (mem_fof.1 hx)) (fun x hx => by
      have h1 := (hg _ (mem_fof.1 hx)).1.1
      have h2 : 0 ≤ x.p - far := h1
      omega) a5 b5.away
  have hlen : ((fof (M ++ M'.map awF)).length : Int) ≤ most + most := by
    have := fof_len (M ++ M'.map awF)
    rw [List.length_append, List.length_map] at this
    omega
  have hs2 : Stable (l ++ k.map awC) (· ∈ fof (fs ++ gs.map awF)) (· ∈ fof (M ++ M'.map awF)) := by
    have e1 : (fun x => x ∈ M ∨ unF x ∈ M') = (· ∈ fof (M ++ M'.map awF)) := funext fun x => propext (by rw [mem_fof, List.mem_append, mem_aw])
    rw [← e1]
    exact hs.perm (fun _ => Iff.rfl) fun x => by rw [mem_fof, mem_fof, mem_fof, List.mem_append, mem_aw]
  exact ((h2.of_right ho2 hr (by omega)).of_stable hlv (rises_fof _) hs2).1 hlen
end Go.Proofs.YtpgnmfnckjnecaaGreat.SL
namespace Go.Proofs.YtpgnmfnckjnecaaGreat.SL
open Go Md
theorem law15High (p : Int) :
    Spec Tryz.prog 17 #[.int .u32 p] [] [] (fun v Ps' Os' => v = .bool (decide (2147483648 ≤ p)) ∧ Ps' = [] ∧ Os' = []) := by
 refine zSp [.int .u32 p] Tryz.func17 Tryz.ntmps17 (fun w0 hp0 hf0 => ?_)
 refine zT 10 rfl ⟨rfl, rfl, rfl⟩
theorem law15Away (q : Am) (AA : Option Addr) (ac : Nat) :
    Spec Tryz.prog 18 #[.agg #[.int .u32 q.p, .slice AA q.a.length ac]] [] [] (fun v Ps' Os' => v = .agg #[.int .u32 (orF q.p), .slice AA q.a.length ac] ∧ Ps' = [] ∧ Os' = []) := by
 refine zSp [.agg #[.int .u32 q.p, .slice AA q.a.length ac]] Tryz.func18 Tryz.ntmps18 (fun w0 hp0 hf0 => ?_)
 refine zX 2 ?_
 intro bq
 refine zW 0 ?_
 intro br
 refine zL 4 ?_
 refine zL 2 ?_
 refine zq 0 ?_
 refine zS 0 ?_
 refine zR 1 ?_
 refine go_ret ⟨rfl, rfl⟩ _ _ (res1 (by rfl) (.cell rfl (rdv Tk rfl))) ⟨rfl, rfl, rfl⟩ zM zM
theorem big_aw {l k : List Cl} {a b : List Fa} (h : few14P l a) (h' : few14P k b) : ∀ c ∈ l ++ k.map awC, ∀ (F R N : List Fa) (new : Bool), (F.length : Int) ≤ 120 → (goL c F R N c.b ch0 new).length ≤ 50000000 := fun c hc F R N new hF => by
  rcases List.mem_append.1 hc with q | q
  · exact Nat.le_trans (small60 (h.2.2.2 c q) (n := 120) (by omega) (by omega)) (by decide)
  · obtain ⟨d, hd, rfl⟩ := List.mem_map.1 q
    have h1 : smallC (awC d) 60 = true := by
      have h2 := h'.2.2.2 d hd
      have e1 : (awC d).b.length = d.b.length := by unfold awC; simp
      have e2 : pos (awC d).b = pos d.b := by unfold pos awC; simp [List.filter_map, Function.comp_def]
      unfold smallC at h2 ⊢
      rw [e1, e2]; exact h2
    exact Nat.le_trans (small60 h1 (n := 120) (by omega) (by omega)) (by decide)
set_option maxHeartbeats 16000000 in
theorem lawModelApart (l : List Cl) (LA : Option Addr) (lc : Nat) (gl : ∀ c ∈ l, c.ok) (zl : l.length ≤ 140737488351232) (a : List Fa) (A : Option Addr) (k : Nat) (ga : ∀ x ∈ a, x.ok) (za : a.length ≤ 140737488351232) (m : List Cl) (MA : Option Addr) (mc : Nat) (gm : ∀ c ∈ m, c.ok) (zm : m.length ≤ 140737488351232) (b : List Fa) (B : Option Addr) (kb : Nat) (gb : ∀ x ∈ b, x.ok) (zb : b.length ≤ 140737488351232) :
    Spec Tryz.prog 7 #[.slice LA l.length lc, .slice A a.length k, .slice MA m.length mc, .slice B b.length kb] [sl tCl LA lc l, sl tFa A k a, sl tCl MA mc m, sl tFa B kb b] [] (fun v Ps' Os' => v = .bool true ∧ Ps' = [] ∧ Os' = []) := by
 refine zSp [.slice LA l.length lc, .slice A a.length k, .slice MA m.length mc, .slice B b.length kb] Tryz.func7 Tryz.ntmps7 (fun w0 hp0 hf0 => ?_)
 refine zR 1 ?_
 refine go_len (xs := l) zM (fun ll ml => ?_)
 refine go_len (xs := a) zM (fun la ma => ?_)
 refine go_len (xs := m) zM (fun lm mm => ?_)
 refine go_len (xs := b) zM (fun lb mb => ?_)
 refine zC3 8 (law14Few l LA lc a A k) ?_
 refine zG 2 33 ?_ ?_
 ·intro g1
  (try simp only [dcs, ne_eq] at g1)
  refine zE 22 [0, 1, 2, 3, 54] ?_
  refine zDt 0 ?_
  refine zC3 2 lawWorks15 ?_
  refine zT 2 rfl ⟨rfl, rfl, rfl⟩
 intro g1
 (try simp only [dcs, ne_eq] at g1)
 refine zC3 2 (law14Few m MA mc b B kb) ?_
 refine zG 3 39 ?_ ?_
 ·intro g2
  (try simp only [dcs, ne_eq] at g2)
  refine zE 16 [0, 1, 2, 3, 54] ?_
  refine zDt 0 ?_
  refine zC3 2 lawWorks15 ?_
  refine zT 2 rfl ⟨rfl, rfl, rfl⟩
 intro g2
 (try simp only [dcs, ne_eq] at g2)
 refine zR 5 ?_
 refine go_i64 44 rfl (by omega) (by omega) ?_
 refine zG 3 47 ?_ ?_
 ·intro g3
  (try simp only [dcs, ne_eq] at g3)
  refine zE 8 [0, 1, 2, 3, 54] ?_
  refine zDt 0 ?_
  refine zC3 2 lawWorks15 ?_
  refine zT 2 rfl ⟨rfl, rfl, rfl⟩
 intro g3
 (try simp only [dcs, ne_eq] at g3)
 refine zR 5 ?_
 refine go_i64 52 rfl (by omega) (by omega) ?_
 refine zE 3 [0, 1, 2, 3, 54] ?_
 refine zB 0 ?_ ?_
 ·intro g4
  (try simp only [dcs, ne_eq] at g4)
  refine zC3 2 lawWorks15 ?_
  refine zT 2 rfl ⟨rfl, rfl, rfl⟩
 intro g4
 (try simp only [dcs, ne_eq] at g4)
 refine zR 3 ?_
 have fp := few14_of g1
 have hlen : l.length ≤ 20 ∧ a.length ≤ 30 := ⟨fp.1, fp.2.1⟩
 have hla : ∀ x ∈ a, x.a.length ≤ 30 := (few11_of fp.2.2.1).2.2
 have hbl : ∀ c ∈ l, c.b.length ≤ 1000 := fun c hc => Nat.le_trans ((few11_of fp.2.2.1).2.1 c hc).1 (by omega)
 have hfa : ∀ x ∈ a, x.ok ∧ x.a.length ≤ 100000 := fun x hx => ⟨ga x hx, Nat.le_trans (hla x hx) (by omega)⟩
 have hfl := fof_len a
 have fp2 := few14_of g2
 have hfb : ∀ x ∈ b, x.ok ∧ x.a.length ≤ 100000 := fun x hx => ⟨gb x hx, Nat.le_trans ((few11_of fp2.2.2.1).2.2 x hx) (by omega)⟩
 refine zR 4 ?_
 refine zO (X := Nat) (fun i => [(9, .int .i64 (i : Int))]) [0, 1, 2, 3] (fun _ => []) (fun i => i ≤ l.length ∧ ∀ c ∈ l.take i, lowC c) (fun i => l.length - i) 0 ⟨by omega, by simp⟩ ?_
 intro i ⟨hi, hz⟩
 refine zD 8 ?_ ?_
 ·intro hq1
  refine zR 5 ?_
  refine go_elem_cl (xs := l) zM (i) (List.getElem?_eq_getElem (by omega)) (fun b1 o1 A1 c1 B1 d1 hA => ?_); cases hA
  refine zI 3 ?_
  refine zL 2 ?_
  refine zC3 0 (law15High l[i].h.p) ?_
  refine zB 1 ?_ ?_
  ·intro g5
   (try simp only [dcs, ne_eq] at g5)
   refine zC3 2 lawWorks15 ?_
   refine zE 2 [8] ?_
   refine zT 0 rfl ⟨rfl, rfl, rfl⟩
  intro g5
  (try simp only [dcs, ne_eq] at g5)
  refine zR 2 ?_
  refine go_len (xs := l[i].b) zM (fun l1 m1 => ?_)
  refine zR 4 ?_
  refine zO (X := Nat) (fun j => [(10, .int .i64 (j : Int))]) [0, 1, 2, 3, 9] (fun _ => []) (fun j => j ≤ l[i].b.length ∧ ∀ x ∈ l[i].b.take j, x.a.p < far) (fun j => l[i].b.length - j) 0 ⟨by omega, by simp⟩ ?_
  intro j ⟨hj, hy⟩
  refine zI 6 ?_
  refine zL 1 ?_
  refine zD' 3 ?_ ?_
  ·intro hq2
   refine zR 7 ?_
   refine go_i64 9 rfl (by omega) (by omega) ?_
   refine zz (i + 1) (⟨by omega, mem_take_next (by omega) hz ⟨g5, by rw [List.take_of_length_le (by omega)] at hy; exact hy⟩⟩) (by omega)
  intro hq2
  refine zR 4 ?_
  refine go_elem_li (xs := l[i].b) zM (j) (List.getElem?_eq_getElem (by omega)) (fun b2 o2 A2 c2 hA => ?_); cases hA
  refine zI 3 ?_
  refine zL 1 ?_
  refine zI 1 ?_
  refine zL 2 ?_
  refine zC3 0 (law15High l[i].b[j].a.p) ?_
  refine zE 1 [0, 1, 2, 3, 9, 10, 90] ?_
  refine zB 0 ?_ ?_
  ·intro g6
   (try simp only [dcs, ne_eq] at g6)
   refine zC3 2 lawWorks15 ?_
   refine zT 2 rfl ⟨rfl, rfl, rfl⟩
  intro g6
  (try simp only [dcs, ne_eq] at g6)
  refine zR 7 ?_
  refine go_i64 10 rfl (by omega) (by omega) ?_
  refine zz (j + 1) (⟨by omega, mem_take_next (by omega) hy g6⟩) (by omega)
 intro hq1
 refine zR 3 ?_
 rw [List.take_of_length_le (by omega)] at hz
 refine zR 4 ?_
 refine zO (X := Nat) (fun i => [(11, .int .i64 (i : Int))]) [0, 1, 2, 3] (fun _ => []) (fun i => i ≤ a.length ∧ ∀ x ∈ a.take i, x.p < far) (fun i => a.length - i) 0 ⟨by omega, by simp⟩ ?_
 intro i ⟨hi, hza⟩
 refine zD 8 ?_ ?_
 ·intro hq3
  refine zR 4 ?_
  refine go_elem_fa (xs := a) zM (i) (List.getElem?_eq_getElem (by omega)) (fun b1 o1 A1 c1 hA => ?_); cases hA
  refine zI 3 ?_
  refine zL 1 ?_
  refine zC3 0 (law15High a[i].p) ?_
  refine zB' 1 ?_ ?_
  ·intro g7
   (try simp only [dcs, ne_eq] at g7)
   refine zR 7 ?_
   refine go_i64 11 rfl (by omega) (by omega) ?_
   refine zz (i + 1) (⟨by omega, mem_take_next (by omega) hza g7⟩) (by omega)
  intro g7
  (try simp only [dcs, ne_eq] at g7)
  refine zC3 2 lawWorks15 ?_
  refine zE 2 [8] ?_
  refine zT 0 rfl ⟨rfl, rfl, rfl⟩
 intro hq3
 refine zR 2 ?_
 rw [List.take_of_length_le (by omega)] at hza
 refine zV 1 ?_
 intro bz
 refine go_lit_ol (b := bz) tCl [] zM (fun _ _ => rfl) (by simp) ?_
 refine zR 1 ?_
 refine go_appendN (T := tCl) (xs := []) (ys := l) Tk rfl rfl rfl rfl rfl rfl rfl rfl rfl zM rfl zM (by simp only [List.length_nil]; omega) zH ?_
 intro B1 j1
 rw [List.nil_append]
 refine zR 4 ?_
 have hb12 : l = (l ++ (m.take (0)).map awO) := by simp
 refine go_same (A := ol tCl 36 B1 j1 l) (B := ol tCl 36 B1 j1 (l ++ (m.take (0)).map awO)) zM (by rw [← hb12]) ?_
 refine go_re 12 (.slice B1 (l ++ (m.take (0)).map awO).length j1) (by show some _ = some _; rw [← hb12]) ?_
 refine zR 4 ?_
 refine zO (X := Nat × Option Addr × Nat) (fun x => [(12, .slice x.2.1 (l ++ (m.take (x.1)).map awO).length x.2.2), (13, .int .i64 (x.1 : Int))]) [0, 1, 2, 3] (fun x => [ol tCl 36 x.2.1 x.2.2 (l ++ (m.take (x.1)).map awO)]) (fun x => x.1 ≤ m.length) (fun x => m.length - x.1) (0, B1, j1) (Nat.zero_le _) ?_
 intro ⟨i, B2, j2⟩ hi
 simp only at hi ⊢
 refine zD 8 ?_ ?_
 ·intro hq4
  refine zR 4 ?_
  refine go_elem_cl (xs := m) zM (i) (List.getElem?_eq_getElem (by omega)) (fun b3 o3 A3 c3 B3 d3 hA => ?_); cases hA
  refine zI 3 ?_
  refine zL 1 ?_
  refine zC3 0 (law15Away m[i].h A3 c3) ?_
  obtain ⟨z1, hz1⟩ : ∃ z, z = orF m[i].h.p := ⟨_, rfl⟩
  rw [← hz1]
  refine zq 0 ?_
  refine zW 0 ?_
  intro bD
  refine zS 0 ?_
  refine zR 3 ?_
  refine go_len (xs := m[i].b) zM (fun l3 m3 => ?_)
  have hmb : m[i].b.length ≤ 1000 := Nat.le_trans ((few11_of fp2.2.2.1).2.1 _ (List.getElem_mem _)).1 (by omega)
  refine zR 3 ?_
  refine go_own_nil tLi 45 none ?_
  refine go_same (A := ol tLi 45 none 0 []) (B := ol tLi 45 none 0 ((m[i].b.take (0)).map orL)) zM (by rfl) ?_
  refine go_same (A := pt bD 36 _) (B := pt bD 36 [.int .u32 z1, .slice A3 m[i].h.a.length c3, .slice none ((m[i].b.take (0)).map orL).length 0]) zM (by rfl) ?_
  refine zR 1 ?_
  refine zO (X := Nat × Option Addr × Nat) (fun x => [(15, .int .i64 (x.1 : Int))]) [0, 1, 2, 3, 12, 13, 14] (fun x => [pt bD 36 [.int .u32 z1, .slice A3 m[i].h.a.length c3, .slice x.2.1 ((m[i].b.take (x.1)).map orL).length x.2.2], ol tLi 45 x.2.1 x.2.2 ((m[i].b.take (x.1)).map orL)]) (fun x => x.1 ≤ m[i].b.length) (fun x => m[i].b.length - x.1) (0, none, 0) (Nat.zero_le _) ?_
  intro ⟨j, B4, j4⟩ hj
  simp only at hj ⊢
  refine zI 6 ?_
  refine zL 1 ?_
  refine zD' 3 ?_ ?_
  ·intro hq5
   refine zR 1 ?_
   rw [show m[i].b.take j = m[i].b from List.take_of_length_le (by omega)]
   refine go_freeze_ol (xs := m[i].b.map orL) zM ?_
   refine zL 2 ?_
   refine zV 0 ?_
   intro b1
   refine go_append1 (T := tCl) (xs := (l ++ (m.take (i)).map awO)) Tk ((⟨⟨z1, m[i].h.a⟩, m[i].b.map orL⟩ : Cl)) rfl rfl rfl rfl rfl rfl rfl rfl rfl zM zM rfl (ent_cl (x := ⟨⟨z1, m[i].h.a⟩, m[i].b.map orL⟩) zM zM) (by rw [List.length_append, List.length_map, List.length_take]; omega) zH ?_
   intro B6 j6
   refine zE 2 [0, 1, 2, 3, 12, 13] ?_
   refine zR 6 ?_
   refine go_i64n 13 (i + 1) rfl ?_
   rw [show (l ++ (m.take (i)).map awO) ++ [(⟨⟨z1, m[i].h.a⟩, m[i].b.map orL⟩ : Cl)] = (l ++ (m.take (i + 1)).map awO) by rw [hz1, List.take_succ_eq_append_getElem (show i < m.length by omega), List.map_append, List.append_assoc]; rfl]
   refine zz (i + 1, B6, j6) (by show i + 1 ≤ _; omega) (by show _ - (i + 1) < _ - i; omega)
  intro hq5
  refine zR 3 ?_
  refine go_elem_li (xs := m[i].b) zM (j) (List.getElem?_eq_getElem (by omega)) (fun b4 o4 A4 c4 hA => ?_); cases hA
  refine go_draw ([cl b3 (o3 + i * 3) [.int .u32 m[i].h.p, .slice A3 m[i].h.a.length c3, .slice (some ⟨b4, o4, none⟩) m[i].b.length d3], cl b4 (o4 + j * 3) [.bool m[i].b[j].no, .int .u32 m[i].b[j].a.p, .slice A4 m[i].b[j].a.a.length c4]]) ([pt bD 36 [.int .u32 z1, .slice A3 m[i].h.a.length c3, .slice B4 ((m[i].b.take (j)).map orL).length j4]]) [1, 6, 10, 15, 19] (SL.pre [(1, 0), (1, 2), (1, 3), (1, 4), (1, 5), (1, 7), (1, 11), (1, 12), (1, 13), (1, 14), (1, 16), (2, 1), (2, 6), (1, 8), (1, 9), (2, 10), (2, 15), (1, 17), (1, 18), (2, 19), (0, 20), (1, 21), (0, 22), (0, 23), (1, 24), (0, 25)] .nil) mixed rfl (by kernel_rfl) ?_
  refine zI 3 ?_
  refine zI 4 ?_
  refine zK 2 ?_
  refine zK 0 ?_
  refine zI 0 ?_
  refine zK 1 ?_
  refine zK 0 ?_
  refine zI 0 ?_
  refine zK 1 ?_
  refine go_call (law15Away m[i].b[j].a A4 c4) rfl rfl (by rfl) rfl zM zM (fun _ v Ps' Os' hq => by obtain ⟨rfl, rfl, rfl⟩ := hq; exact satS zM zM) ?_
  rintro _ _ _ ⟨rfl, rfl, rfl⟩
  obtain ⟨z2, hz2⟩ : ∃ z, z = orF m[i].b[j].a.p := ⟨_, rfl⟩
  rw [← hz2]
  refine go_val1 rfl (fun a w hp ho hf hs => build_val Tk rfl rfl rfl (by rfl) a w hf) rfl ?_
  refine go_bslice Tk rfl rfl rfl rfl rfl rfl rfl rfl (fun _ _ => satA) ?_
  intro bL
  refine go_append1 (T := tLi) (xs := ((m[i].b.take (j)).map orL)) Tk ((⟨m[i].b[j].no, ⟨z2, m[i].b[j].a.a⟩⟩ : Li)) rfl rfl rfl rfl rfl rfl rfl rfl rfl zM zM rfl (ent_li (x := ⟨m[i].b[j].no, ⟨z2, m[i].b[j].a.a⟩⟩) zM) (by rw [List.length_map, List.length_take]; omega) zH ?_
  intro B5 j5
  refine zR 1 ?_
  refine go_store Tk rfl rfl rfl rfl rfl rfl zM rfl rfl (by rfl) zQ ?_
  refine zE 1 [0, 1, 2, 3, 12, 13, 14, 15] ?_
  refine zR 6 ?_
  refine go_i64n 15 (j + 1) rfl ?_
  rw [show ((m[i].b.take (j)).map orL) ++ [(⟨m[i].b[j].no, ⟨z2, m[i].b[j].a.a⟩⟩ : Li)] = ((m[i].b.take (j + 1)).map orL) by rw [hz2, List.take_succ_eq_append_getElem (show j < m[i].b.length by omega), List.map_append]; rfl]
  refine zz (j + 1, B5, j5) (by show j + 1 ≤ _; omega) (by show _ - (j + 1) < _ - j; omega)
 intro hq4
 refine zR 2 ?_
 rw [show m.take i = m from List.take_of_length_le (by omega)]
 refine go_freeze_ol (xs := l ++ m.map awO) zM ?_
 refine zV 1 ?_
 intro bw
 refine go_lit_ol (b := bw) tFa [] zM (fun _ _ => rfl) (by simp) ?_
 refine zR 1 ?_
 refine go_appendN (T := tFa) (xs := []) (ys := a) Tk rfl rfl rfl rfl rfl rfl rfl rfl rfl zM rfl zM (by simp only [List.length_nil]; omega) zH ?_
 intro B7 j7
 rw [List.nil_append]
 refine zR 4 ?_
 have hb16 : a = (a ++ (b.take (0)).map orFa) := by simp
 refine go_same (A := ol tFa 39 B7 j7 a) (B := ol tFa 39 B7 j7 (a ++ (b.take (0)).map orFa)) zM (by rw [← hb16]) ?_
 refine go_re 16 (.slice B7 (a ++ (b.take (0)).map orFa).length j7) (by show some _ = some _; rw [← hb16]) ?_
 refine zR 4 ?_
 refine zO (X := Nat × Option Addr × Nat) (fun x => [(16, .slice x.2.1 (a ++ (b.take (x.1)).map orFa).length x.2.2), (17, .int .i64 (x.1 : Int))]) [0, 1, 2, 3, 12] (fun x => [ol tFa 39 x.2.1 x.2.2 (a ++ (b.take (x.1)).map orFa)]) (fun x => x.1 ≤ b.length) (fun x => b.length - x.1) (0, B7, j7) (Nat.zero_le _) ?_
 intro ⟨n, B8, j8⟩ hn
 simp only at hn ⊢
 refine zD 8 ?_ ?_
 ·intro hq6
  refine zR 3 ?_
  refine go_elem_fa (xs := b) zM (n) (List.getElem?_eq_getElem (by omega)) (fun b5 o5 A5 c5 hA => ?_); cases hA
  refine go_draw ([cl b5 (o5 + n * 2) [.int .u32 b[n].p, .slice A5 b[n].a.length c5]]) ([]) [5, 11] (SL.pre [(1, 0), (1, 1), (1, 2), (1, 3), (1, 4), (1, 7), (1, 8), (1, 9), (1, 10), (2, 5), (1, 6), (2, 11), (1, 12), (0, 13), (0, 14), (1, 15)] .nil) mixed rfl (by kernel_rfl) ?_
  refine zI 3 ?_
  refine zI 3 ?_
  refine zK 1 ?_
  refine zR 1 ?_
  obtain ⟨z3, hz3⟩ : ∃ z, z = orF b[n].p := ⟨_, rfl⟩
  refine go_re 175 (.int .u32 z3) (by rw [hz3]; rfl) ?_
  refine zK 0 ?_
  refine go_val1 rfl (fun a w hp ho hf hs => build_val Tk rfl rfl rfl (by rfl) a w hf) rfl ?_
  refine zV 0 ?_
  intro bN
  refine go_append1 (T := tFa) (xs := (a ++ (b.take (n)).map orFa)) Tk ((⟨z3, b[n].a⟩ : Fa)) rfl rfl rfl rfl rfl rfl rfl rfl rfl zM zM rfl (ent_fa (x := ⟨z3, b[n].a⟩) zM) (by rw [List.length_append, List.length_map, List.length_take]; omega) zH ?_
  intro B9 j9
  refine zE 2 [0, 1, 2, 3, 12, 16, 17] ?_
  refine zR 6 ?_
  refine go_i64n 17 (n + 1) rfl ?_
  rw [show (a ++ (b.take (n)).map orFa) ++ [(⟨z3, b[n].a⟩ : Fa)] = (a ++ (b.take (n + 1)).map orFa) by rw [hz3, List.take_succ_eq_append_getElem (show n < b.length by omega), List.map_append, List.append_assoc]; rfl]
  refine zz (n + 1, B9, j9) (by show n + 1 ≤ _; omega) (by show _ - (n + 1) < _ - n; omega)
 intro hq6
 refine zR 3 ?_
 rw [show b.take n = b from List.take_of_length_le (by omega)]
 refine go_freeze_ol (xs := a ++ b.map orFa) zM ?_
 refine zR 4 ?_
 refine zO (X := Nat) (fun i => [(18, .int .i64 (i : Int))]) [0, 1, 2, 3, 12, 16] (fun _ => []) (fun i => i ≤ b.length ∧ ∀ x ∈ b.take i, x.p < far) (fun i => b.length - i) 0 ⟨by omega, by simp⟩ ?_
 intro i2 ⟨hi2, hzb⟩
 refine zD 8 ?_ ?_
 ·intro hq7
  refine zR 4 ?_
  refine go_elem_fa (xs := b) zM (i2) (List.getElem?_eq_getElem (by omega)) (fun b6 o6 A6 c6 hA => ?_); cases hA
  refine zI 3 ?_
  refine zL 1 ?_
  refine zC3 0 (law15High b[i2].p) ?_
  refine zB 1 ?_ ?_
  ·intro g8
   (try simp only [dcs, ne_eq] at g8)
   refine zC3 2 lawWorks15 ?_
   refine zE 2 [8] ?_
   refine zT 0 rfl ⟨rfl, rfl, rfl⟩
  intro g8
  (try simp only [dcs, ne_eq] at g8)
  refine zR 7 ?_
  refine go_i64 18 rfl (by omega) (by omega) ?_
  refine zz (i2 + 1) (⟨by omega, mem_take_next (by omega) hzb g8⟩) (by omega)
 intro hq7
 refine zR 3 ?_
 rw [List.take_of_length_le (by omega)] at hzb
 refine zR 4 ?_
 refine zO (X := Nat) (fun i => [(19, .int .i64 (i : Int))]) [0, 1, 2, 3, 12, 16] (fun _ => []) (fun i => i ≤ m.length ∧ ∀ c ∈ m.take i, lowC c) (fun i => m.length - i) 0 ⟨by omega, by simp⟩ ?_
 intro i3 ⟨hi3, hzm⟩
 refine zD 8 ?_ ?_
 ·intro hq8
  refine zR 5 ?_
  refine go_elem_cl (xs := m) zM (i3) (List.getElem?_eq_getElem (by omega)) (fun b6 o6 A6 c6 B10 d10 hA => ?_); cases hA
  refine zI 3 ?_
  refine zL 2 ?_
  refine zC3 0 (law15High m[i3].h.p) ?_
  refine zB 1 ?_ ?_
  ·intro g9
   (try simp only [dcs, ne_eq] at g9)
   refine zC3 2 lawWorks15 ?_
   refine zE 2 [8] ?_
   refine zT 0 rfl ⟨rfl, rfl, rfl⟩
  intro g9
  (try simp only [dcs, ne_eq] at g9)
  refine zR 2 ?_
  refine go_len (xs := m[i3].b) zM (fun l6 m6 => ?_)
  refine zR 4 ?_
  refine zO (X := Nat) (fun j => [(20, .int .i64 (j : Int))]) [0, 1, 2, 3, 12, 16, 19] (fun _ => []) (fun j => j ≤ m[i3].b.length ∧ ∀ x ∈ m[i3].b.take j, x.a.p < far) (fun j => m[i3].b.length - j) 0 ⟨by omega, by simp⟩ ?_
  intro j ⟨hj, hy⟩
  refine zI 6 ?_
  refine zL 1 ?_
  refine zD' 3 ?_ ?_
  ·intro hq9
   refine zR 7 ?_
   refine go_i64 19 rfl (by omega) (by omega) ?_
   refine zz (i3 + 1) (⟨by omega, mem_take_next (by omega) hzm ⟨g9, by rw [List.take_of_length_le (by omega)] at hy; exact hy⟩⟩) (by omega)
  intro hq9
  refine zR 4 ?_
  refine go_elem_li (xs := m[i3].b) zM (j) (List.getElem?_eq_getElem (by omega)) (fun b7 o7 A7 c7 hA => ?_); cases hA
  refine zI 3 ?_
  refine zL 1 ?_
  refine zI 1 ?_
  refine zL 2 ?_
  refine zC3 0 (law15High m[i3].b[j].a.p) ?_
  refine zE 1 [0, 1, 2, 3, 12, 16, 19, 20, 231] ?_
  refine zB 0 ?_ ?_
  ·intro g10
   (try simp only [dcs, ne_eq] at g10)
   refine zC3 2 lawWorks15 ?_
   refine zT 2 rfl ⟨rfl, rfl, rfl⟩
  intro g10
  (try simp only [dcs, ne_eq] at g10)
  refine zR 7 ?_
  refine go_i64 20 rfl (by omega) (by omega) ?_
  refine zz (j + 1) (⟨by omega, mem_take_next (by omega) hy g10⟩) (by omega)
 intro hq8
 refine zR 2 ?_
 rw [List.take_of_length_le (by omega)] at hzm
 rw [map_orFa gb hzb, map_awO gm hzm]
 refine zC 3 (modelOf l LA lc a A k 60 gl hfa (by omega) (by omega) (fun c hc F R N new h => big14 fp (by omega) N c hc F R new h)) ?_
 rintro _ _ _ ⟨A1, k1, r1, e1, hM1, rfl, rfl, rfl⟩
 refine zE 6 [2, 3, 12, 16, 21, 22] ?_
 refine zC 4 (modelOf m MA mc b B kb 60 gm hfb (by omega) (by omega) (fun c hc F R N new h => big14 fp2 (by omega) N c hc F R new h)) ?_
 rintro _ _ _ ⟨A2, k2, r2, e2, hM2, rfl, rfl, rfl⟩
 refine zC 10 (modelOf (l ++ m.map awC) B2 j2 (a ++ b.map awF) B8 j8 120 (app_oks gl gm hzm) (app_facts hfa hfb hzb) (by rw [List.length_append, List.length_map]; omega) (by omega) (big_aw fp fp2)) ?_
 rintro _ _ _ ⟨A3, k3, r3, e3, hM3, rfl, rfl, rfl⟩
 refine zE 6 [21, 22, 23, 24, 25, 26] ?_
 refine zG 6 253 ?_ ?_
 ·intro g11
  (try simp only [dcs, ne_eq] at g11)
  refine zDt 4 ?_
  refine zC3 2 lawWorks15 ?_
  refine zE 2 [8] ?_
  refine zT 0 rfl ⟨rfl, rfl, rfl⟩
 intro g11
 (try simp only [dcs, ne_eq] at g11)
 refine zB 4 ?_ ?_
 ·intro g12
  (try simp only [dcs, ne_eq] at g12)
  refine zC3 2 lawWorks15 ?_
  refine zE 2 [8] ?_
  refine zT 0 rfl ⟨rfl, rfl, rfl⟩
 intro g12
 (try simp only [dcs, ne_eq] at g12)
 subst g11
 subst g12
 obtain ⟨_, _, M, rfl, _, hMl, _⟩ := hM1.ok gl rfl
 obtain ⟨_, _, M2, rfl, _, hMl2, hSt2⟩ := hM2.ok gm rfl
 have hf2 := hM2.fine gm hfb
 have hp2 : ∀ x ∈ M2, x.p < far := fun x hx => hSt2.p (P := fun p => p < far) (fun c hc => (hzm c hc).1) (fun x hx => hzb x (mem_fof.1 hx)) x hx
 obtain ⟨rfl, rfl⟩ := model_apart (most := 60) gl gm (app_oks gl gm hzm) gb hz hza (by omega) hM1 hM2 hM3
 refine go_re 21 (.slice A1 M.length k1) (by rfl) ?_
 refine go_sl (sl tFa A1 k1 ((some M).getD [])) (sl tFa A1 k1 M) zM (fun _ h => h) ?_
 refine go_re 23 (.slice A2 M2.length k2) (by rfl) ?_
 refine go_sl (sl tFa A2 k2 ((some M2).getD [])) (sl tFa A2 k2 M2) zM (fun _ h => h) ?_
 refine go_re 25 (.slice A3 (fof (M ++ M2.map awF)).length k3) (by rfl) ?_
 refine go_sl (sl tFa A3 k3 ((some (fof (M ++ M2.map awF))).getD [])) (sl tFa A3 k3 (fof (M ++ M2.map awF))) zM (fun _ h => h) ?_
 refine go_len (xs := M2) zM (fun l2 m2 => ?_)
 refine zR 6 ?_
 refine go_own_nil tFa 39 none ?_
 refine zR 3 ?_
 refine go_appendN (T := tFa) (xs := []) (ys := M) Tk rfl rfl rfl rfl rfl rfl rfl rfl rfl zM rfl zM (by simp only [List.length_nil]; omega) zH ?_
 intro B11 j11
 rw [List.nil_append]
 refine zE 2 [23, 25, 26, 27] ?_
 refine zR 2 ?_
 have hb27 : M = (M ++ (M2.take (0)).map orFa) := by simp
 refine go_same (A := ol tFa 39 B11 j11 M) (B := ol tFa 39 B11 j11 (M ++ (M2.take (0)).map orFa)) zM (by rw [← hb27]) ?_
 refine go_re 27 (.slice B11 (M ++ (M2.take (0)).map orFa).length j11) (by show some _ = some _; rw [← hb27]) ?_
 refine zR 4 ?_
 refine zO (X := Nat × Option Addr × Nat) (fun x => [(27, .slice x.2.1 (M ++ (M2.take (x.1)).map orFa).length x.2.2), (28, .int .i64 (x.1 : Int))]) [23, 25, 26] (fun x => [ol tFa 39 x.2.1 x.2.2 (M ++ (M2.take (x.1)).map orFa)]) (fun x => x.1 ≤ M2.length) (fun x => M2.length - x.1) (0, B11, j11) (Nat.zero_le _) ?_
 intro ⟨n2, B12, j12⟩ hn2
 simp only at hn2 ⊢
 refine zD' 8 ?_ ?_
 ·intro hq10
  refine zR 2 ?_
  rw [show M2.take n2 = M2 from List.take_of_length_le (by omega), map_orFa (fun x hx => (hf2 x hx).1) hp2]
  refine go_freeze_ol (xs := M ++ M2.map awF) zM ?_
  refine zR 3 ?_
  refine go_re 283 (.bool true) (by show some (Value.bool _) = _; first | rfl | simp) ?_
  refine zC 3 (ref13Sorted B12 j12 (M ++ M2.map awF) (by rw [List.length_append, List.length_map]; omega)) ?_
  rintro _ _ _ ⟨D5, e5, rfl, rfl, rfl⟩
  refine zC3 0 (ref13Same A3 k3 (fof (M ++ M2.map awF)) D5 e5 (fof (M ++ M2.map awF))) ?_
  refine zR 1 ?_
  refine go_re 289 (.bool true) (by show some (Value.bool _) = _; simp) ?_
  refine zC3 1 lawWorks15 ?_
  refine zE 3 [8] ?_
  refine zT 0 rfl ⟨rfl, rfl, rfl⟩
 intro hq10
 refine zR 3 ?_
 refine go_elem_fa (xs := M2) zM (n2) (List.getElem?_eq_getElem (by omega)) (fun b8 o8 A8 c8 hA => ?_); cases hA
 refine go_draw ([cl b8 (o8 + n2 * 2) [.int .u32 M2[n2].p, .slice A8 M2[n2].a.length c8]]) ([]) [5, 11] (SL.pre [(1, 0), (1, 1), (1, 2), (1, 3), (1, 4), (1, 7), (1, 8), (1, 9), (1, 10), (2, 5), (1, 6), (2, 11), (1, 12), (0, 13), (0, 14), (1, 15)] .nil) mixed rfl (by kernel_rfl) ?_
 refine zI 3 ?_
 refine zI 3 ?_
 refine zK 1 ?_
 refine zR 1 ?_
 obtain ⟨z4, hz4⟩ : ∃ z, z = orF M2[n2].p := ⟨_, rfl⟩
 refine go_re 273 (.int .u32 z4) (by rw [hz4]; rfl) ?_
 refine zK 0 ?_
 refine go_val1 rfl (fun a w hp ho hf hs => build_val Tk rfl rfl rfl (by rfl) a w hf) rfl ?_
 refine zV 0 ?_
 intro bQ
 refine go_append1 (T := tFa) (xs := (M ++ (M2.take (n2)).map orFa)) Tk ((⟨z4, M2[n2].a⟩ : Fa)) rfl rfl rfl rfl rfl rfl rfl rfl rfl zM zM rfl (ent_fa (x := ⟨z4, M2[n2].a⟩) zM) (by rw [List.length_append, List.length_map, List.length_take]; omega) zH ?_
 intro B13 j13
 refine zE 2 [23, 25, 26, 27, 28] ?_
 refine zR 6 ?_
 refine go_i64n 28 (n2 + 1) rfl ?_
 rw [show (M ++ (M2.take (n2)).map orFa) ++ [(⟨z4, M2[n2].a⟩ : Fa)] = (M ++ (M2.take (n2 + 1)).map orFa) by rw [hz4, List.take_succ_eq_append_getElem (show n2 < M2.length by omega), List.map_append, List.append_assoc]; rfl]
 refine zz (n2 + 1, B13, j13) (by show n2 + 1 ≤ _; omega) (by show _ - (n2 + 1) < _ - n2; omega)
end Go.Proofs.YtpgnmfnckjnecaaGreat.SL
namespace Go.Proofs.YtpgnmfnckjnecaaGreat.SL
open Go.RowKit Go.Deep
def Opens (P : Program) (t : TypeId) {α : Type} (T : Ty α) (G : α → Prop) : Prop :=
  ∀ {H : Type} {enc : TypeId × Value → H} {W : World} {base : Nat} {sp : Nat → Bool} {hd : Bool} {fuel : Nat} {cs : List Value} {x : DataW H × List MemPlace}, DataW.trod enc P W base sp hd fuel t cs = some x → ∃ v, T.rep (hpOf W) v cs ∧ G v
theorem wf_u32 {n : Int} (h : (Lit.int .u32 n).wf = true) : 0 ≤ n ∧ n < 4294967296 := by
  simp [Lit.wf, IntKind.min, IntKind.max, IntKind.signed, IntKind.bits] at h; omega
section
variable {P : Program}
theorem opens_int {t : TypeId} {k : IntKind} (ht : P.underlying t = some (.int k)) : Opens P t (tInt k) (fun n => (Lit.int k n).wf = true) := fun h => by
  obtain ⟨n, rfl, _, hw⟩ := DataW.trod_int ht h
  exact ⟨n, rfl, hw⟩
theorem opens_bool {t : TypeId} (ht : P.underlying t = some .bool) : Opens P t tBool (fun _ => True) := fun h => by
  obtain ⟨n, rfl, _⟩ := DataW.trod_bool ht h
  exact ⟨n, rfl, trivial⟩
theorem opens_iso {t : TypeId} {α β : Type} {T : Ty β} {G : β → Prop} {G' : α → Prop} (f : α → β) (g : β → α) (o : Opens P t T G) (hg : ∀ b, f (g b) = b) (hG : ∀ b, G b → G' (g b)) : Opens P t (tIso T f) G' := fun h => by
  obtain ⟨v, r, q⟩ := o h
  exact ⟨g v, by show T.rep _ (f (g v)) _; rw [hg]; exact r, hG v q⟩
theorem opens_pair {t : TypeId} {f0 f1 : Field} {α β : Type} {T : Ty α} {U : Ty β} {G : α → Prop} {K : β → Prop} (ht : P.underlying t = some (.struct #[f0, f1])) (o0 : Opens P f0.type T G) (o1 : Opens P f1.type U K)
    (h0 : f0.offset = 0) (h1 : f1.offset = T.size) (c0 : P.cellsOf f0.type = T.size) (c1 : P.cellsOf f1.type = U.size) (ct : P.cellsOf t = T.size + U.size) : Opens P t (tPair T U) (fun x => G x.1 ∧ K x.2) := fun h => by
  obtain ⟨xs, n, _, rfl, hl, hlen, hf⟩ := DataW.trod_struct ht h
  match xs, hlen with
  | [y0, y1], _ =>
    have e0 := hf 0 f0 rfl
    have e1 := hf 1 f1 rfl
    obtain ⟨v0, r0, g0⟩ := o0 (by simpa using e0)
    obtain ⟨v1, r1, g1⟩ := o1 (by simpa using e1)
    refine ⟨(v0, v1), ⟨_, _, ?_, r0, r1⟩, g0, g1⟩
    rw [h0, h1, c0, c1, List.drop_zero]
    rw [ct] at hl
    rw [List.take_of_length_le (l := List.drop _ _) (by simp; omega), List.take_append_drop]
theorem opens_slice {t e : TypeId} {α : Type} {T : Ty α} {G : α → Prop} (ht : P.underlying t = some (.slice e)) (o : Opens P e T G) (hc : P.cellsOf e = T.size) (hp : 0 < T.size) : Opens P t (tSl T) (fun xs => ∀ x ∈ xs, G x) := fun {H enc W base sp hd fuel cs x} h => by
  rcases open_slice ht h with ⟨rfl, _⟩ | ⟨a, len, cap, m, n, D, Pl, rfl, hb, hl, hm, hmm, rfl, hx⟩
  · exact ⟨[], ⟨none, 0, rfl, by simp, by simp [maxLen], fun _ => rfl, fun j x hj => by simp at hj⟩, fun x hx => by cases hx⟩
  · have hlm : len ≤ m := by rw [hmm]; split <;> omega
    have el : ∀ i, i < len → ∃ v, (∃ cs, T.rep (hpOf W) v cs ∧ W.cells? base (a.add (i * T.size)) T.size = some cs) ∧ G v := fun i hi => by
      obtain ⟨cs', h1, h2⟩ := hx i (by omega)
      obtain ⟨v, r, g⟩ := o h2
      rw [hc] at h1
      exact ⟨v, ⟨cs', r, h1⟩, g⟩
    have ex : ∃ xs : List α, xs.length = len ∧ ∀ i x, xs[i]? = some x → (∃ cs, T.rep (hpOf W) x cs ∧ W.cells? base (a.add (i * T.size)) T.size = some cs) ∧ G x := by
      have key : ∀ k, k ≤ len → ∃ xs : List α, xs.length = k ∧ ∀ i x, xs[i]? = some x → (∃ cs, T.rep (hpOf W) x cs ∧ W.cells? base (a.add (i * T.size)) T.size = some cs) ∧ G x := by
        intro k
        induction k with
        | zero => exact fun _ => ⟨[], rfl, fun i x hx => by simp at hx⟩
        | succ k ih =>
          intro hk
          obtain ⟨xs, h1, h2⟩ := ih (by omega)
          obtain ⟨v, hv⟩ := el k (by omega)
          refine ⟨xs ++ [v], by simp [h1], fun i x hx => ?_⟩
          rw [List.getElem?_append] at hx
          split at hx
          · exact h2 i x hx
          · rename_i hlt
            have : i = k := by
              rcases Nat.eq_or_lt_of_le (show xs.length ≤ i by omega) with q | q
              · omega
              · rw [List.getElem?_eq_none (by simp; omega)] at hx; cases hx
            subst this
            simp [h1] at hx
            subst hx
            exact hv
      exact key len (Nat.le_refl _)
    obtain ⟨xs, h1, h2⟩ := ex
    refine ⟨xs, ⟨some a, cap, by rw [h1], by omega, hm, fun e => (by cases e), fun j x hj => ?_⟩, fun x hx => ?_⟩
    · obtain ⟨⟨cs, r, hcs⟩, _⟩ := h2 j x hj
      obtain ⟨_, hln, hget⟩ := World.cells?_some hcs
      have hspot : a.spot = none := by
        obtain ⟨v0, hv0⟩ : ∃ v, xs[0]? = some v := by
          cases xs with
          | nil => simp at hj
          | cons v l => exact ⟨v, rfl⟩
        obtain ⟨⟨cs0, _, hcs0⟩, _⟩ := h2 0 v0 hv0
        obtain ⟨_, hln0, hget0⟩ := World.cells?_some hcs0
        have := hget0 0 hp
        rw [List.getElem?_eq_getElem (by omega)] at this
        simp only [Nat.zero_mul, Addr.add, if_true, World.cell?] at this
        split at this
        · cases hs : a.spot with
          | none => rfl
          | some q => rw [hs] at this; simp at this
        · cases this
      obtain ⟨b, oo, sp0⟩ := a
      cases hspot
      refine ⟨b, oo, cs, rfl, r, fun i v hi => ?_⟩
      have hlt : i < T.size := by
        rw [← hln]
        rcases Nat.lt_or_ge i cs.length with q | q
        · exact q
        · simp [q] at hi
      have := hget i hlt
      rw [run_addOff, run_addOff, hi] at this
      unfold World.cell? at this
      unfold cellH hpOf
      rw [Nat.add_assoc] at this
      simp only at this ⊢
      split at this
      · rename_i e
        simp only [e]
        simpa using this
      · cases this
    · obtain ⟨j, hj, rfl⟩ := List.getElem_of_mem hx
      exact (h2 j _ (List.getElem?_eq_getElem hj)).2
theorem Spec.law {f : FuncId} {args : Array Value} {Ps : List PA} (s : Spec P f args Ps [] (fun v Ps' Os' => v = .bool true ∧ Ps' = [] ∧ Os' = [])) (W : World) (h : ∀ p, p ∈ Ps → p.p (hpOf W)) :
    Calls P f args W fun e W' => e = .returned (.bool true) ∧ Below W.heap.size W W' := by
  refine (s.calls W (hpOf W) Heap.nil Heap.nil ⟨Heap.le_refl _, Heap.nil_le _, Heap.dj_symm (Heap.nil_dj _), h, trivial⟩ (Heap.nil_le _) (Heap.nil_dj _) (Heap.nil_dj _)).mono ?_
  rintro e w' ⟨v, hp', ho', Ps', Os', rfl, ⟨rfl, _, _⟩, hs, hle, _, _, _, hr⟩
  refine ⟨rfl, hr.os, hr.tape, hr.output, hr.size, fun k hk => ?_⟩
  have h1 : hpOf W k = some W.heap[k] := by simp [hpOf, hk]
  have h2 := hs.inp _ _ (hle _ _ h1)
  unfold hpOf at h1 h2
  rw [h1, h2]
end
end Go.Proofs.YtpgnmfnckjnecaaGreat.SL
namespace Go.Proofs.YtpgnmfnckjnecaaGreat.SL
theorem opU : Opens Tryz.prog 30 tU (fun n => 0 ≤ n ∧ n < 4294967296) := fun h => (opens_int Tryz.underlying30 h).imp fun v q => ⟨q.1, wf_u32 q.2⟩
theorem opUs : Opens Tryz.prog 37 (tSl tU) (fun xs => ∀ x ∈ xs, (fun n : Int => 0 ≤ n ∧ n < 4294967296) x) := opens_slice Tryz.underlying37 opU (by kernel_rfl) (by decide)
theorem opFa : Opens Tryz.prog 39 tFa Fa.ok := opens_iso (fun x : Fa => (x.p, x.a)) (fun b => ⟨b.1, b.2⟩) (opens_pair Tryz.underlying39 opU opUs rfl rfl (by kernel_rfl) (by kernel_rfl) (by kernel_rfl)) (fun b => rfl) (fun b g => g)
theorem opFas : Opens Tryz.prog 23 (tSl tFa) (fun xs => ∀ x ∈ xs, Fa.ok x) := opens_slice Tryz.underlying23 opFa (by kernel_rfl) (by decide)
theorem opTm : Opens Tryz.prog 82 tTm Tm.ok := opens_iso (fun x : Tm => (x.v, x.n)) (fun b => ⟨b.1, b.2⟩) (opens_pair Tryz.underlying82 (opens_bool Tryz.underlying4) opU rfl rfl (by kernel_rfl) (by kernel_rfl) (by kernel_rfl)) (fun b => rfl) (fun b g => g.2)
theorem opTms : Opens Tryz.prog 31 (tSl tTm) (fun xs => ∀ x ∈ xs, Tm.ok x) := opens_slice Tryz.underlying31 opTm (by kernel_rfl) (by decide)
theorem opAm : Opens Tryz.prog 33 tAm Am.ok := opens_iso (fun x : Am => (x.p, x.a)) (fun b => ⟨b.1, b.2⟩) (opens_pair Tryz.underlying33 opU opTms rfl rfl (by kernel_rfl) (by kernel_rfl) (by kernel_rfl)) (fun b => rfl) (fun b g => g)
theorem opLi : Opens Tryz.prog 45 tLi (fun x : Li => x.a.ok) := opens_iso (fun x : Li => (x.no, x.a)) (fun b => ⟨b.1, b.2⟩) (opens_pair Tryz.underlying45 (opens_bool Tryz.underlying4) opAm rfl rfl (by kernel_rfl) (by kernel_rfl) (by kernel_rfl)) (fun b => rfl) (fun b g => g.2)
theorem opLis : Opens Tryz.prog 34 (tSl tLi) (fun xs => ∀ x ∈ xs, (fun x : Li => x.a.ok) x) := opens_slice Tryz.underlying34 opLi (by kernel_rfl) (by decide)
theorem opCl : Opens Tryz.prog 36 tCl Cl.ok := opens_iso (fun x : Cl => (x.h, x.b)) (fun b => ⟨b.1, b.2⟩) (opens_pair Tryz.underlying36 opAm opLis rfl rfl (by kernel_rfl) (by kernel_rfl) (by kernel_rfl)) (fun b => rfl) (fun b g => ⟨g.1, g.2⟩)
theorem opCls : Opens Tryz.prog 22 (tSl tCl) (fun xs => ∀ x ∈ xs, Cl.ok x) := opens_slice Tryz.underlying22 opCl (by kernel_rfl) (by decide)
theorem sized_len {H : Type} {enc : TypeId × Value → H} {P : Program} {W : World} {base : Nat} {sp : Nat → Bool} {hd : Bool} {fuel : Nat} {ts : List TypeId} {ds : List (DataW H)} {j : Nat} {t e : TypeId} {cs : List Value} {x : DataW H × List MemPlace} {A : Option Addr} {n c : Nat}
    (h : (DataW.weightsEach P ts ds).all (· ≤ reachBytes) = true) (ht : ts[j]? = some t) (hd' : ds[j]? = some x.1) (hu : P.underlying t = some (.slice e)) (hx : DataW.trod enc P W base sp hd fuel t cs = some x) (hc : cs = [.slice A n c]) (hb : Nat.ble 1 (P.bytesOf e) = true) : n ≤ 140737488351232 := by
  subst hc
  rcases Deep.open_slice hu hx with ⟨h1, _⟩ | ⟨a, len, cap, m, q, D, Pl, h1, _, _, _, _, rfl, _⟩
  · cases h1; omega
  · cases h1
    have := sized_slice h ht hd' hu
    have hb' := Nat.le_of_ble_eq_true hb
    have h2 : n ≤ n * P.bytesOf e := Nat.le_mul_of_pos_right _ hb'
    simp only [List.length_map, List.length_range] at this
    rw [Nat.add_mul] at this
    have h3 : reachBytes = 140737488351232 := rfl
    omega
end Go.Proofs.YtpgnmfnckjnecaaGreat.SL

