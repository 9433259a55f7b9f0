/- Engine, data and contracts: parts of the proof of ImpactDiff, put together (Ref13 Law13a Refcl Refg Refh Refk DY Ari DZ Fixa Fixb Modela Law13b Law14a Reffa Reffi Law13c Reffj Law14b Modelb EA EB EC Impa Impb Query0 Impc SJ Impd Impe ED Law30a EE Law30d S8 Open SE Law30l). -/
import Derived.Test.YtdconhalfanclaaGreatMImpactDiffB
import Derived.Test.YtdconhalfanclaaGreatMImpactDiffA
import Derived.Test.YtdconhalfanclaaGreatMImpactDiffD
import Derived.Test.YtdconhalfanclaaGreatMImpactDiffC
import Derived.WalkKit
import Derived.ProofKit
import Derived.OpenShut
import Derived.ShutString
import Derived.ChangeOld
import Derived.Below
import Derived.Carry
import Derived.SizedLaws
import Derived.Deep.Slices
set_option linter.unusedVariables false
set_option linter.unusedSimpArgs false
set_option maxHeartbeats 2000000
set_option maxRecDepth 20000
namespace Go.Proofs.YtdconhalfanclaaGreat.SL
open Go
theorem ref13Has (L : Option Addr) (lc : Nat) (l : List Fa) (q : Fa) (QA : Option Addr) (qc : Nat) :
    Spec Tryz.prog 13 #[.slice L l.length lc, .agg #[.int .u32 q.p, .slice QA q.a.length qc]] [sl tFa L lc l, sl tU QA qc q.a] [] (fun v Ps' Os' => v = .bool (decide (q ∈ l)) ∧ Ps' = [] ∧ Os' = []) := by
 refine zSp _ Tryz.func13 Tryz.ntmps13 (fun _ _ _ => ?_)
 refine zX 2 ?_
 intro b1
 refine zR 4 ?_
 refine go_len (xs := l) zM (fun l0 m0 => ?_)
 refine zR 4 ?_
 refine zO (X := Nat) (fun k => [(5, .int .i64 (k : Int))]) [0, 3] (fun _ => []) (fun k => k ≤ l.length ∧ ¬ q ∈ l.take k) (fun k => l.length - k) 0 ⟨by omega, by simp⟩ ?_
 intro k ⟨hk, hz⟩
 refine zD' 8 ?_ ?_
 ·intro hq1
  refine zT 5 rfl ⟨by rw [List.take_of_length_le (by omega)] at hz; rw [decide_eq_false hz], rfl, rfl⟩
 intro hq1
 refine zR 4 ?_
 refine go_elem_fa (xs := l) zM (k) (List.getElem?_eq_getElem (by omega)) (fun b0 o0 A0 c0 hA => ?_); cases hA
 refine zY 0 [1, 4, 7, 11, 14, 15, 19] ?_
 refine zI 2 ?_
 refine zK 0 ?_
 refine zK 0 ?_
 refine zC3 0 (refCompare _ _ _ _ _ _ _ _) ?_
 refine zD 2 ?_ ?_
 ·intro g1
  refine zE 4 [4] ?_
  refine zT 0 rfl ⟨by rw [decide_eq_true (show q ∈ l from (cmpF_zero (x := l[k]) (q := q)).1 g1 ▸ List.getElem_mem _)], rfl, rfl⟩
 intro g1
 refine zR 7 ?_
 refine zi 5 ?_
 refine zz (k + 1) (⟨by omega, not_next (by omega) hz g1⟩) (by omega)
theorem ref13With (L : Option Addr) (lc : Nat) (l : List Fa) (q : Fa) (QA : Option Addr) (qc : Nat) (hr : rises l) (hn : l.length ≤ 50000000) :
    Spec Tryz.prog 47 #[.slice L l.length lc, .agg #[.int .u32 q.p, .slice QA q.a.length qc]] [sl tFa L lc l, sl tU QA qc q.a] [] (fun v Ps' Os' => ∃ A' c', v = .slice A' (fput l q).length c' ∧ Ps' = [sl tFa A' c' (fput l q)] ∧ Os' = []) := by
 refine zSp _ Tryz.func47 Tryz.ntmps47 (fun _ _ _ => ?_)
 refine zR 1 ?_
 refine go_len (xs := l) zM (fun l0 m0 => ?_)
 refine zX 1 ?_
 intro bq
 refine go_freeze_pt (b := bq) zM ?_
 refine zL 6 ?_
 refine zC3 0 (ref13Has L lc l q QA qc) ?_
 refine zB 1 ?_ ?_
 ·intro g1
  (try simp only [dcs, ne_eq] at g1)
  refine zR 5 ?_
  refine go_ret ⟨rfl, rfl⟩ [sl tFa L lc l] [] (res1 (by rfl) (.tmp rfl)) ⟨L, lc, by rw [fput_yes g1], by rw [fput_yes g1], rfl⟩ zM zM
 intro g1
 (try simp only [dcs, ne_eq] at g1)
 refine zR 10 ?_
 refine go_own_nil tFa 40 none ?_
 refine zR 2 ?_
 refine go_draw ([cl bq 0 [.int .u32 q.p, .slice QA q.a.length qc]]) ([]) [3] (SL.pre [(1, 0), (1, 1), (2, 3)] (.two (SL.pre [(0, 2), (0, 4), (0, 5), (1, 6)] .nil) (SL.pre [(0, 4), (0, 2), (0, 5), (1, 6)] .nil))) mixed rfl (by kernel_rfl) ?_
 refine zK 2 ?_
 refine go_two ?_ ?_
 ·skip
  refine go_appendN (T := tFa) (xs := []) (ys := l) Tk rfl rfl rfl rfl rfl rfl rfl rfl rfl zM rfl zM (by simp; omega) zH ?_
  intro A2 c2
  rw [List.nil_append]
  refine zV 0 ?_
  intro bn
  refine go_append1 (T := tFa) (xs := l) Tk (q) rfl rfl rfl rfl rfl rfl rfl rfl rfl zM zM rfl (ent_fa zM) (by omega) zH ?_
  intro A3 c3
  refine zR 2 ?_
  refine go_ol_addr (xs := l ++ [q]) zM (by simp) (fun bo hA => ?_); subst hA
  refine go_len_ol (xs := l ++ [q]) zM (fun l3 m3 => ?_)
  have hll : (l ++ [q]).length = l.length + 1 := by simp
  refine go_toY (l := l ++ [q]) zM (fun ys hy hyl => ?_)
  obtain ⟨xs, w0, rfl, hx, hw⟩ := split_last hy
  have hxl : xs.length = l.length := by rw [← hx]; simp
  rw [show xs ++ [w0] = xs.take l.length ++ w0 :: xs.drop l.length from by rw [← hxl]; simp]
  refine zE 0 [3, 5, 6] ?_
  refine zR 2 ?_
  refine zO (X := Nat × Fy) (fun x => [(5, .int .i64 (x.1 : Int))]) [3, 6] (fun x => [ol tFy 40 (some ⟨bo, 0, none⟩) c3 (xs.take x.1 ++ x.2 :: xs.drop x.1)]) (fun x => x.1 ≤ l.length ∧ ∀ y ∈ l.drop x.1, 0 < cF y q) (fun x => x.1) (l.length, w0) ⟨by omega, by simp⟩ ?_
  intro ⟨n, w⟩ ⟨hk, hz⟩
  simp only at hk hz ⊢
  have hmid := mid_len (l := xs) (n := n) (w := w) (by omega)
  refine zR 2 ?_
  by_cases hn0 : 0 < n
  ·skip
   refine go_atY (xs := (xs.take n ++ w :: xs.drop n)) zM (n - 1) (mid_get (by omega) (by omega)) ?_
   refine zY 0 [1, 4, 7, 10, 13, 16, 19, 23, 26, 27, 31, 34] ?_
   refine zR 2 ?_
   refine go_re 20 (.bool true) (by show some (Value.bool (decide _)) = _; rw [decide_eq_true (by omega)]) ?_
   refine zR 4 ?_
   refine zi 24 ?_
   refine go_re 24 (.int .i64 ((n - 1 : Nat) : Int)) (by show some (Value.int _ _) = _; rw [show ((n - 1 : Nat) : Int) = (n : Int) - 1 by omega]) ?_
   refine go_val1 rfl (idx_val Tk rfl rfl rfl rfl rfl (by simp; omega)) rfl ?_
   refine go_val2a rfl (load_val Tk rfl rfl rfl (at_olp fcY fcY_eq (xs := (xs.take n ++ w :: xs.drop n)) zM (n - 1) (mid_get (by omega) (by omega)) rfl rfl) rfl) rfl ?_
   refine zK 0 ?_
   refine zC3 0 (refCompare xs[n - 1].f.p xs[n - 1].A xs[n - 1].f.a xs[n - 1].c _ _ _ _) ?_
   refine zB' 3 ?_ ?_
   ·intro g2
    (try simp only [dcs, ne_eq] at g2)
    refine zR 2 ?_
    have hlast : ∀ (h : 0 < n), ¬ 0 < cF (l[n - 1]'(by omega)) q := by
      intro h
      first
      | omega
      | (rw [← getF hx (show n - 1 < xs.length by omega)]; unfold cF; omega)
    refine zL 3 ?_
    refine go_val0 rfl (idx_val Tk rfl rfl rfl rfl rfl (by simp; omega)) rfl ?_
    refine zSE 0 tFy (xs.take n ++ w :: xs.drop n) n (⟨q, QA, qc⟩ : Fy) (ent_Y (x := ⟨q, QA, qc⟩) zM) ?_
    rw [set_mid (by omega)]
    refine go_ofY (xs := xs.take n ++ (⟨q, QA, qc⟩ : Fy) :: xs.drop n) zM ?_
    rw [mid_map hx, fput_at g1 hr (by omega) hz hlast, show (l ++ [q]).length = (fput l q).length from by rw [fput_no g1]; simp; omega]
    refine go_freeze_ol (xs := fput l q) zM ?_
    refine zE 1 [6] ?_
    refine zT 5 rfl ⟨some ⟨bo, 0, none⟩, c3, rfl, rfl, rfl⟩
   intro g2
   (try simp only [dcs, ne_eq] at g2)
   refine zR 9 ?_
   refine zi 35 ?_
   refine go_re 35 (.int .i64 ((n - 1 : Nat) : Int)) (by show some (Value.int _ _) = _; rw [show ((n - 1 : Nat) : Int) = (n : Int) - 1 by omega]) ?_
   refine go_val0 rfl (idx_val Tk rfl rfl rfl rfl rfl (by simp; omega)) rfl ?_
   refine go_val0 rfl (load_val Tk rfl rfl rfl (at_olp fcY fcY_eq (xs := (xs.take n ++ w :: xs.drop n)) zM (n - 1) (mid_get (by omega) (by omega)) rfl rfl) rfl) rfl ?_
   refine go_val0 rfl (idx_val Tk rfl rfl rfl rfl rfl (by simp; omega)) rfl ?_
   refine zSE 0 tFy (xs.take n ++ w :: xs.drop n) n (xs[n - 1]) (ent_Y zM) ?_
   rw [set_mid (by omega), mid_back (by omega) (by omega)]
   refine zE 1 [3, 5, 6, 22, 23, 24, 25, 26, 27, 28, 29] ?_
   refine zR 3 ?_
   refine zi 40 ?_
   refine go_re 40 (.int .i64 ((n - 1 : Nat) : Int)) (by show some (Value.int _ _) = _; rw [show ((n - 1 : Nat) : Int) = (n : Int) - 1 by omega]) ?_
   refine zR 3 ?_
   refine zz (n - 1, xs[n - 1]) ⟨by show n - 1 ≤ _; omega, drop_more (by omega) (by omega) hz (by rw [← getF hx (show n - 1 < xs.length by omega)]; exact g2)⟩ (by show n - 1 < n; omega)
  ·skip
   refine zY 0 [1, 4, 7, 10, 13, 16, 19, 23, 26, 27, 31, 34] ?_
   refine zR 2 ?_
   refine go_re 20 (.bool false) (by show some (Value.bool (decide _)) = _; rw [decide_eq_false (by omega)]) ?_
   refine zJ 5 ?_
   refine zJ 0 ?_
   refine zDf 4 ?_
   refine zR 2 ?_
   have hlast : ∀ (h : 0 < n), ¬ 0 < cF (l[n - 1]'(by omega)) q := by
     intro h
     first
     | omega
     | (rw [← getF hx (show n - 1 < xs.length by omega)]; unfold cF; omega)
   refine zL 3 ?_
   refine go_val0 rfl (idx_val Tk rfl rfl rfl rfl rfl (by simp; omega)) rfl ?_
   refine zSE 0 tFy (xs.take n ++ w :: xs.drop n) n (⟨q, QA, qc⟩ : Fy) (ent_Y (x := ⟨q, QA, qc⟩) zM) ?_
   rw [set_mid (by omega)]
   refine go_ofY (xs := xs.take n ++ (⟨q, QA, qc⟩ : Fy) :: xs.drop n) zM ?_
   rw [mid_map hx, fput_at g1 hr (by omega) hz hlast, show (l ++ [q]).length = (fput l q).length from by rw [fput_no g1]; simp; omega]
   refine go_freeze_ol (xs := fput l q) zM ?_
   refine zE 1 [6] ?_
   refine zT 5 rfl ⟨some ⟨bo, 0, none⟩, c3, rfl, rfl, rfl⟩
 refine zV 0 ?_
 intro bn
 refine go_appendN (T := tFa) (xs := []) (ys := l) Tk rfl rfl rfl rfl rfl rfl rfl rfl rfl zM rfl zM (by simp; omega) zH ?_
 intro A2 c2
 rw [List.nil_append]
 refine go_append1 (T := tFa) (xs := l) Tk (q) rfl rfl rfl rfl rfl rfl rfl rfl rfl zM zM rfl (ent_fa zM) (by omega) zH ?_
 intro A3 c3
 refine zR 2 ?_
 refine go_ol_addr (xs := l ++ [q]) zM (by simp) (fun bo hA => ?_); subst hA
 refine go_len_ol (xs := l ++ [q]) zM (fun l3 m3 => ?_)
 have hll : (l ++ [q]).length = l.length + 1 := by simp
 refine go_toY (l := l ++ [q]) zM (fun ys hy hyl => ?_)
 obtain ⟨xs, w0, rfl, hx, hw⟩ := split_last hy
 have hxl : xs.length = l.length := by rw [← hx]; simp
 rw [show xs ++ [w0] = xs.take l.length ++ w0 :: xs.drop l.length from by rw [← hxl]; simp]
 refine zE 0 [3, 5, 6] ?_
 refine zR 2 ?_
 refine zO (X := Nat × Fy) (fun x => [(5, .int .i64 (x.1 : Int))]) [3, 6] (fun x => [ol tFy 40 (some ⟨bo, 0, none⟩) c3 (xs.take x.1 ++ x.2 :: xs.drop x.1)]) (fun x => x.1 ≤ l.length ∧ ∀ y ∈ l.drop x.1, 0 < cF y q) (fun x => x.1) (l.length, w0) ⟨by omega, by simp⟩ ?_
 intro ⟨n, w⟩ ⟨hk, hz⟩
 simp only at hk hz ⊢
 have hmid := mid_len (l := xs) (n := n) (w := w) (by omega)
 refine zR 2 ?_
 by_cases hn0 : 0 < n
 ·skip
  refine go_atY (xs := (xs.take n ++ w :: xs.drop n)) zM (n - 1) (mid_get (by omega) (by omega)) ?_
  refine zY 0 [1, 4, 7, 10, 13, 16, 19, 23, 26, 27, 31, 34] ?_
  refine zR 2 ?_
  refine go_re 20 (.bool true) (by show some (Value.bool (decide _)) = _; rw [decide_eq_true (by omega)]) ?_
  refine zR 4 ?_
  refine zi 24 ?_
  refine go_re 24 (.int .i64 ((n - 1 : Nat) : Int)) (by show some (Value.int _ _) = _; rw [show ((n - 1 : Nat) : Int) = (n : Int) - 1 by omega]) ?_
  refine go_val1 rfl (idx_val Tk rfl rfl rfl rfl rfl (by simp; omega)) rfl ?_
  refine go_val2a rfl (load_val Tk rfl rfl rfl (at_olp fcY fcY_eq (xs := (xs.take n ++ w :: xs.drop n)) zM (n - 1) (mid_get (by omega) (by omega)) rfl rfl) rfl) rfl ?_
  refine zK 0 ?_
  refine zC3 0 (refCompare xs[n - 1].f.p xs[n - 1].A xs[n - 1].f.a xs[n - 1].c _ _ _ _) ?_
  refine zB' 3 ?_ ?_
  ·intro g2
   (try simp only [dcs, ne_eq] at g2)
   refine zR 2 ?_
   have hlast : ∀ (h : 0 < n), ¬ 0 < cF (l[n - 1]'(by omega)) q := by
     intro h
     first
     | omega
     | (rw [← getF hx (show n - 1 < xs.length by omega)]; unfold cF; omega)
   refine zL 3 ?_
   refine go_val0 rfl (idx_val Tk rfl rfl rfl rfl rfl (by simp; omega)) rfl ?_
   refine zSE 0 tFy (xs.take n ++ w :: xs.drop n) n (⟨q, QA, qc⟩ : Fy) (ent_Y (x := ⟨q, QA, qc⟩) zM) ?_
   rw [set_mid (by omega)]
   refine go_ofY (xs := xs.take n ++ (⟨q, QA, qc⟩ : Fy) :: xs.drop n) zM ?_
   rw [mid_map hx, fput_at g1 hr (by omega) hz hlast, show (l ++ [q]).length = (fput l q).length from by rw [fput_no g1]; simp; omega]
   refine go_freeze_ol (xs := fput l q) zM ?_
   refine zE 1 [6] ?_
   refine zT 5 rfl ⟨some ⟨bo, 0, none⟩, c3, rfl, rfl, rfl⟩
  intro g2
  (try simp only [dcs, ne_eq] at g2)
  refine zR 9 ?_
  refine zi 35 ?_
  refine go_re 35 (.int .i64 ((n - 1 : Nat) : Int)) (by show some (Value.int _ _) = _; rw [show ((n - 1 : Nat) : Int) = (n : Int) - 1 by omega]) ?_
  refine go_val0 rfl (idx_val Tk rfl rfl rfl rfl rfl (by simp; omega)) rfl ?_
  refine go_val0 rfl (load_val Tk rfl rfl rfl (at_olp fcY fcY_eq (xs := (xs.take n ++ w :: xs.drop n)) zM (n - 1) (mid_get (by omega) (by omega)) rfl rfl) rfl) rfl ?_
  refine go_val0 rfl (idx_val Tk rfl rfl rfl rfl rfl (by simp; omega)) rfl ?_
  refine zSE 0 tFy (xs.take n ++ w :: xs.drop n) n (xs[n - 1]) (ent_Y zM) ?_
  rw [set_mid (by omega), mid_back (by omega) (by omega)]
  refine zE 1 [3, 5, 6, 22, 23, 24, 25, 26, 27, 28, 29] ?_
  refine zR 3 ?_
  refine zi 40 ?_
  refine go_re 40 (.int .i64 ((n - 1 : Nat) : Int)) (by show some (Value.int _ _) = _; rw [show ((n - 1 : Nat) : Int) = (n : Int) - 1 by omega]) ?_
  refine zR 3 ?_
  refine zz (n - 1, xs[n - 1]) ⟨by show n - 1 ≤ _; omega, drop_more (by omega) (by omega) hz (by rw [← getF hx (show n - 1 < xs.length by omega)]; exact g2)⟩ (by show n - 1 < n; omega)
 ·skip
  refine zY 0 [1, 4, 7, 10, 13, 16, 19, 23, 26, 27, 31, 34] ?_
  refine zR 2 ?_
  refine go_re 20 (.bool false) (by show some (Value.bool (decide _)) = _; rw [decide_eq_false (by omega)]) ?_
  refine zJ 5 ?_
  refine zJ 0 ?_
  refine zDf 4 ?_
  refine zR 2 ?_
  have hlast : ∀ (h : 0 < n), ¬ 0 < cF (l[n - 1]'(by omega)) q := by
    intro h
    first
    | omega
    | (rw [← getF hx (show n - 1 < xs.length by omega)]; unfold cF; omega)
  refine zL 3 ?_
  refine go_val0 rfl (idx_val Tk rfl rfl rfl rfl rfl (by simp; omega)) rfl ?_
  refine zSE 0 tFy (xs.take n ++ w :: xs.drop n) n (⟨q, QA, qc⟩ : Fy) (ent_Y (x := ⟨q, QA, qc⟩) zM) ?_
  rw [set_mid (by omega)]
  refine go_ofY (xs := xs.take n ++ (⟨q, QA, qc⟩ : Fy) :: xs.drop n) zM ?_
  rw [mid_map hx, fput_at g1 hr (by omega) hz hlast, show (l ++ [q]).length = (fput l q).length from by rw [fput_no g1]; simp; omega]
  refine go_freeze_ol (xs := fput l q) zM ?_
  refine zE 1 [6] ?_
  refine zT 5 rfl ⟨some ⟨bo, 0, none⟩, c3, rfl, rfl, rfl⟩
theorem ref13Sorted (L : Option Addr) (lc : Nat) (l : List Fa) (hn : l.length ≤ 50000000) :
    Spec Tryz.prog 17 #[.slice L l.length lc] [sl tFa L lc l] [] (fun v Ps' Os' => ∃ A' c', v = .slice A' (fof l).length c' ∧ Ps' = [sl tFa A' c' (fof l)] ∧ Os' = []) := by
 refine zSp _ Tryz.func17 Tryz.ntmps17 (fun _ _ _ => ?_)
 refine zR 5 ?_
 refine go_len (xs := l) zM (fun l0 m0 => ?_)
 refine zR 2 ?_
 refine go_own_nil tFa 40 none ?_
 refine go_freeze_ol (xs := ([] : List Fa)) zM ?_
 refine zR 7 ?_
 refine go_loop (X := Nat × Option Addr × Nat) (fun x => [(3, .slice x.2.1 (fof (l.take x.1)).length x.2.2), (4, .int .i64 (x.1 : Int))]) [(0, _)] (fun x => [sl tFa x.2.1 x.2.2 (fof (l.take x.1)), sl tFa L lc l]) (fun _ => []) (fun x => x.1 ≤ l.length) (fun x => l.length - x.1) ((0, none, 0)) zA zM zM (by omega) ?_
 intro ⟨k, A1, c1⟩ hk
 simp only at hk ⊢
 refine zD' 8 ?_ ?_
 ·intro hq1
  refine zR 2 ?_
  rw [List.take_of_length_le (show l.length ≤ k by omega)]
  refine zT 4 rfl ⟨A1, c1, rfl, rfl, rfl⟩
 intro hq1
 refine zR 3 ?_
 refine go_elem_fa (xs := l) zM (k) (List.getElem?_eq_getElem (by omega)) (fun b0 o0 A0 c0 hA => ?_); cases hA
 refine zI 4 ?_
 refine zL 0 ?_
 refine zC 0 (ref13With A1 c1 (fof (l.take k)) l[k] A0 c0 (rises_fof _) (by have := fof_len (l.take k); rw [List.length_take] at this; omega)) ?_
 rintro _ _ _ ⟨A2, c2, rfl, rfl, rfl⟩
 refine zR 8 ?_
 refine zi 4 ?_
 rw [← fof_next (by omega)]
 refine go_back (k + 1, _, _) zA zM zM (by show k + 1 ≤ _; omega) (by show l.length - (k + 1) < l.length - k; omega)
theorem ref13Same (A : Option Addr) (c : Nat) (l : List Fa) (B : Option Addr) (d : Nat) (m : List Fa) :
    Spec Tryz.prog 15 #[.slice A l.length c, .slice B m.length d] [sl tFa A c l, sl tFa B d m] [] (fun v Ps' Os' => v = .bool (decide (l = m)) ∧ Ps' = [] ∧ Os' = []) := by
 refine zSp _ Tryz.func15 Tryz.ntmps15 (fun _ _ _ => ?_)
 refine zR 6 ?_
 refine go_len (xs := l) zM (fun l0 m0 => ?_)
 refine go_len (xs := m) zM (fun l1 m1 => ?_)
 refine zN 7 ?_ ?_
 ·intro g1
  refine zT 4 rfl ⟨by first | rw [decide_eq_false (fun e => g1 (by rw [e]))] | rw [decide_eq_false (same_no (k := k) (by omega) (by omega) (by simpa using g2))] | rw [decide_eq_true (same_yes hl (show l.length ≤ k by omega) hz)], rfl, rfl⟩
 intro g1
 refine zR 3 ?_
 have hl : l.length = m.length := by omega
 refine zR 4 ?_
 refine zO (X := Nat) (fun k => [(5, .int .i64 (k : Int))]) [0, 1] (fun _ => []) (fun k => k ≤ l.length ∧ l.take k = m.take k) (fun k => l.length - k) 0 ⟨by omega, by simp⟩ ?_
 intro k ⟨hk, hz⟩
 refine zD' 8 ?_ ?_
 ·intro hq1
  refine zT 5 rfl ⟨by first | rw [decide_eq_false (fun e => g1 (by rw [e]))] | rw [decide_eq_false (same_no (k := k) (by omega) (by omega) (by simpa using g2))] | rw [decide_eq_true (same_yes hl (show l.length ≤ k by omega) hz)], rfl, rfl⟩
 intro hq1
 refine zR 4 ?_
 refine go_elem_fa (xs := l) (c := c) zM (k) (List.getElem?_eq_getElem (by omega)) (fun b0 o0 A0 c0 hA => ?_); cases hA
 refine go_elem_fa (xs := m) (c := d) zM (k) (List.getElem?_eq_getElem (by omega)) (fun b2 o2 A2 c2 hA => ?_); cases hA
 refine zY 0 [1, 4, 7, 13, 16, 19, 11, 23, 24, 28] ?_
 refine zI 2 ?_
 refine zI 2 ?_
 refine zK 0 ?_
 refine zK 0 ?_
 refine zC3 0 (refCompare _ _ _ _ _ _ _ _) ?_
 refine zE 2 [0, 1, 5, 26] ?_
 refine zN 0 ?_ ?_
 ·intro g2
  refine zT 4 rfl ⟨by first | rw [decide_eq_false (fun e => g1 (by rw [e]))] | rw [decide_eq_false (same_no (k := k) (by omega) (by omega) (by simpa using g2))] | rw [decide_eq_true (same_yes hl (show l.length ≤ k by omega) hz)], rfl, rfl⟩
 intro g2
 refine zR 7 ?_
 refine zi 5 ?_
 refine zz (k + 1) (⟨by omega, take_next (by omega) (by omega) hz (cmpF_zero.1 (by simpa using g2))⟩) (by omega)
theorem law13F (p : Int) (A : Option Addr) (n c : Nat) :
    Spec Tryz.prog 33 #[.int .u32 p, .slice A n c] [] [] (fun v Ps' Os' => v = .agg #[.int .u32 p, .slice A n c] ∧ Ps' = [] ∧ Os' = []) := by
 refine zSp _ Tryz.func33 Tryz.ntmps33 (fun _ _ _ => ?_)
 refine zW 2 ?_
 intro b1
 refine zq 5 ?_
 refine zS 0 ?_
 refine zR 1 ?_
 refine go_ret ⟨rfl, rfl⟩ _ _ (res1 (by rfl) (.cell rfl (rdv Tk rfl))) ⟨rfl, rfl, rfl⟩ zM zM
theorem law11A (p : Int) (A : Option Addr) (n c : Nat) :
    Spec Tryz.prog 30 #[.int .u32 p, .slice A n c] [] [] (fun v Ps' Os' => v = .agg #[.int .u32 p, .slice A n c] ∧ Ps' = [] ∧ Os' = []) := by
 refine zSp _ Tryz.func30 Tryz.ntmps30 (fun _ _ _ => ?_)
 refine zW 2 ?_
 intro b1
 refine zq 5 ?_
 refine zS 0 ?_
 refine zR 1 ?_
 refine go_ret ⟨rfl, rfl⟩ _ _ (res1 (by rfl) (.cell rfl (rdv Tk rfl))) ⟨rfl, rfl, rfl⟩ zM zM
theorem law11V (n : Int) :
    Spec Tryz.prog 31 #[.int .u32 n] [] [] (fun v Ps' Os' => v = .agg #[.bool true, .int .u32 n] ∧ Ps' = [] ∧ Os' = []) := by
 refine zSp _ Tryz.func31 Tryz.ntmps31 (fun _ _ _ => ?_)
 refine zW 2 ?_
 intro b1
 refine zq 4 ?_
 refine zS 0 ?_
 refine zR 1 ?_
 refine go_ret ⟨rfl, rfl⟩ _ _ (res1 (by rfl) (.cell rfl (rdv Tk rfl))) ⟨rfl, rfl, rfl⟩ zM zM
theorem law11Yes (p : Int) (A : Option Addr) (n c : Nat) :
    Spec Tryz.prog 32 #[.int .u32 p, .slice A n c] [] [] (fun v Ps' Os' => v = .agg #[.bool false, .int .u32 p, .slice A n c] ∧ Ps' = [] ∧ Os' = []) := by
 refine zSp _ Tryz.func32 Tryz.ntmps32 (fun _ _ _ => ?_)
 refine zW 2 ?_
 intro b1
 refine zC3 5 (law11A _ _ _ _) ?_
 refine zq 0 ?_
 refine zS 0 ?_
 refine zR 1 ?_
 refine go_ret ⟨rfl, rfl⟩ _ _ (res1 (by rfl) (.cell rfl (rdv Tk rfl))) ⟨rfl, rfl, rfl⟩ zM zM
theorem law11If (p : Int) (A : Option Addr) (n c : Nat) (B : Option Addr) (m d : Nat) :
    Spec Tryz.prog 29 #[.agg #[.int .u32 p, .slice A n c], .slice B m d] [] [] (fun v Ps' Os' => v = .agg #[.int .u32 p, .slice A n c, .slice B m d] ∧ Ps' = [] ∧ Os' = []) := by
 refine zSp _ Tryz.func29 Tryz.ntmps29 (fun _ _ _ => ?_)
 refine zX 2 ?_
 intro b1
 refine zW 0 ?_
 intro b2
 refine zL 3 ?_
 refine zq 1 ?_
 refine zS 0 ?_
 refine zR 1 ?_
 refine go_ret ⟨rfl, rfl⟩ _ _ (res1 (by rfl) (.cell rfl (rdv Tk rfl))) ⟨rfl, rfl, rfl⟩ zM zM
abbrev CLok (c : Cl) : Prop := c.b.length ≤ 30 ∧ c.h.a.length ≤ 30 ∧ ∀ x ∈ c.b, x.a.a.length ≤ 30
abbrev few11P (l : List Cl) (F : List Fa) : Prop := ((l.length ≤ 60 ∨ 400 < l.length) ∧ l.length ≤ 1000 ∧ F.length ≤ 120) ∧ (∀ c ∈ l, CLok c) ∧ ∀ x ∈ F, x.a.length ≤ 30
def few11 (l : List Cl) (F : List Fa) : Bool := decide (few11P l F)
theorem few11_no {l : List Cl} {F : List Fa} (h : ¬ few11P l F) : few11 l F = false := by unfold few11; rw [decide_eq_false_iff_not]; exact h
theorem few11_yes {l : List Cl} {F : List Fa} (h : few11P l F) : few11 l F = true := by unfold few11; rw [decide_eq_true_iff]; exact h
theorem few11_of {l : List Cl} {F : List Fa} (h : few11 l F = true) : few11P l F := by unfold few11 at h; exact of_decide_eq_true h
def pos (b : List Li) : Nat := (b.filter fun l => !l.no).length
theorem pos_yes {b : List Li} {k : Nat} (hk : k < b.length) (e : b[k].no = false) : pos (b.take (k + 1)) = pos (b.take k) + 1 := by
  unfold pos
  rw [List.take_succ_eq_append_getElem hk, List.filter_append, List.length_append, List.filter_cons_of_pos (by simpa using e)]; rfl
theorem pos_no {b : List Li} {k : Nat} (hk : k < b.length) (e : b[k].no = true) : pos (b.take (k + 1)) = pos (b.take k) := by
  unfold pos
  rw [List.take_succ_eq_append_getElem hk, List.filter_append, List.length_append, List.filter_cons_of_neg (by simp [e])]; simp
theorem pos_le (b : List Li) (k : Nat) : pos (b.take k) ≤ k := by
  unfold pos
  have := List.length_filter_le (fun l : Li => !l.no) (b.take k)
  rw [List.length_take] at this
  omega
def smallC (c : Cl) (n : Nat) : Bool := decide (c.b.length ≤ 30 ∧ (pos c.b ≤ 3 ∧ n ≤ 60 ∨ pos c.b ≤ 8 ∧ n ≤ 8))
theorem law11Few (A : Option Addr) (c : Nat) (l : List Cl) (B : Option Addr) (d : Nat) (F : List Fa) :
    Spec Tryz.prog 27 #[.slice A l.length c, .slice B F.length d] [sl tCl A c l, sl tFa B d F] [] (fun v Ps' Os' => v = .bool (few11 l F) ∧ Ps' = [] ∧ Os' = []) := by
 refine zSp _ Tryz.func27 Tryz.ntmps27 (fun _ _ _ => ?_)
 refine zR 6 ?_
 refine go_len (xs := l) zM (fun l0 m0 => ?_)
 refine go_len (xs := F) zM (fun l1 m1 => ?_)
 refine zG' 5 11 ?_ ?_
 ·intro g1
  (try simp only [dcs, ne_eq] at g1)
  refine zG 10 21 ?_ ?_
  ·intro g3
   (try simp only [dcs, ne_eq] at g3)
   refine zE 5 [0, 1, 25] ?_
   refine zDt 0 ?_
   refine zT 4 rfl ⟨by first | rw [few11_no (fun h => by have := h.1; omega)] | rw [few11_no (fun h => by have := h.2.1 l[k] (List.getElem_mem _); have h1 := this.1; omega)] | rw [few11_no (fun h => by have := h.2.1 l[k] (List.getElem_mem _); have h1 := this.2.1; omega)] | rw [few11_no (fun h => by have := (h.2.1 l[k] (List.getElem_mem _)).2.2 l[k].b[m] (List.getElem_mem _); omega)] | rw [few11_no (fun h => by have := h.2.2 F[j] (List.getElem_mem _); omega)] | rw [few11_yes ⟨⟨by omega, by omega, by omega⟩, hz, by rw [List.take_of_length_le (by omega)] at hx; exact hx⟩], rfl, rfl⟩
  intro g3
  (try simp only [dcs, ne_eq] at g3)
  refine zE 5 [0, 1, 25] ?_
  refine zB 0 ?_ ?_
  ·intro g4
   (try simp only [dcs, ne_eq] at g4)
   refine zT 4 rfl ⟨by first | rw [few11_no (fun h => by have := h.1; omega)] | rw [few11_no (fun h => by have := h.2.1 l[k] (List.getElem_mem _); have h1 := this.1; omega)] | rw [few11_no (fun h => by have := h.2.1 l[k] (List.getElem_mem _); have h1 := this.2.1; omega)] | rw [few11_no (fun h => by have := (h.2.1 l[k] (List.getElem_mem _)).2.2 l[k].b[m] (List.getElem_mem _); omega)] | rw [few11_no (fun h => by have := h.2.2 F[j] (List.getElem_mem _); omega)] | rw [few11_yes ⟨⟨by omega, by omega, by omega⟩, hz, by rw [List.take_of_length_le (by omega)] at hx; exact hx⟩], rfl, rfl⟩
  intro g4
  (try simp only [dcs, ne_eq] at g4)
  refine zR 7 ?_
  refine zO (X := Nat) (fun k => [(5, .int .i64 (k : Int))]) [0, 1] (fun _ => []) (fun k => k ≤ l.length ∧ ∀ x ∈ l.take k, CLok x) (fun k => l.length - k) 0 ⟨by omega, by simp⟩ ?_
  intro k ⟨hk, hz⟩
  refine zD' 8 ?_ ?_
  ·intro hq4
   refine zR 3 ?_
   rw [List.take_of_length_le (by omega)] at hz
   refine zR 4 ?_
   refine zO (X := Nat) (fun j => [(7, .int .i64 (j : Int))]) [1] (fun _ => []) (fun j => j ≤ F.length ∧ ∀ x ∈ F.take j, x.a.length ≤ 30) (fun j => F.length - j) 0 ⟨by omega, by simp⟩ ?_
   intro j ⟨hj, hx⟩
   refine zD' 8 ?_ ?_
   ·intro hq6
    refine zT 5 rfl ⟨by first | rw [few11_no (fun h => by have := h.1; omega)] | rw [few11_no (fun h => by have := h.2.1 l[k] (List.getElem_mem _); have h1 := this.1; omega)] | rw [few11_no (fun h => by have := h.2.1 l[k] (List.getElem_mem _); have h1 := this.2.1; omega)] | rw [few11_no (fun h => by have := (h.2.1 l[k] (List.getElem_mem _)).2.2 l[k].b[m] (List.getElem_mem _); omega)] | rw [few11_no (fun h => by have := h.2.2 F[j] (List.getElem_mem _); omega)] | rw [few11_yes ⟨⟨by omega, by omega, by omega⟩, hz, by rw [List.take_of_length_le (by omega)] at hx; exact hx⟩], rfl, rfl⟩
   intro hq6
   refine zR 4 ?_
   refine go_elem_fa (xs := F) zM (j) (List.getElem?_eq_getElem (by omega)) (fun b3 o3 A3 c3 hA => ?_); cases hA
   refine zI 3 ?_
   refine zL 1 ?_
   refine zD' 3 ?_ ?_
   ·intro g8
    refine zR 7 ?_
    refine zi 7 ?_
    refine zz (j + 1) (⟨by omega, mem_take_next (by omega) hx (by omega)⟩) (by omega)
   intro g8
   refine zE 4 [4] ?_
   refine zT 0 rfl ⟨by first | rw [few11_no (fun h => by have := h.1; omega)] | rw [few11_no (fun h => by have := h.2.1 l[k] (List.getElem_mem _); have h1 := this.1; omega)] | rw [few11_no (fun h => by have := h.2.1 l[k] (List.getElem_mem _); have h1 := this.2.1; omega)] | rw [few11_no (fun h => by have := (h.2.1 l[k] (List.getElem_mem _)).2.2 l[k].b[m] (List.getElem_mem _); omega)] | rw [few11_no (fun h => by have := h.2.2 F[j] (List.getElem_mem _); omega)] | rw [few11_yes ⟨⟨by omega, by omega, by omega⟩, hz, by rw [List.take_of_length_le (by omega)] at hx; exact hx⟩], rfl, rfl⟩
  intro hq4
  refine zR 5 ?_
  refine go_elem_cl (xs := l) zM (k) (List.getElem?_eq_getElem (by omega)) (fun b0 o0 A0 c0 B0 d0 hA => ?_); cases hA
  refine go_len (xs := l[k].b) zM (fun l2 m2 => ?_)
  refine zI 3 ?_
  refine zL 1 ?_
  refine zG 3 39 ?_ ?_
  ·intro g5
   (try simp only [dcs, ne_eq] at g5)
   refine zE 10 [0, 1, 5, 40, 41, 42, 43, 44, 45, 46, 47, 48] ?_
   refine zDt 0 ?_
   refine zE 4 [4] ?_
   refine zT 0 rfl ⟨by first | rw [few11_no (fun h => by have := h.1; omega)] | rw [few11_no (fun h => by have := h.2.1 l[k] (List.getElem_mem _); have h1 := this.1; omega)] | rw [few11_no (fun h => by have := h.2.1 l[k] (List.getElem_mem _); have h1 := this.2.1; omega)] | rw [few11_no (fun h => by have := (h.2.1 l[k] (List.getElem_mem _)).2.2 l[k].b[m] (List.getElem_mem _); omega)] | rw [few11_no (fun h => by have := h.2.2 F[j] (List.getElem_mem _); omega)] | rw [few11_yes ⟨⟨by omega, by omega, by omega⟩, hz, by rw [List.take_of_length_le (by omega)] at hx; exact hx⟩], rfl, rfl⟩
  intro g5
  (try simp only [dcs, ne_eq] at g5)
  refine zI 2 ?_
  refine zL 2 ?_
  refine zE 4 [0, 1, 5, 40, 41, 42, 43, 44, 45, 46, 47, 48] ?_
  refine zB 0 ?_ ?_
  ·intro g6
   (try simp only [dcs, ne_eq] at g6)
   refine zE 4 [4] ?_
   refine zT 0 rfl ⟨by first | rw [few11_no (fun h => by have := h.1; omega)] | rw [few11_no (fun h => by have := h.2.1 l[k] (List.getElem_mem _); have h1 := this.1; omega)] | rw [few11_no (fun h => by have := h.2.1 l[k] (List.getElem_mem _); have h1 := this.2.1; omega)] | rw [few11_no (fun h => by have := (h.2.1 l[k] (List.getElem_mem _)).2.2 l[k].b[m] (List.getElem_mem _); omega)] | rw [few11_no (fun h => by have := h.2.2 F[j] (List.getElem_mem _); omega)] | rw [few11_yes ⟨⟨by omega, by omega, by omega⟩, hz, by rw [List.take_of_length_le (by omega)] at hx; exact hx⟩], rfl, rfl⟩
  intro g6
  (try simp only [dcs, ne_eq] at g6)
  refine zR 6 ?_
  refine zO (X := Nat) (fun m => [(6, .int .i64 (m : Int))]) [0, 1, 5, 40, 41, 42, 43, 44, 45, 46, 47] (fun _ => []) (fun m => m ≤ l[k].b.length ∧ ∀ x ∈ l[k].b.take m, x.a.a.length ≤ 30) (fun m => l[k].b.length - m) 0 ⟨by omega, by simp⟩ ?_
  intro m ⟨hm, hy⟩
  refine zI 6 ?_
  refine zL 1 ?_
  refine zD' 3 ?_ ?_
  ·intro hq5
   refine zR 7 ?_
   refine zi 5 ?_
   refine zz (k + 1) (⟨by omega, mem_take_next (by omega) hz ⟨by omega, by omega, by rw [List.take_of_length_le (by omega)] at hy; exact hy⟩⟩) (by omega)
  intro hq5
  refine zR 4 ?_
  refine go_elem_li (xs := l[k].b) zM (m) (List.getElem?_eq_getElem (by omega)) (fun b1 o1 A1 c1 hA => ?_); cases hA
  refine zI 3 ?_
  refine zL 1 ?_
  refine zI 1 ?_
  refine zL 2 ?_
  refine zE 3 [0, 1, 5, 6, 40, 41, 42, 43, 44, 45, 46, 47, 70] ?_
  refine zD' 0 ?_ ?_
  ·intro g7
   refine zR 7 ?_
   refine zi 6 ?_
   refine zz (m + 1) (⟨by omega, mem_take_next (by omega) hy (by omega)⟩) (by omega)
  intro g7
  refine zE 4 [4] ?_
  refine zT 0 rfl ⟨by first | rw [few11_no (fun h => by have := h.1; omega)] | rw [few11_no (fun h => by have := h.2.1 l[k] (List.getElem_mem _); have h1 := this.1; omega)] | rw [few11_no (fun h => by have := h.2.1 l[k] (List.getElem_mem _); have h1 := this.2.1; omega)] | rw [few11_no (fun h => by have := (h.2.1 l[k] (List.getElem_mem _)).2.2 l[k].b[m] (List.getElem_mem _); omega)] | rw [few11_no (fun h => by have := h.2.2 F[j] (List.getElem_mem _); omega)] | rw [few11_yes ⟨⟨by omega, by omega, by omega⟩, hz, by rw [List.take_of_length_le (by omega)] at hx; exact hx⟩], rfl, rfl⟩
 intro g1
 (try simp only [dcs, ne_eq] at g1)
 refine zG 5 16 ?_ ?_
 ·intro g2
  (try simp only [dcs, ne_eq] at g2)
  refine zE 10 [0, 1, 25] ?_
  refine zDt 0 ?_
  refine zT 4 rfl ⟨by first | rw [few11_no (fun h => by have := h.1; omega)] | rw [few11_no (fun h => by have := h.2.1 l[k] (List.getElem_mem _); have h1 := this.1; omega)] | rw [few11_no (fun h => by have := h.2.1 l[k] (List.getElem_mem _); have h1 := this.2.1; omega)] | rw [few11_no (fun h => by have := (h.2.1 l[k] (List.getElem_mem _)).2.2 l[k].b[m] (List.getElem_mem _); omega)] | rw [few11_no (fun h => by have := h.2.2 F[j] (List.getElem_mem _); omega)] | rw [few11_yes ⟨⟨by omega, by omega, by omega⟩, hz, by rw [List.take_of_length_le (by omega)] at hx; exact hx⟩], rfl, rfl⟩
 intro g2
 (try simp only [dcs, ne_eq] at g2)
 refine zG 5 21 ?_ ?_
 ·intro g3
  (try simp only [dcs, ne_eq] at g3)
  refine zE 5 [0, 1, 25] ?_
  refine zDt 0 ?_
  refine zT 4 rfl ⟨by first | rw [few11_no (fun h => by have := h.1; omega)] | rw [few11_no (fun h => by have := h.2.1 l[k] (List.getElem_mem _); have h1 := this.1; omega)] | rw [few11_no (fun h => by have := h.2.1 l[k] (List.getElem_mem _); have h1 := this.2.1; omega)] | rw [few11_no (fun h => by have := (h.2.1 l[k] (List.getElem_mem _)).2.2 l[k].b[m] (List.getElem_mem _); omega)] | rw [few11_no (fun h => by have := h.2.2 F[j] (List.getElem_mem _); omega)] | rw [few11_yes ⟨⟨by omega, by omega, by omega⟩, hz, by rw [List.take_of_length_le (by omega)] at hx; exact hx⟩], rfl, rfl⟩
 intro g3
 (try simp only [dcs, ne_eq] at g3)
 refine zE 5 [0, 1, 25] ?_
 refine zB 0 ?_ ?_
 ·intro g4
  (try simp only [dcs, ne_eq] at g4)
  refine zT 4 rfl ⟨by first | rw [few11_no (fun h => by have := h.1; omega)] | rw [few11_no (fun h => by have := h.2.1 l[k] (List.getElem_mem _); have h1 := this.1; omega)] | rw [few11_no (fun h => by have := h.2.1 l[k] (List.getElem_mem _); have h1 := this.2.1; omega)] | rw [few11_no (fun h => by have := (h.2.1 l[k] (List.getElem_mem _)).2.2 l[k].b[m] (List.getElem_mem _); omega)] | rw [few11_no (fun h => by have := h.2.2 F[j] (List.getElem_mem _); omega)] | rw [few11_yes ⟨⟨by omega, by omega, by omega⟩, hz, by rw [List.take_of_length_le (by omega)] at hx; exact hx⟩], rfl, rfl⟩
 intro g4
 (try simp only [dcs, ne_eq] at g4)
 refine zR 7 ?_
 refine zO (X := Nat) (fun k => [(5, .int .i64 (k : Int))]) [0, 1] (fun _ => []) (fun k => k ≤ l.length ∧ ∀ x ∈ l.take k, CLok x) (fun k => l.length - k) 0 ⟨by omega, by simp⟩ ?_
 intro k ⟨hk, hz⟩
 refine zD' 8 ?_ ?_
 ·intro hq1
  refine zR 3 ?_
  rw [List.take_of_length_le (by omega)] at hz
  refine zR 4 ?_
  refine zO (X := Nat) (fun j => [(7, .int .i64 (j : Int))]) [1] (fun _ => []) (fun j => j ≤ F.length ∧ ∀ x ∈ F.take j, x.a.length ≤ 30) (fun j => F.length - j) 0 ⟨by omega, by simp⟩ ?_
  intro j ⟨hj, hx⟩
  refine zD' 8 ?_ ?_
  ·intro hq3
   refine zT 5 rfl ⟨by first | rw [few11_no (fun h => by have := h.1; omega)] | rw [few11_no (fun h => by have := h.2.1 l[k] (List.getElem_mem _); have h1 := this.1; omega)] | rw [few11_no (fun h => by have := h.2.1 l[k] (List.getElem_mem _); have h1 := this.2.1; omega)] | rw [few11_no (fun h => by have := (h.2.1 l[k] (List.getElem_mem _)).2.2 l[k].b[m] (List.getElem_mem _); omega)] | rw [few11_no (fun h => by have := h.2.2 F[j] (List.getElem_mem _); omega)] | rw [few11_yes ⟨⟨by omega, by omega, by omega⟩, hz, by rw [List.take_of_length_le (by omega)] at hx; exact hx⟩], rfl, rfl⟩
  intro hq3
  refine zR 4 ?_
  refine go_elem_fa (xs := F) zM (j) (List.getElem?_eq_getElem (by omega)) (fun b3 o3 A3 c3 hA => ?_); cases hA
  refine zI 3 ?_
  refine zL 1 ?_
  refine zD' 3 ?_ ?_
  ·intro g8
   refine zR 7 ?_
   refine zi 7 ?_
   refine zz (j + 1) (⟨by omega, mem_take_next (by omega) hx (by omega)⟩) (by omega)
  intro g8
  refine zE 4 [4] ?_
  refine zT 0 rfl ⟨by first | rw [few11_no (fun h => by have := h.1; omega)] | rw [few11_no (fun h => by have := h.2.1 l[k] (List.getElem_mem _); have h1 := this.1; omega)] | rw [few11_no (fun h => by have := h.2.1 l[k] (List.getElem_mem _); have h1 := this.2.1; omega)] | rw [few11_no (fun h => by have := (h.2.1 l[k] (List.getElem_mem _)).2.2 l[k].b[m] (List.getElem_mem _); omega)] | rw [few11_no (fun h => by have := h.2.2 F[j] (List.getElem_mem _); omega)] | rw [few11_yes ⟨⟨by omega, by omega, by omega⟩, hz, by rw [List.take_of_length_le (by omega)] at hx; exact hx⟩], rfl, rfl⟩
 intro hq1
 refine zR 5 ?_
 refine go_elem_cl (xs := l) zM (k) (List.getElem?_eq_getElem (by omega)) (fun b0 o0 A0 c0 B0 d0 hA => ?_); cases hA
 refine go_len (xs := l[k].b) zM (fun l2 m2 => ?_)
 refine zI 3 ?_
 refine zL 1 ?_
 refine zG 3 39 ?_ ?_
 ·intro g5
  (try simp only [dcs, ne_eq] at g5)
  refine zE 10 [0, 1, 5, 40, 41, 42, 43, 44, 45, 46, 47, 48] ?_
  refine zDt 0 ?_
  refine zE 4 [4] ?_
  refine zT 0 rfl ⟨by first | rw [few11_no (fun h => by have := h.1; omega)] | rw [few11_no (fun h => by have := h.2.1 l[k] (List.getElem_mem _); have h1 := this.1; omega)] | rw [few11_no (fun h => by have := h.2.1 l[k] (List.getElem_mem _); have h1 := this.2.1; omega)] | rw [few11_no (fun h => by have := (h.2.1 l[k] (List.getElem_mem _)).2.2 l[k].b[m] (List.getElem_mem _); omega)] | rw [few11_no (fun h => by have := h.2.2 F[j] (List.getElem_mem _); omega)] | rw [few11_yes ⟨⟨by omega, by omega, by omega⟩, hz, by rw [List.take_of_length_le (by omega)] at hx; exact hx⟩], rfl, rfl⟩
 intro g5
 (try simp only [dcs, ne_eq] at g5)
 refine zI 2 ?_
 refine zL 2 ?_
 refine zE 4 [0, 1, 5, 40, 41, 42, 43, 44, 45, 46, 47, 48] ?_
 refine zB 0 ?_ ?_
 ·intro g6
  (try simp only [dcs, ne_eq] at g6)
  refine zE 4 [4] ?_
  refine zT 0 rfl ⟨by first | rw [few11_no (fun h => by have := h.1; omega)] | rw [few11_no (fun h => by have := h.2.1 l[k] (List.getElem_mem _); have h1 := this.1; omega)] | rw [few11_no (fun h => by have := h.2.1 l[k] (List.getElem_mem _); have h1 := this.2.1; omega)] | rw [few11_no (fun h => by have := (h.2.1 l[k] (List.getElem_mem _)).2.2 l[k].b[m] (List.getElem_mem _); omega)] | rw [few11_no (fun h => by have := h.2.2 F[j] (List.getElem_mem _); omega)] | rw [few11_yes ⟨⟨by omega, by omega, by omega⟩, hz, by rw [List.take_of_length_le (by omega)] at hx; exact hx⟩], rfl, rfl⟩
 intro g6
 (try simp only [dcs, ne_eq] at g6)
 refine zR 6 ?_
 refine zO (X := Nat) (fun m => [(6, .int .i64 (m : Int))]) [0, 1, 5, 40, 41, 42, 43, 44, 45, 46, 47] (fun _ => []) (fun m => m ≤ l[k].b.length ∧ ∀ x ∈ l[k].b.take m, x.a.a.length ≤ 30) (fun m => l[k].b.length - m) 0 ⟨by omega, by simp⟩ ?_
 intro m ⟨hm, hy⟩
 refine zI 6 ?_
 refine zL 1 ?_
 refine zD' 3 ?_ ?_
 ·intro hq2
  refine zR 7 ?_
  refine zi 5 ?_
  refine zz (k + 1) (⟨by omega, mem_take_next (by omega) hz ⟨by omega, by omega, by rw [List.take_of_length_le (by omega)] at hy; exact hy⟩⟩) (by omega)
 intro hq2
 refine zR 4 ?_
 refine go_elem_li (xs := l[k].b) zM (m) (List.getElem?_eq_getElem (by omega)) (fun b1 o1 A1 c1 hA => ?_); cases hA
 refine zI 3 ?_
 refine zL 1 ?_
 refine zI 1 ?_
 refine zL 2 ?_
 refine zE 3 [0, 1, 5, 6, 40, 41, 42, 43, 44, 45, 46, 47, 70] ?_
 refine zD' 0 ?_ ?_
 ·intro g7
  refine zR 7 ?_
  refine zi 6 ?_
  refine zz (m + 1) (⟨by omega, mem_take_next (by omega) hy (by omega)⟩) (by omega)
 intro g7
 refine zE 4 [4] ?_
 refine zT 0 rfl ⟨by first | rw [few11_no (fun h => by have := h.1; omega)] | rw [few11_no (fun h => by have := h.2.1 l[k] (List.getElem_mem _); have h1 := this.1; omega)] | rw [few11_no (fun h => by have := h.2.1 l[k] (List.getElem_mem _); have h1 := this.2.1; omega)] | rw [few11_no (fun h => by have := (h.2.1 l[k] (List.getElem_mem _)).2.2 l[k].b[m] (List.getElem_mem _); omega)] | rw [few11_no (fun h => by have := h.2.2 F[j] (List.getElem_mem _); omega)] | rw [few11_yes ⟨⟨by omega, by omega, by omega⟩, hz, by rw [List.take_of_length_le (by omega)] at hx; exact hx⟩], rfl, rfl⟩
theorem law13Small (c : Cl) (CA : Option Addr) (cc : Nat) (CB : Option Addr) (cd : Nat) (n : Nat) :
    Spec Tryz.prog 28 #[.agg #[.int .u32 c.h.p, .slice CA c.h.a.length cc, .slice CB c.b.length cd], .int .i64 (n : Int)] [sl tTm CA cc c.h.a, sl tLi CB cd c.b] [] (fun v Ps' Os' => v = .bool (smallC c n) ∧ Ps' = [] ∧ Os' = []) := by
 refine zSp _ Tryz.func28 Tryz.ntmps28 (fun _ _ _ => ?_)
 refine zX 2 ?_
 intro bC
 refine zR 2 ?_
 refine go_freeze_pt (b := bC) zM ?_
 refine zR 1 ?_
 refine go_len (xs := c.b) zM (fun l0 m0 => ?_)
 refine zR 9 ?_
 refine zO (X := Nat) (fun k => [(5, .int .i64 (pos (c.b.take k) : Int)), (6, .int .i64 (k : Int))]) [1, 2] (fun _ => []) (fun k => k ≤ c.b.length) (fun k => c.b.length - k) 0 (by omega) ?_
 intro k hk
 have hpk := pos_le c.b k
 refine zL 5 ?_
 refine zD 3 ?_ ?_
 ·intro hq1
  refine zR 4 ?_
  refine go_elem_li (xs := c.b) zM (k) (List.getElem?_eq_getElem (by omega)) (fun b0 o0 A0 c0 hA => ?_); cases hA
  refine zL 2 ?_
  refine zI 1 ?_
  refine zL 1 ?_
  refine zB' 2 ?_ ?_
  ·intro g1
   (try simp only [dcs, ne_eq] at g1)
   refine zR 7 ?_
   refine zi 6 ?_
   refine go_re 5 (.int .i64 (pos (c.b.take (k + 1)) : Int)) (by show some (Value.int _ _) = _; rw [pos_no (by omega) g1]; skip) ?_
   refine zz (k + 1) (by omega) (by omega)
  intro g1
  (try simp only [dcs, ne_eq] at g1)
  refine zE 5 [1, 2, 5, 6] ?_
  refine zR 6 ?_
  refine zi 6 ?_
  refine go_re 5 (.int .i64 (pos (c.b.take (k + 1)) : Int)) (by show some (Value.int _ _) = _; rw [pos_yes (by omega) g1]; rw [wrap_i64 (by omega) (by omega)]; rfl) ?_
  refine zz (k + 1) (by omega) (by omega)
 intro hq1
 refine zR 2 ?_
 rw [List.take_of_length_le (show c.b.length ≤ k by omega)]
 have hpb := pos_le c.b c.b.length
 rw [List.take_of_length_le (Nat.le_refl _)] at hpb
 refine zL 2 ?_
 refine zG' 3 27 ?_ ?_
 ·intro g2
  (try simp only [dcs, ne_eq] at g2)
  refine zE 17 [4] ?_
  refine zT 0 rfl ⟨by show Value.bool _ = Value.bool _; congr 1; unfold smallC; first | (rw [decide_eq_decide]; constructor <;> intro _ <;> omega) | (symm; rw [decide_eq_true_eq]; omega) | (symm; rw [decide_eq_false_iff_not]; omega), rfl, rfl⟩
 intro g2
 (try simp only [dcs, ne_eq] at g2)
 refine zG' 3 30 ?_ ?_
 ·intro g3
  (try simp only [dcs, ne_eq] at g3)
  refine zG' 7 37 ?_ ?_
  ·intro g5
   (try simp only [dcs, ne_eq] at g5)
   refine zE 7 [4] ?_
   refine zT 0 rfl ⟨by show Value.bool _ = Value.bool _; congr 1; unfold smallC; first | (rw [decide_eq_decide]; constructor <;> intro _ <;> omega) | (symm; rw [decide_eq_true_eq]; omega) | (symm; rw [decide_eq_false_iff_not]; omega), rfl, rfl⟩
  intro g5
  (try simp only [dcs, ne_eq] at g5)
  refine zE 7 [4] ?_
  refine zT 0 rfl ⟨by show Value.bool _ = Value.bool _; congr 1; unfold smallC; first | (rw [decide_eq_decide]; constructor <;> intro _ <;> omega) | (symm; rw [decide_eq_true_eq]; omega) | (symm; rw [decide_eq_false_iff_not]; omega), rfl, rfl⟩
 intro g3
 (try simp only [dcs, ne_eq] at g3)
 refine zG 4 34 ?_ ?_
 ·intro g4
  (try simp only [dcs, ne_eq] at g4)
  refine zE 10 [4] ?_
  refine zT 0 rfl ⟨by show Value.bool _ = Value.bool _; congr 1; unfold smallC; first | (rw [decide_eq_decide]; constructor <;> intro _ <;> omega) | (symm; rw [decide_eq_true_eq]; omega) | (symm; rw [decide_eq_false_iff_not]; omega), rfl, rfl⟩
 intro g4
 (try simp only [dcs, ne_eq] at g4)
 refine zG' 3 37 ?_ ?_
 ·intro g5
  (try simp only [dcs, ne_eq] at g5)
  refine zE 7 [4] ?_
  refine zT 0 rfl ⟨by show Value.bool _ = Value.bool _; congr 1; unfold smallC; first | (rw [decide_eq_decide]; constructor <;> intro _ <;> omega) | (symm; rw [decide_eq_true_eq]; omega) | (symm; rw [decide_eq_false_iff_not]; omega), rfl, rfl⟩
 intro g5
 (try simp only [dcs, ne_eq] at g5)
 refine zE 7 [4] ?_
 refine zT 0 rfl ⟨by show Value.bool _ = Value.bool _; congr 1; unfold smallC; first | (rw [decide_eq_decide]; constructor <;> intro _ <;> omega) | (symm; rw [decide_eq_true_eq]; omega) | (symm; rw [decide_eq_false_iff_not]; omega), rfl, rfl⟩
end Go.Proofs.YtdconhalfanclaaGreat.SL
namespace Go.Proofs.YtdconhalfanclaaGreat.SL
open Go Md
end Go.Proofs.YtdconhalfanclaaGreat.SL
namespace Go.Proofs.YtdconhalfanclaaGreat.SL
open Md
theorem sameLen_snoc {Y : List Am} {a : Am} : sameLen (Y ++ [a]) ↔ sameLen Y ∧ ∀ b ∈ Y, b.p = a.p → b.a.length = a.a.length := by
  constructor
  · intro h
    exact ⟨sameLen_sub h fun b hb => List.mem_append_left _ hb, fun b hb e => h b (List.mem_append_left _ hb) a (List.mem_append_right _ (.head _)) e⟩
  · rintro ⟨h, g⟩ x hx y hy e
    rw [List.mem_append, List.mem_singleton] at hx hy
    rcases hx with hx | rfl <;> rcases hy with hy | rfl
    · exact h x hx y hy e
    · exact g x hx e
    · exact (g y hy e.symm).symm
    · rfl
def ArOK (X : List Am) (fs : List Fa) : Prop := (∀ f ∈ fs, f.a.length ≤ 6) ∧ sameLen (X ++ fs.map lift)
theorem ArOK.nil {X : List Am} (h : sameLen X) : ArOK X [] := ⟨(fun f h => (nomatch h)), by simpa using h⟩
theorem ArOK.snoc {X : List Am} {fs : List Fa} {f : Fa} : ArOK X (fs ++ [f]) ↔ ArOK X fs ∧ f.a.length ≤ 6 ∧ (∀ a ∈ X, a.p = f.p → a.a.length = f.a.length) ∧ ∀ g ∈ fs, g.p = f.p → g.a.length = f.a.length := by
  unfold ArOK
  rw [List.map_append, ← List.append_assoc, List.map_singleton, sameLen_snoc]
  constructor
  · rintro ⟨h1, h2, h3⟩
    refine ⟨⟨fun g hg => h1 g (List.mem_append_left _ hg), h2⟩, h1 f (List.mem_append_right _ (.head _)), fun a ha e => ?_, fun g hg e => ?_⟩
    · have := h3 a (List.mem_append_left _ ha) e; rwa [lift_len] at this
    · have := h3 (lift g) (List.mem_append_right _ (List.mem_map.2 ⟨g, hg, rfl⟩)) e; rwa [lift_len, lift_len] at this
  · rintro ⟨⟨h1, h2⟩, h3, h4, h5⟩
    refine ⟨fun g hg => ?_, h2, fun b hb e => ?_⟩
    · rcases List.mem_append.1 hg with h | h
      · exact h1 g h
      · rw [List.mem_singleton.1 h]; exact h3
    · rw [lift_len]
      rcases List.mem_append.1 hb with h | h
      · exact h4 b h e
      · obtain ⟨g, hg, rfl⟩ := List.mem_map.1 h
        rw [lift_len]; exact h5 g hg e
theorem ArOK.sub {X : List Am} {fs : List Fa} (h : ArOK X fs) (k : Nat) : ArOK X (fs.take k) := ⟨fun f hf => h.1 f (List.mem_of_mem_take hf), sameLen_sub h.2 fun a ha => by
  rcases List.mem_append.1 ha with h | h
  · exact List.mem_append_left _ h
  · obtain ⟨g, hg, rfl⟩ := List.mem_map.1 h
    exact List.mem_append_right _ (List.mem_map.2 ⟨g, List.mem_of_mem_take hg, rfl⟩)⟩
theorem fit_iff {L : Lens} {Y : List Am} (h : LensOf L Y) (hs : sameLen Y) (p : Int) (n : Nat) : fitB L p n = true ↔ ∀ b ∈ Y, b.p = p → b.a.length = n := by
  unfold fitB
  cases e : L p with
  | none =>
    refine ⟨fun _ b hb q => ?_, fun _ => rfl⟩
    obtain ⟨k, hk⟩ := h.2 b hb
    rw [q, e] at hk; cases hk
  | some k =>
    obtain ⟨z, hz, g1, g2⟩ := h.1 _ _ e
    simp only [decide_eq_true_eq]
    constructor
    · intro q b hb qb
      have := hs b hb z hz (by rw [qb, g1])
      omega
    · intro q
      have := q z hz g1
      omega
theorem ArOK.fit {X : List Am} {fs : List Fa} {L : Lens} (h : ArOK X fs) (hL : LensOf L (X ++ fs.map lift)) (f : Fa) (hf : f.a.length ≤ 6) : fitB L f.p f.a.length = true ↔ ArOK X (fs ++ [f]) := by
  rw [fit_iff hL h.2, ArOK.snoc]
  constructor
  · intro q
    refine ⟨h, hf, fun a ha e => q a (List.mem_append_left _ ha) e, fun g hg e => ?_⟩
    have := q (lift g) (List.mem_append_right _ (List.mem_map.2 ⟨g, hg, rfl⟩)) e; rwa [lift_len] at this
  · rintro ⟨_, _, h4, h5⟩ b hb e
    rcases List.mem_append.1 hb with h | h
    · exact h4 b h e
    · obtain ⟨g, hg, rfl⟩ := List.mem_map.1 h
      rw [lift_len]; exact h5 g hg e
theorem LensOf.fact {L : Lens} {X : List Am} {fs : List Fa} (hL : LensOf L (X ++ fs.map lift)) (f : Fa) : LensOf (learn L f.p f.a.length) (X ++ (fs ++ [f]).map lift) := by
  have := hL.step (lift f)
  rw [lift_len] at this
  rw [List.map_append, ← List.append_assoc]; exact this
theorem ArOK.bad {X : List Am} {fs : List Fa} {k : Nat} (hk : k < fs.length) (h : ¬ ArOK X (fs.take k ++ [fs[k]])) : ¬ ArOK X fs := fun q => h (by
  have := q.sub (k + 1)
  rwa [List.take_succ_eq_append_getElem hk] at this)
end Go.Proofs.YtdconhalfanclaaGreat.SL
namespace Go.Proofs.YtdconhalfanclaaGreat.SL
open Go Md
theorem safeArities (l : List Cl) (LA : Option Addr) (lc : Nat) (fs : List Fa) (FA : Option Addr) (fc : Nat) (hr : (rightC l).2 = 0) :
    Spec Tryz.prog 36 #[.slice LA l.length lc, .slice FA fs.length fc] [sl tCl LA lc l, sl tFa FA fc fs] [] (fun v Ps' Os' => ∃ (i e : Int), v = .tuple #[.int .i64 i, .int .i64 e] ∧ ((e = 0 ∧ ArOK (atomsL l) fs) ∨ (e = 9 ∧ ¬ ArOK (atomsL l) fs)) ∧ Ps' = [] ∧ Os' = []) := by
 refine zSp _ Tryz.func36 Tryz.ntmps36 (fun _ _ _ => ?_)
 refine zR 1 ?_
 have hri := rightC_iff.1 hr
 have hl := hri.1
 have hb : ∀ c ∈ l, c.b.length ≤ 8 := fun c hc => may_body (hri.2.1 c hc).1
 have hsl := hri.2.2
 refine go_len (xs := l) zM (fun l0 m0 => ?_)
 refine go_len (xs := fs) zM (fun l1 m1 => ?_)
 refine zR 6 ?_
 refine go_makemap (kk := .u32) rfl rfl rfl zH ?_
 intro bm
 refine zR 10 ?_
 refine zO (X := Nat × List (Int × Value)) (fun x => [(14, .int .i64 (x.1 : Int))]) [1, 6, 12, 13] (fun x => [mapO bm .u32 x.2]) (fun x => x.1 ≤ l.length ∧ Lens.Is x.2 ((l.take (x.1)).foldl (fun L c => (clauseL L c).2) (fun _ => none)) ∧ LensOf ((l.take (x.1)).foldl (fun L c => (clauseL L c).2) (fun _ => none)) (atomsL (l.take x.1))) (fun x => l.length - x.1) (0, []) ⟨Nat.zero_le _, Lens.Is.nil, LensOf.nil⟩ ?_
 intro ⟨k, m⟩ ⟨hk, hm, hL⟩
 simp only at hk hm hL ⊢
 refine zD 5 ?_ ?_
 ·intro hq1
  refine zR 4 ?_
  refine go_elem_cl (xs := l) zM (k) (List.getElem?_eq_getElem (by omega)) (fun b0 o0 A0 c0 B0 d0 hA => ?_); cases hA
  refine zI 1 ?_
  refine zL 0 ?_
  refine zW 0 ?_
  intro bt
  refine zS 0 ?_
  refine zR 1 ?_
  refine go_freeze_pt (b := bt) zM ?_
  refine zL 2 ?_
  refine zC 0 (safeClause bm m _ hm l[k] A0 c0 B0 d0) ?_
  rintro _ _ _ ⟨m1, hm1, rfl, rfl, rfl⟩
  refine zR 6 ?_
  refine go_i64n 14 (k + 1) rfl ?_
  refine zz (k + 1, m1) (⟨by show k + 1 ≤ _; omega, by show Lens.Is m1 ((l.take (k + 1)).foldl (fun L c => (clauseL L c).2) (fun _ => none)); rw [fold_next (by omega)]; exact hm1, by show LensOf ((l.take (k + 1)).foldl (fun L c => (clauseL L c).2) (fun _ => none)) (atomsL (l.take (k + 1))); rw [fold_next (by omega), atomsL_next (by omega)]; exact hL.clause l[k]⟩) (by show _ - (k + 1) < _ - k; omega)
 intro hq1
 refine zR 3 ?_
 rw [List.take_of_length_le (show l.length ≤ k by omega)] at hm hL
 have hL0 : LensOf (l.foldl (fun L c => (clauseL L c).2) (fun _ => none)) (atomsL l ++ (fs.take 0).map lift) := by rw [List.take_zero, List.map_nil, List.append_nil]; exact hL
 refine zR 6 ?_
 refine go_loop' (X := Nat × List (Int × Value) × Lens) (fun x => [(24, .int .i64 (x.1 : Int))]) [(6, _), (22, _), (23, _)] (fun x => [mapO bm .u32 x.2.1]) (fun x => x.1 ≤ fs.length ∧ Lens.Is x.2.1 x.2.2 ∧ LensOf x.2.2 (atomsL l ++ (fs.take x.1).map lift) ∧ ArOK (atomsL l) (fs.take x.1)) (fun x => fs.length - x.1) ((0, m, _)) zA zM ⟨Nat.zero_le _, hm, hL0, ArOK.nil hsl⟩ ?_
 intro ⟨j, m2, L⟩ ⟨hj, hm2, hL2, hA⟩
 simp only at hj hm2 hL2 hA ⊢
 refine zD' 5 ?_ ?_
 ·intro hq2
  refine zT 6 rfl ⟨0, 0, rfl, .inl ⟨rfl, by rw [List.take_of_length_le (by omega)] at hA; exact hA⟩, rfl, rfl⟩
 intro hq2
 refine zR 4 ?_
 refine go_elem_fa (xs := fs) zM (j) (List.getElem?_eq_getElem (by omega)) (fun b1 o1 A1 c1 hA => ?_); cases hA
 refine go_len (xs := fs[j].a) zM (fun lf mf => ?_)
 refine zI 2 ?_
 refine zL 0 ?_
 refine zW 0 ?_
 intro bf
 refine zS 1 ?_
 refine zR 1 ?_
 refine go_freeze_pt (b := bf) zM ?_
 refine zL 3 ?_
 refine zG 3 33 ?_ ?_
 ·intro g1
  (try simp only [dcs, ne_eq] at g1)
  refine zDt 10 ?_
  refine zE 6 [4, 5] ?_
  refine zT 0 rfl ⟨_, 9, rfl, .inr ⟨rfl, ArOK.bad (k := j) (by omega) (fun q => by have := (ArOK.snoc.1 q).2.1; omega)⟩, rfl, rfl⟩
 intro g1
 (try simp only [dcs, ne_eq] at g1)
 refine zL 2 ?_
 refine zL 1 ?_
 refine zC 1 (safeFits bm m2 L hm2 fs[j].p fs[j].a.length) ?_
 rintro _ _ _ ⟨m3, hm3, rfl, rfl, rfl⟩
 refine zB 3 ?_ ?_
 ·intro g2
  (try simp only [dcs, ne_eq] at g2)
  refine zE 6 [4, 5] ?_
  refine zT 0 rfl ⟨_, 9, rfl, .inr ⟨rfl, ArOK.bad (k := j) (by omega) (fun q => by have := (hA.fit hL2 fs[j] (by omega)).2 q; rw [this] at g2; simp at g2)⟩, rfl, rfl⟩
 intro g2
 (try simp only [dcs, ne_eq] at g2)
 refine zR 6 ?_
 refine go_i64n 24 (j + 1) rfl ?_
 refine zz (j + 1, m3, learn L fs[j].p fs[j].a.length) (⟨by show j + 1 ≤ _; omega, hm3, by show LensOf _ (atomsL l ++ (fs.take (j + 1)).map lift); rw [List.take_succ_eq_append_getElem (show j < fs.length by omega)]; exact hL2.fact fs[j], by show ArOK _ (fs.take (j + 1)); rw [List.take_succ_eq_append_getElem (show j < fs.length by omega)]; exact (hA.fit hL2 fs[j] (by omega)).1 (by first | exact g2 | simpa using g2)⟩) (by show _ - (j + 1) < _ - j; omega)
end Go.Proofs.YtdconhalfanclaaGreat.SL
namespace Go.Proofs.YtdconhalfanclaaGreat.SL
open Md
abbrev Lx := List Cl × Option Addr × Nat
def encL (x : Lx) : Value := .slice x.2.1 x.1.length x.2.2
def pxL (st : List (List Cl)) (pre : List Lx) (x : Lx) : List PA := [PA.and (st[pre.length]? = some x.1) (sl tCl x.2.1 x.2.2 x.1)]
inductive ModA (l : List Cl) (fs : List Fa) (most : Int) : Option (List Fa) → Int → Prop where
  | arg : most < 0 → ModA l fs most none 1
  | strat {ss : List (List Nat)} {e : Int} : 0 ≤ most → StrR l ss e → e ≠ 0 → ModA l fs most none e
  | ari {ss : List (List Nat)} : 0 ≤ most → StrR l ss 0 → ¬ ArOK (atomsL l) fs → ModA l fs most none 9
  | run {ss : List (List Nat)} {r : Option (List Fa)} {e : Int} : 0 ≤ most → StrR l ss 0 → ArOK (atomsL l) fs → ModelR (ss.map (clausesAt l)) most (fof fs) r e → ModA l fs most r e
theorem LeastR.bad {l : List Cl} {N : List Fa} {most : Int} {r : Option (List Fa)} {n : Nat} {e : Int} (h : LeastR l N most r n e) (he : ¬ e = 0) : r = none := by
  cases h with
  | arg h1 => rfl
  | many k h1 h2 h3 => rfl
  | ok k h1 h2 h3 h4 h5 => exact absurd rfl he
theorem LeastR.good {l : List Cl} {N : List Fa} {most : Int} {r : Option (List Fa)} {n : Nat} {e : Int} (h : LeastR l N most r n e) (he : e = 0) : ∃ B, r = some B := by
  cases h with
  | arg h1 => cases he
  | many k h1 h2 h3 => cases he
  | ok k h1 h2 h3 h4 h5 => exact ⟨_, rfl⟩
theorem Md.Upto.fine {st : List (List Cl)} {most : Int} {N A : List Fa} {k : Nat} (h : Upto st most N k A) (hl : ∀ s ∈ st, ∀ c ∈ s, c.ok) (hN : ∀ x ∈ N, x.ok ∧ x.a.length ≤ 100000) : ∀ x ∈ A, x.ok ∧ x.a.length ≤ 100000 := by
  induction h with
  | zero => exact hN
  | succ h hk hL ih =>
    obtain ⟨j, e, _, _⟩ := hL.some_ok
    rw [e]
    exact Sq_ok (hl _ (List.getElem_mem _)) ih j
theorem clausesAt_mem {l : List Cl} {is : List Nat} {c : Cl} (h : c ∈ clausesAt l is) : c ∈ l := by
  obtain ⟨i, _, e⟩ := List.mem_filterMap.1 h
  exact List.mem_of_getElem? e
theorem clausesAt_snoc {l : List Cl} {is : List Nat} {u : Nat} (h : u < l.length) : clausesAt l (is ++ [u]) = clausesAt l is ++ [l[u]] := by
  unfold clausesAt; rw [List.filterMap_append]; simp [h]
theorem clausesAt_len {l : List Cl} : ∀ {is : List Nat}, (∀ u ∈ is, u < l.length) → (clausesAt l is).length = is.length
  | [], _ => rfl
  | u :: is, h => by
    have h1 := clausesAt_len (l := l) (is := is) (fun v hv => h v (.tail _ hv))
    have h2 := h u (.head _)
    unfold clausesAt at h1 ⊢
    rw [List.filterMap_cons, List.getElem?_eq_getElem h2, List.length_cons, List.length_cons, h1]
theorem StrR.zero {l : List Cl} {ss : List (List Nat)} {e : Int} (h : StrR l ss e) (he : e = 0) : (rightC l).2 = 0 ∧ ss.length ≤ 4001 ∧ ∀ p ∈ ss, p.length ≤ 400 ∧ ∀ u ∈ p, u < l.length := by
  cases h with
  | bad e h1 h2 => exact absurd he h1
  | ok lv h1 h2 h3 h4 =>
    have hl := (rightC_iff.1 h1).1
    refine ⟨h1, ?_, fun p hp => ?_⟩
    · unfold strata; rw [List.length_map, List.length_range]
      exact top_le (fun x hx => by obtain ⟨c, _, rfl⟩ := List.mem_map.1 hx; exact h4 _)
    · unfold strata at hp
      obtain ⟨k, _, rfl⟩ := List.mem_map.1 hp
      refine ⟨Nat.le_trans (strI_len _ _) (by rw [List.length_map]; exact hl), fun u hu => ?_⟩
      have := mem_strI.1 hu
      rw [List.getElem?_map] at this
      cases e : l[u]? with
      | none => rw [e] at this; cases this
      | some c => exact (List.getElem?_eq_some_iff.1 e).1
theorem st_mem {l : List Cl} {ss : List (List Nat)} : ∀ s ∈ ss.map (clausesAt l), ∀ c ∈ s, c ∈ l := fun s hs c hc => by
  obtain ⟨p, _, rfl⟩ := List.mem_map.1 hs
  exact clausesAt_mem hc
end Go.Proofs.YtdconhalfanclaaGreat.SL
namespace Go.Proofs.YtdconhalfanclaaGreat.SL
open Go
theorem fixRight (l : List Cl) (LA : Option Addr) (lc : Nat) :
    Spec Tryz.prog 67 #[.slice LA l.length lc] [sl tCl LA lc l] [] (fun v Ps' Os' => v = .bool (fixR l) ∧ Ps' = [] ∧ Os' = []) := by
 refine zSp _ Tryz.func67 Tryz.ntmps67 (fun _ _ _ => ?_)
 refine zC3 8 (safeRight LA lc l) ?_
 refine zN 11 ?_ ?_
 ·intro g1
  refine zT 4 rfl ⟨by rw [show fixR l = false from decide_eq_false (fun q => g1 q.1)], rfl, rfl⟩
 intro g1
 refine zR 3 ?_
 refine go_makemap (kk := .u32) rfl rfl rfl zH ?_
 intro bm
 refine zR 4 ?_
 refine go_len (xs := l) zM (fun l0 m0 => ?_)
 refine zR 6 ?_
 refine zO (X := Nat × List (Int × Value)) (fun x => [(22, .int .i64 (x.1 : Int))]) [0, 5, 20, 21] (fun x => [mapO bm .u32 x.2]) (fun x => x.1 ≤ l.length ∧ Ones x.2 ((l.take x.1).map fun c => c.h.p)) (fun x => l.length - x.1) (0, []) ⟨by omega, Ones.nil⟩ ?_
 intro ⟨k, m⟩ ⟨hk, hm⟩
 simp only at hk hm ⊢
 refine zD 5 ?_ ?_
 ·intro hq1
  refine zR 4 ?_
  refine go_elem_cl (xs := l) zM (k) (List.getElem?_eq_getElem (by omega)) (fun b1 o1 A1 c1 B1 d1 hA => ?_); cases hA
  refine zI 1 ?_
  refine zL 0 ?_
  refine zW 0 ?_
  intro bT
  refine zS 0 ?_
  refine zR 1 ?_
  refine go_freeze_pt (b := bT) zM ?_
  refine zL 4 ?_
  refine go_mset (m := m) Tk rfl rfl rfl rfl rfl rfl rfl rfl zM zF ?_
  refine zR 6 ?_
  refine zi 22 ?_
  refine go_back (k + 1, _) zA zM zM ⟨by show k + 1 ≤ _; omega, (hm.set l[k].h.p).same (fun z => by simp only [List.take_succ_eq_append_getElem (show k < l.length by omega), List.map_append, List.mem_append, List.mem_cons, List.map_cons, List.map_nil, List.not_mem_nil, or_false]; exact or_comm)⟩ (by show l.length - (k + 1) < l.length - k; omega)
 intro hq1
 refine zR 3 ?_
 rw [List.take_of_length_le (by omega)] at hm
 refine zR 6 ?_
 refine zO (X := Nat) (fun i => [(33, .int .i64 (i : Int))]) [5, 31, 32] (fun _ => []) (fun i => i ≤ l.length ∧ ∀ c ∈ l.take i, ∀ x ∈ c.b, x.no = true → ∀ d ∈ l, ¬ d.h.p = x.a.p) (fun i => l.length - i) 0 ⟨by omega, by simp⟩ ?_
 intro i ⟨hi, hz⟩
 refine zD' 5 ?_ ?_
 ·intro hq2
  refine zT 5 rfl ⟨by rw [show fixR l = true from decide_eq_true ⟨by simpa using g1, fun c hc => by rw [List.take_of_length_le (by omega)] at hz; exact hz c hc⟩], rfl, rfl⟩
 intro hq2
 refine zR 4 ?_
 refine go_elem_cl (xs := l) zM (i) (List.getElem?_eq_getElem (by omega)) (fun b2 o2 A2 c2 B2 d2 hA => ?_); cases hA
 refine zI 1 ?_
 refine zL 0 ?_
 refine zW 0 ?_
 intro bU
 refine zS 0 ?_
 refine zR 1 ?_
 refine go_freeze_pt (b := bU) zM ?_
 refine zR 1 ?_
 refine go_len (xs := l[i].b) zM (fun l2 m2 => ?_)
 refine zL 2 ?_
 refine zR 4 ?_
 refine zO (X := Nat) (fun j => [(40, .int .i64 (j : Int))]) [5, 31, 32, 33, 38, 39] (fun _ => []) (fun j => j ≤ l[i].b.length ∧ ∀ x ∈ l[i].b.take j, x.no = true → ∀ d ∈ l, ¬ d.h.p = x.a.p) (fun j => l[i].b.length - j) 0 ⟨by omega, by simp⟩ ?_
 intro j ⟨hj, hy⟩
 refine zD' 5 ?_ ?_
 ·intro hq3
  refine zR 6 ?_
  refine zi 33 ?_
  refine zz (i + 1) (⟨by omega, mem_take_next (by omega) hz (by rw [List.take_of_length_le (by omega)] at hy; exact hy)⟩) (by omega)
 intro hq3
 refine zR 4 ?_
 refine go_elem_li (xs := l[i].b) zM (j) (List.getElem?_eq_getElem (by omega)) (fun b3 o3 A3 c3 hA => ?_); cases hA
 refine zI 1 ?_
 refine zL 0 ?_
 refine zW 0 ?_
 intro bV
 refine zS 0 ?_
 refine zR 1 ?_
 refine go_freeze_pt (b := bV) zM ?_
 refine zL 3 ?_
 refine zG' 1 46 ?_ ?_
 ·intro g2
  (try simp only [dcs, ne_eq] at g2)
  refine zDf 8 ?_
  refine zR 6 ?_
  refine zi 40 ?_
  refine zz (j + 1) (⟨by omega, mem_take_next (by omega) hy (fun q => by first | exact absurd (g2.symm.trans q) (by decide) | exact g4)⟩) (by omega)
 intro g2
 (try simp only [dcs, ne_eq] at g2)
 refine zL 3 ?_
 refine go_val0 rfl (lookup_val (m := m) (n := l[i].b[j].a.p) (c := false) (v := (mget m l[i].b[j].a.p).getD (.int .i64 0)) Tk rfl rfl rfl rfl rfl rfl zM rfl) rfl ?_
 refine go_re 51 (.int .i64 (if l[i].b[j].a.p ∈ (l.map fun c => c.h.p) then 1 else 0)) (by show some _ = some _; rw [hm]; split <;> rfl) ?_
 refine zB 3 ?_ ?_
 ·intro g3
  (try simp only [dcs, ne_eq] at g3)
  have g4 : l[i].b[j].a.p ∈ (l.map fun c => c.h.p) := Decidable.byContradiction fun h => by rw [if_neg h] at g3; omega
  refine zE 4 [2] ?_
  refine zT 0 rfl ⟨by rw [show fixR l = false from decide_eq_false (fun q => by obtain ⟨d, hd, e⟩ := List.mem_map.1 g4; exact q.2 l[i] (List.getElem_mem _) _ (List.getElem_mem _) g2 d hd e)], rfl, rfl⟩
 intro g3
 (try simp only [dcs, ne_eq] at g3)
 have g4 : ∀ d ∈ l, ¬ d.h.p = l[i].b[j].a.p := fun d hd e => by rw [if_pos (List.mem_map.2 ⟨d, hd, e⟩)] at g3; omega
 refine zR 6 ?_
 refine zi 40 ?_
 refine zz (j + 1) (⟨by omega, mem_take_next (by omega) hy (fun q => by first | exact absurd (g2.symm.trans q) (by decide) | exact g4)⟩) (by omega)
theorem joinHeadsR (c : Cl) (CA : Option Addr) (cc : Nat) (CB : Option Addr) (cd : Nat) (ba : Nat) (pn : Option Addr) (F N : List Fa) (hs : JoinS F [] N) (hok : c.ok) (hb : (goL c F [] N c.b ch0 true).length ≤ 50000000) : Spec Tryz.prog 69 #[.agg #[.int .u32 c.h.p, .slice CA c.h.a.length cc, .slice CB c.b.length cd], .pointer (some ⟨ba, 0, none⟩), .pointer pn] [sl tTm CA cc c.h.a, sl tLi CB cd c.b, relN pn N] [relO ba F] (fun v Ps' Os' => ∃ A k, v = .slice A (headsC c F [] N false).length k ∧ Ps' = [] ∧ Os' = [relO ba F, dl tFa 40 A k (headsC c F [] N false)]) :=
  (((joinHeadsAll c CA cc CB cd (some ⟨ba, 0, none⟩) pn F N hs hok hb).less (Ps' := [relN (some ⟨ba, 0, none⟩) F, sl tTm CA cc c.h.a, sl tLi CB cd c.b, relN pn N]) (fun q hq => by
    simp only [List.mem_cons, List.not_mem_nil, or_false] at hq ⊢
    rcases hq with h | h | h | h <;> simp [h])).lend (relO ba F) (fun hp h1 H l1 l2 q => relN_some (lend_rel hp h1 H l1 l2 q)) (fun v P' O' ⟨A, k, _, h2, h3⟩ => ⟨h2, fun B hB => by rw [h3, List.mem_singleton] at hB; subst hB; exact fun _ _ _ q => q⟩)).imp fun v P' O' ⟨O2, ⟨A, k, h1, _, h3⟩, h4, h5⟩ => ⟨A, k, h1, h4, by rw [h5, h3]⟩
theorem joinNewsR (c : Cl) (CA : Option Addr) (cc : Nat) (CB : Option Addr) (cd : Nat) (ba : Nat) (pg pn : Option Addr) (F R N : List Fa) (hs : JoinS F R N) (hok : c.ok) (hb : (goL c F R N c.b ch0 false).length ≤ 50000000) : Spec Tryz.prog 72 #[.agg #[.int .u32 c.h.p, .slice CA c.h.a.length cc, .slice CB c.b.length cd], .pointer (some ⟨ba, 0, none⟩), .pointer pg, .pointer pn] [sl tTm CA cc c.h.a, sl tLi CB cd c.b, relN pg R, relN pn N] [relO ba F] (fun v Ps' Os' => ∃ A k, v = .slice A (headsC c F R N true).length k ∧ Ps' = [] ∧ Os' = [relO ba F, dl tFa 40 A k (headsC c F R N true)]) :=
  (((joinNews c CA cc CB cd (some ⟨ba, 0, none⟩) pg pn F R N hs hok hb).less (Ps' := [relN (some ⟨ba, 0, none⟩) F, sl tTm CA cc c.h.a, sl tLi CB cd c.b, relN pg R, relN pn N]) (fun q hq => by
    simp only [List.mem_cons, List.not_mem_nil, or_false] at hq ⊢
    rcases hq with h | h | h | h | h <;> simp [h])).lend (relO ba F) (fun hp h1 H l1 l2 q => relN_some (lend_rel hp h1 H l1 l2 q)) (fun v P' O' ⟨A, k, _, h2, h3⟩ => ⟨h2, fun B hB => by rw [h3, List.mem_singleton] at hB; subst hB; exact fun _ _ _ q => q⟩)).imp fun v P' O' ⟨O2, ⟨A, k, h1, _, h3⟩, h4, h5⟩ => ⟨A, k, h1, h4, by rw [h5, h3]⟩
theorem least1 (c : Cl) (CA : Option Addr) (cc : Nat) (CB : Option Addr) (cd : Nat) (b6 b4 ba : Nat) (pn : Option Addr) (F N : List Fa) (hs : JoinS F [] N) (hok : c.ok) (hb : (goL c F [] N c.b ch0 true).length ≤ 50000000) :
    Spec Tryz.prog 68 #[.agg #[.int .u32 c.h.p, .slice CA c.h.a.length cc, .slice CB c.b.length cd], .pointer (some ⟨b6, 0, none⟩), .pointer (some ⟨b4, 0, none⟩)] [sl tTm CA cc c.h.a, sl tLi CB cd c.b, cl b4 0 [.pointer pn], relN pn N] [pt b6 82 [.pointer (some ⟨ba, 0, none⟩)], relO ba F] (fun v Ps' Os' => ∃ A k, v = .slice A (headsC c F [] N false).length k ∧ Ps' = [] ∧ Os' = [pt b6 82 [.pointer (some ⟨ba, 0, none⟩)], relO ba F, dl tFa 40 A k (headsC c F [] N false)]) := by
 refine zSp _ Tryz.func68 Tryz.ntmps68 (fun _ _ _ => ?_)
 refine zX 2 ?_
 intro bC
 refine zR 2 ?_
 refine go_freeze_pt (b := bC) zM ?_
 refine zL 2 ?_
 refine zL 0 ?_
 refine zL 0 ?_
 refine zC 0 (joinHeadsR c CA cc CB cd ba pn F N hs hok hb) ?_
 rintro _ _ _ ⟨A9, k9, rfl, rfl, rfl⟩
 refine zT 2 rfl ⟨A9, k9, rfl, rfl, rfl⟩
theorem least2 (c : Cl) (CA : Option Addr) (cc : Nat) (CB : Option Addr) (cd : Nat) (b6 bg b4 ba : Nat) (pg pn : Option Addr) (F R N : List Fa) (hs : JoinS F R N) (hok : c.ok) (hb : (goL c F R N c.b ch0 false).length ≤ 50000000) :
    Spec Tryz.prog 71 #[.agg #[.int .u32 c.h.p, .slice CA c.h.a.length cc, .slice CB c.b.length cd], .pointer (some ⟨b6, 0, none⟩), .pointer (some ⟨bg, 0, none⟩), .pointer (some ⟨b4, 0, none⟩)] [sl tTm CA cc c.h.a, sl tLi CB cd c.b, cl bg 0 [.pointer pg], relN pg R, cl b4 0 [.pointer pn], relN pn N] [pt b6 82 [.pointer (some ⟨ba, 0, none⟩)], relO ba F] (fun v Ps' Os' => ∃ A k, v = .slice A (headsC c F R N true).length k ∧ Ps' = [] ∧ Os' = [pt b6 82 [.pointer (some ⟨ba, 0, none⟩)], relO ba F, dl tFa 40 A k (headsC c F R N true)]) := by
 refine zSp _ Tryz.func71 Tryz.ntmps71 (fun _ _ _ => ?_)
 refine zX 2 ?_
 intro bC
 refine zR 2 ?_
 refine go_freeze_pt (b := bC) zM ?_
 refine zL 2 ?_
 refine zL 0 ?_
 refine zL 0 ?_
 refine zL 0 ?_
 refine zC 0 (joinNewsR c CA cc CB cd ba pg pn F R N hs hok hb) ?_
 rintro _ _ _ ⟨A9, k9, rfl, rfl, rfl⟩
 refine zT 2 rfl ⟨A9, k9, rfl, rfl, rfl⟩
theorem pre_mem {l : List Cl} {hd : Cl → List Fa} {k j : Nat} (hk : k < l.length) {x : Fa} (h : x ∈ (l.take k).flatMap hd ++ (hd l[k]).take j) : x ∈ l.flatMap hd := by
  rw [List.mem_flatMap]
  rcases List.mem_append.1 h with h | h
  · obtain ⟨c, hc, h⟩ := List.mem_flatMap.1 h
    exact ⟨c, List.mem_of_mem_take hc, h⟩
  · exact ⟨l[k], List.getElem_mem _, List.mem_of_mem_take h⟩
theorem fixNews (l : List Cl) (LA : Option Addr) (lc : Nat) (b6 ba : Nat) (F : List Fa) (g : FuncId) (caps : Array Value) (PK : PA) (hd : Cl → List Fa) (most : Int) (hask : ∀ c ∈ l, ∀ (CA : Option Addr) (cc : Nat) (CB : Option Addr) (cd : Nat), Spec Tryz.prog g (Value.agg #[.int .u32 c.h.p, .slice CA c.h.a.length cc, .slice CB c.b.length cd] :: caps.toList).toArray [sl tTm CA cc c.h.a, sl tLi CB cd c.b, PK] [pt b6 82 [.pointer (some ⟨ba, 0, none⟩)], relO ba F] (fun v Ps' Os' => ∃ A k, v = .slice A (hd c).length k ∧ Ps' = [] ∧ Os' = [pt b6 82 [.pointer (some ⟨ba, 0, none⟩)], relO ba F, dl tFa 40 A k (hd c)])) (hr : rises F) (hm : most ≤ 100000) (hF : (F.length : Int) ≤ most) (hda : ∀ c ∈ l, ∀ x ∈ hd c, x.a.length ≤ 100000) :
    Spec Tryz.prog 70 #[.agg #[.slice LA l.length lc, .pointer (some ⟨ba, 0, none⟩), .func (.func g) #[] caps], .int .i64 most] [sl tCl LA lc l, PK] [pt b6 82 [.pointer (some ⟨ba, 0, none⟩)], relO ba F] (fun v Ps' Os' => ∃ b R, v = .pointer (some ⟨b, 0, none⟩) ∧ rises R ∧ R.length ≤ 100001 ∧ ((most < ((F.length + R.length : Nat) : Int) ∧ most < ((F.length + (nws F (l.flatMap hd)).length : Nat) : Int)) ∨ (R = nws F (l.flatMap hd) ∧ ((F.length + R.length : Nat) : Int) ≤ most)) ∧ Ps' = [] ∧ Os' = [pt b6 82 [.pointer (some ⟨ba, 0, none⟩)], relO ba F, relO b R]) := by
 refine zSp _ Tryz.func70 Tryz.ntmps70 (fun _ _ _ => ?_)
 refine zX 2 ?_
 intro bR
 refine zR 2 ?_
 refine go_freeze_pt (b := bR) zM ?_
 refine zC 2 relNew ?_
 rintro _ _ _ ⟨b, rfl, rfl, rfl⟩
 refine go_same (A := relO b []) (B := relO b (nws F ((l.take (0)).flatMap hd))) zM rfl ?_
 refine zR 4 ?_
 refine go_len (xs := l) zM (fun l0 m0 => ?_)
 refine zL 2 ?_
 refine zR 4 ?_
 refine zO (X := Nat) (fun k => [(14, .int .i64 (k : Int))]) [1, 2, 5, 12, 13] (fun k => [pt b6 82 [.pointer (some ⟨ba, 0, none⟩)], relO ba F, relO b (nws F ((l.take (k)).flatMap hd))]) (fun k => k ≤ l.length ∧ ((F.length + (nws F ((l.take (k)).flatMap hd)).length : Nat) : Int) ≤ most) (fun k => l.length - k) 0 ⟨by omega, by show ((F.length + 0 : Nat) : Int) ≤ most; omega⟩ ?_
 intro k ⟨hk, hkm⟩
 refine zD' 5 ?_ ?_
 ·intro hq1
  refine zT 6 rfl ⟨b, _, rfl, rises_nws _ _, by omega, .inr ⟨by rw [List.take_of_length_le (show l.length ≤ k by omega)], hkm⟩, rfl, rfl⟩
 intro hq1
 refine zR 4 ?_
 refine go_elem_cl (xs := l) zM (k) (List.getElem?_eq_getElem (by omega)) (fun b1 o1 A1 c1 B1 d1 hA => ?_); cases hA
 refine zI 1 ?_
 refine zL 0 ?_
 refine zW 0 ?_
 intro bT
 refine zS 0 ?_
 refine zR 1 ?_
 refine go_freeze_pt (b := bT) zM ?_
 refine zL 3 ?_
 refine zL 0 ?_
 refine zC 0 (hask l[k] (List.getElem_mem _) A1 c1 B1 d1) ?_
 rintro _ _ _ ⟨A2, k2, rfl, rfl, rfl⟩
 refine go_freeze_dl (T := tFa) (A := A2) (xs := hd l[k]) zM ?_
 refine go_len (xs := hd l[k]) zM (fun l2 m2 => ?_)
 refine go_same (A := relO b (nws F ((l.take (k)).flatMap hd))) (B := relO b (nws F ((l.take k).flatMap hd ++ (hd l[k]).take 0))) zM (by rw [List.take_zero, List.append_nil]) ?_
 refine zR 4 ?_
 refine zO (X := Nat) (fun j => [(23, .int .i64 (j : Int))]) [1, 2, 5, 12, 13, 14, 21, 22] (fun j => [pt b6 82 [.pointer (some ⟨ba, 0, none⟩)], relO ba F, relO b (nws F ((l.take k).flatMap hd ++ (hd l[k]).take j))]) (fun j => j ≤ (hd l[k]).length ∧ ((F.length + (nws F ((l.take k).flatMap hd ++ (hd l[k]).take j)).length : Nat) : Int) ≤ most) (fun j => (hd l[k]).length - j) 0 ⟨by omega, by rw [List.take_zero, List.append_nil]; exact hkm⟩ ?_
 intro j ⟨hj, hjm⟩
 refine zD' 5 ?_ ?_
 ·intro hq2
  refine zR 6 ?_
  refine go_same (A := relO b (nws F ((l.take k).flatMap hd ++ (hd l[k]).take j))) (B := relO b (nws F ((l.take (k + 1)).flatMap hd))) zM (by rw [List.take_of_length_le (show (hd l[k]).length ≤ j by omega), ← flat_next (by omega)]) ?_
  refine zi 14 ?_
  refine zz (k + 1) ⟨by omega, by rw [List.take_of_length_le (show (hd l[k]).length ≤ j by omega), ← flat_next (by omega)] at hjm; exact hjm⟩ (by omega)
 intro hq2
 refine zR 4 ?_
 refine go_elem_fa (xs := hd l[k]) zM (j) (List.getElem?_eq_getElem (by omega)) (fun b3 o3 A3 c3 hA => ?_); cases hA
 have hxs : ((l.take k).flatMap hd ++ (hd l[k]).take (j + 1)) = ((l.take k).flatMap hd ++ (hd l[k]).take j) ++ [(hd l[k])[j]] := by rw [List.take_succ_eq_append_getElem (show j < (hd l[k]).length by omega), ← List.append_assoc]
 have hsn := nws_snoc F ((l.take k).flatMap hd ++ (hd l[k]).take j) (hd l[k])[j]
 rw [← hxs] at hsn
 refine zI 1 ?_
 refine zL 0 ?_
 refine zW 0 ?_
 intro bV
 refine zS 0 ?_
 refine zR 1 ?_
 refine go_freeze_pt (b := bV) zM ?_
 refine zL 4 ?_
 refine zL 0 ?_
 refine zC3 0 (relHas ba F (hd l[k])[j] A3 c3 hr (by omega)) ?_
 refine zB' 2 ?_ ?_
 ·intro g1
  (try simp only [dcs, ne_eq] at g1)
  rw [if_pos g1] at hsn
  refine go_same (A := relO b (nws F ((l.take k).flatMap hd ++ (hd l[k]).take j))) (B := relO b (nws F ((l.take k).flatMap hd ++ (hd l[k]).take (j + 1)))) zM (by rw [hsn]) ?_
  refine zR 2 ?_
  have hle : (nws F ((l.take k).flatMap hd ++ (hd l[k]).take (j + 1))).length ≤ (nws F ((l.take k).flatMap hd ++ (hd l[k]).take j)).length + 1 := by rw [hsn]; first | omega | exact fput_len _ _
  refine zL 2 ?_
  refine zC3 0 (relLen ba F) ?_
  refine zC3 1 (relLen b (nws F ((l.take k).flatMap hd ++ (hd l[k]).take (j + 1)))) ?_
  refine zR 1 ?_
  refine zi 40 ?_
  refine zE 3 [1, 2, 5, 12, 13, 14, 21, 22, 23, 42] ?_
  refine zD' 0 ?_ ?_
  ·intro g2
   refine zR 6 ?_
   refine zi 23 ?_
   refine zz (j + 1) ⟨by omega, by omega⟩ (by omega)
  intro g2
  refine zT 5 rfl ⟨b, nws F ((l.take k).flatMap hd ++ (hd l[k]).take (j + 1)), rfl, rises_nws _ _, by omega, .inl ⟨by omega, by have := nws_sub (S := F) (X := ((l.take k).flatMap hd ++ (hd l[k]).take (j + 1))) (Y := l.flatMap hd) (fun x hx => pre_mem (by omega) hx); omega⟩, rfl, rfl⟩
 intro g1
 (try simp only [dcs, ne_eq] at g1)
 rw [if_neg g1] at hsn
 refine zL 2 ?_
 refine zC3 0 (relPut b (nws F ((l.take k).flatMap hd ++ (hd l[k]).take j)) (hd l[k])[j] A3 c3 (rises_nws _ _) (by omega) (hda l[k] (List.getElem_mem _) _ (List.getElem_mem _))) ?_
 rw [← hsn]
 refine zE 1 [1, 2, 5, 12, 13, 14, 21, 22, 23] ?_
 refine zR 1 ?_
 have hle : (nws F ((l.take k).flatMap hd ++ (hd l[k]).take (j + 1))).length ≤ (nws F ((l.take k).flatMap hd ++ (hd l[k]).take j)).length + 1 := by rw [hsn]; first | omega | exact fput_len _ _
 refine zL 2 ?_
 refine zC3 0 (relLen ba F) ?_
 refine zC3 1 (relLen b (nws F ((l.take k).flatMap hd ++ (hd l[k]).take (j + 1)))) ?_
 refine zR 1 ?_
 refine zi 40 ?_
 refine zD' 3 ?_ ?_
 ·intro g2
  refine zR 6 ?_
  refine zi 23 ?_
  refine zz (j + 1) ⟨by omega, by omega⟩ (by omega)
 intro g2
 refine zE 5 [4] ?_
 refine zT 0 rfl ⟨b, nws F ((l.take k).flatMap hd ++ (hd l[k]).take (j + 1)), rfl, rises_nws _ _, by omega, .inl ⟨by omega, by have := nws_sub (S := F) (X := ((l.take k).flatMap hd ++ (hd l[k]).take (j + 1))) (Y := l.flatMap hd) (fun x hx => pre_mem (by omega) hx); omega⟩, rfl, rfl⟩
theorem Spec.ents {P : Program} {f : FuncId} {args : Array Value} {Ps Ps' : List PA} {Os : List OA} {Q : Value → List PA → List OA → Prop} (s : Spec P f args Ps Os Q) (h : ∀ q, q ∈ Ps → Ent Ps' q) : Spec P f args Ps' Os Q :=
  ⟨s.fn, fun w hp ho hf hs a b c => s.calls w hp ho hf (hs.ents h) a b c⟩
def relR (p : Option Addr) (r : Option (List Fa)) : OA := ⟨fun hp h => match r with | none => p = none | some S => ∃ b, p = some ⟨b, 0, none⟩ ∧ (relO b S).p hp h, fun {hp hp' h} hl q => by
  cases r with
  | none => exact q
  | some S => obtain ⟨b, e, r⟩ := q; exact ⟨b, e, (relO b S).up hl r⟩⟩
section
variable {C : Ctx} {k : List It} {E : Env} {Ps : List PA} {Os : List OA}
theorem go_relR0 (g : Go C k E Ps (relR none none :: Os)) : Go C k E Ps Os := fun a w hp ho hf hs hb => g a w hp ho hf ⟨hs.inp, hs.ino, hs.dj, hs.ps, Heap.nil, ho, Heap.nil_le _, Heap.le_refl _, Heap.nil_dj _, rfl, hs.os⟩ hb
theorem go_relR1 {b : Nat} {S : List Fa} {rr : List OA} (h : Rem (relO b S) Os rr) (g : Go C k E Ps (relR (some ⟨b, 0, none⟩) (some S) :: rr)) : Go C k E Ps Os := go_imp _ [relR (some ⟨b, 0, none⟩) (some S)] h (fun _ _ q => sep_one ⟨b, rfl, q⟩) g
theorem go_relRs {p : Option Addr} {S : List Fa} {rr : List OA} (h : Rem (relR p (some S)) Os rr) (g : ∀ b, p = some ⟨b, 0, none⟩ → Go C k E Ps (relO b S :: rr)) : Go C k E Ps Os := fun a w hp ho hf hs hb => by
  obtain ⟨g1, g2, i, b, d, ⟨b', e, q⟩, sp⟩ := Sep.rem h hs.os
  exact g b' e a w hp ho hf ⟨hs.inp, hs.ino, hs.dj, hs.ps, g1, g2, i, b, d, q, sp⟩ hb
end
theorem Rq_len (l : List Cl) (N : List Fa) : ∀ k, (Rq l N k).length ≤ (Sq l N k).length
  | 0 => by simp [Rq]
  | k + 1 => by rw [Sq_len]; show (nx l N (Sq l N k)).length ≤ _; omega
def lkF (b6 b4 bg : Nat) : Nat → Value
  | 0 => .func (.func 68) #[] #[.pointer (some ⟨b6, 0, none⟩), .pointer (some ⟨b4, 0, none⟩)]
  | _ + 1 => .func (.func 71) #[] #[.pointer (some ⟨b6, 0, none⟩), .pointer (some ⟨bg, 0, none⟩), .pointer (some ⟨b4, 0, none⟩)]
def lkP (b4 : Nat) (pn : Option Addr) (N : List Fa) (bg bf : Nat) (R : List Fa) : Nat → PA
  | 0 => PA.all [cl b4 0 [.pointer pn], relN pn N]
  | _ + 1 => PA.all [cl bg 0 [.pointer (some ⟨bf, 0, none⟩)], relN (some ⟨bf, 0, none⟩) R, cl b4 0 [.pointer pn], relN pn N]
theorem lk_js {l : List Cl} {N : List Fa} {most : Int} (hl : ∀ c ∈ l, c.ok) (hN : ∀ x ∈ N, x.ok ∧ x.a.length ≤ 100000) (hr : rises N) (hm : most ≤ 100000) (hbig : ∀ c ∈ l, ∀ (F R : List Fa) (new : Bool), (F.length : Int) ≤ most → (goL c F R N c.b ch0 new).length ≤ 50000000) (hNl : (N.length : Int) ≤ most) {k : Nat} (hk : ((Sq l N k).length : Int) ≤ most) : JoinS (Sq l N k) (Rq l N k) N :=
  ⟨by omega, fun x hx => (Sq_ok hl hN k x hx).2, fun x hx => (Sq_ok hl hN k x hx).1, (by cases k with
    | zero => exact rises_nil
    | succ k => exact rises_nws _ _), by have := Rq_len l N k; omega, hr, by omega⟩
theorem roundNews (l : List Cl) (LA : Option Addr) (lc : Nat) (b6 b4 ba bg bf : Nat) (pn : Option Addr) (N : List Fa) (most : Int) (hl : ∀ c ∈ l, c.ok) (hN : ∀ x ∈ N, x.ok ∧ x.a.length ≤ 100000) (hr : rises N) (hm : most ≤ 100000) (hbig : ∀ c ∈ l, ∀ (F R : List Fa) (new : Bool), (F.length : Int) ≤ most → (goL c F R N c.b ch0 new).length ≤ 50000000) (hNl : (N.length : Int) ≤ most) : ∀ (k : Nat) (hk : ((Sq l N k).length : Int) ≤ most),
    Spec Tryz.prog 70 #[.agg #[.slice LA l.length lc, .pointer (some ⟨ba, 0, none⟩), lkF b6 b4 bg k], .int .i64 most] [sl tCl LA lc l, lkP b4 pn N bg bf (Rq l N k) k] [pt b6 82 [.pointer (some ⟨ba, 0, none⟩)], relO ba (Sq l N k)] (fun v Ps' Os' => ∃ b R, v = .pointer (some ⟨b, 0, none⟩) ∧ rises R ∧ R.length ≤ 100001 ∧ ((most < (((Sq l N k).length + R.length : Nat) : Int) ∧ most < ((Sq l N (k + 1)).length : Int)) ∨ (R = nx l N (Sq l N k) ∧ (((Sq l N k).length + R.length : Nat) : Int) ≤ most)) ∧ Ps' = [] ∧ Os' = [pt b6 82 [.pointer (some ⟨ba, 0, none⟩)], relO ba (Sq l N k), relO b R])
  | 0, hk => (fixNews l LA lc b6 ba (Sq l N 0) 68 #[.pointer (some ⟨b6, 0, none⟩), .pointer (some ⟨b4, 0, none⟩)] _ (askH l N 0) most (fun c hc CA cc CB cd => (least1 c CA cc CB cd b6 b4 ba pn (Sq l N 0) N (lk_js hl hN hr hm hbig hNl (k := 0) hk) (hl c hc) (hbig c hc _ _ _ hk)).ents (fun q hq => by
      simp only [List.mem_cons, List.not_mem_nil, or_false] at hq
      first
      | (rcases hq with rfl | rfl | rfl | rfl)
      | (rcases hq with rfl | rfl | rfl | rfl | rfl | rfl)
      all_goals intro h a; first | exact a _ (.head _) | exact a _ (.tail _ (.head _)) | exact a _ (.tail _ (.tail _ (.head _))) _ (by simp))) (rises_Sq hr 0) hm hk (fun c hc x hx => by have := (heads_ok (hl c hc) (fun y hy => (Sq_ok hl hN 0 y hy).1) hx).2; omega)).imp fun v P' O' ⟨b, R, h1, h2, h0, h3, h4, h5⟩ => ⟨b, R, h1, h2, h0, by rw [ask_news hl] at h3; rw [Sq_len]; exact h3, h4, h5⟩
  | k + 1, hk => (fixNews l LA lc b6 ba (Sq l N (k + 1)) 71 #[.pointer (some ⟨b6, 0, none⟩), .pointer (some ⟨bg, 0, none⟩), .pointer (some ⟨b4, 0, none⟩)] _ (askH l N (k + 1)) most (fun c hc CA cc CB cd => (least2 c CA cc CB cd b6 bg b4 ba (some ⟨bf, 0, none⟩) pn (Sq l N (k + 1)) (Rq l N (k + 1)) N (lk_js hl hN hr hm hbig hNl hk) (hl c hc) (hbig c hc _ _ _ hk)).ents (fun q hq => by
      simp only [List.mem_cons, List.not_mem_nil, or_false] at hq
      first
      | (rcases hq with rfl | rfl | rfl | rfl)
      | (rcases hq with rfl | rfl | rfl | rfl | rfl | rfl)
      all_goals intro h a; first | exact a _ (.head _) | exact a _ (.tail _ (.head _)) | exact a _ (.tail _ (.tail _ (.head _))) _ (by simp))) (rises_Sq hr (k + 1)) hm hk (fun c hc x hx => by have := (heads_ok (hl c hc) (fun y hy => (Sq_ok hl hN (k + 1) y hy).1) hx).2; omega)).imp fun v P' O' ⟨b, R, h1, h2, h0, h3, h4, h5⟩ => ⟨b, R, h1, h2, h0, by rw [ask_news hl] at h3; rw [show (Sq l N (k + 1 + 1)).length = _ from Sq_len l N (k + 1)]; exact h3, h4, h5⟩
set_option maxHeartbeats 4000000 in
theorem fixLeast (l : List Cl) (LA : Option Addr) (lc : Nat) (pn : Option Addr) (N : List Fa) (most : Int) (hl : ∀ c ∈ l, c.ok) (hN : ∀ x ∈ N, x.ok ∧ x.a.length ≤ 100000) (hr : rises N) (hm : most ≤ 100000) (hbig : ∀ c ∈ l, ∀ (F R : List Fa) (new : Bool), (F.length : Int) ≤ most → (goL c F R N c.b ch0 new).length ≤ 50000000) (hNl : N.length ≤ 100000) :
    Spec Tryz.prog 40 #[.slice LA l.length lc, .pointer pn, .int .i64 most] [sl tCl LA lc l, relN pn N] [] (fun v Ps' Os' => ∃ r n e p, LeastR l N most r n e ∧ v = .tuple #[.pointer p, .int .i64 ((n : Nat) : Int), .int .i64 e] ∧ Ps' = [] ∧ Os' = [relR p r]) := by
 refine zSp _ Tryz.func40 Tryz.ntmps40 (fun _ _ _ => ?_)
 refine zX 2 ?_
 intro b4
 refine go_freeze_pt (b := b4) zM ?_
 refine zW 0 ?_
 intro b6
 refine zG 9 15 ?_ ?_
 ·intro g1
  (try simp only [dcs, ne_eq] at g1)
  refine zDt 5 ?_
  refine zR 1 ?_
  refine go_relR0 ?_
  refine zS 1 ?_
  refine zR 3 ?_
  refine go_ret ⟨rfl, rfl⟩ _ _ (res3 (by rfl) (.cell rfl (rdv Tk rfl)) (.tmp rfl) (.tmp rfl)) ⟨none, 0, 1, none, .arg (.inl g1), rfl, rfl, rfl⟩ zM zM
 intro g1
 (try simp only [dcs, ne_eq] at g1)
 refine zC3 1 (fixRight l LA lc) ?_
 refine zB 3 ?_ ?_
 ·intro g2
  (try simp only [dcs, ne_eq] at g2)
  refine zR 1 ?_
  refine go_relR0 ?_
  refine zS 1 ?_
  refine zR 3 ?_
  refine go_ret ⟨rfl, rfl⟩ _ _ (res3 (by rfl) (.cell rfl (rdv Tk rfl)) (.tmp rfl) (.tmp rfl)) ⟨none, 0, 1, none, .arg (.inr g2), rfl, rfl, rfl⟩ zM zM
 intro g2
 (try simp only [dcs, ne_eq] at g2)
 refine zR 2 ?_
 refine go_ent (relN none []) (fun _ _ => relN_nil) ?_
 have g1' : 0 ≤ most := by omega
 refine zL 1 ?_
 refine zC 0 (relLessN pn N none [] rises_nil (by simp) (by omega) (fun x hx => (hN x hx).2)) ?_
 rintro _ _ _ ⟨ba, rfl, rfl, rfl⟩
 refine go_relD (b := ba) zM ?_
 refine go_same (A := relO ba _) (B := relO ba (Sq l N 0)) zM (by rw [less_nil]; rfl) ?_
 refine zS 0 ?_
 refine zL 4 ?_
 refine zC3 0 (relLen ba (Sq l N 0)) ?_
 refine zE 3 [0, 2, 4, 6, 7, 25] ?_
 refine zD 0 ?_ ?_
 ·intro g3
  refine zR 1 ?_
  refine go_relR0 ?_
  refine zS 1 ?_
  refine zR 3 ?_
  refine go_ret ⟨rfl, rfl⟩ _ _ (res3 (by rfl) (.cell rfl (rdv Tk rfl)) (.tmp rfl) (.tmp rfl)) ⟨none, 0, 6, none, .many 0 g1' g2 (by omega), rfl, rfl, rfl⟩ zM zM
 intro g3
 refine zL 4 ?_
 refine zq 1 ?_
 refine zW 0 ?_
 intro b9
 refine zS 0 ?_
 refine zR 1 ?_
 refine go_mkall [cl b4 0 [.pointer pn], relN pn N] zM ?_
 have hSN : ((Sq l N 0).length : Int) ≤ most := by omega
 have hNm : (N.length : Int) ≤ most := hSN
 refine zR 1 ?_
 refine go_loop (X := Nat × Nat × Nat) (fun x => [(7, .int .i64 (x.1 : Int))]) [(2, _), (4, _), (6, _), (9, _)] (fun x => [sl tCl LA lc l, lkP b4 pn N x.2.1 x.2.2 (Rq l N x.1) x.1, cl b4 0 [.pointer pn], relN pn N]) (fun x => [pt b6 82 [.pointer (some ⟨ba, 0, none⟩)], relO ba (Sq l N x.1), pt b9 132 [.slice LA l.length lc, .pointer (some ⟨ba, 0, none⟩), lkF b6 b4 x.2.1 x.1]]) (fun x => ((Sq l N x.1).length : Int) ≤ most ∧ x.1 ≤ (Sq l N x.1).length ∧ ∀ j < x.1, ¬ nx l N (Sq l N j) = []) (fun x => most.toNat + 1 - x.1) ((0, 0, 0)) zA zM zM ⟨hSN, by omega, by omega⟩ ?_
 intro ⟨k, bg0, bf0⟩ ⟨hk, hkl, hkn⟩
 simp only at hk hkl hkn ⊢
 refine zR 5 ?_
 refine zi 31 ?_
 refine go_re 31 (.int .i64 ((k + 1 : Nat) : Int)) (by rfl) ?_
 refine zL 4 ?_
 refine zC 1 (roundNews l LA lc b6 b4 ba bg0 bf0 pn N most hl hN hr hm hbig hNm k hk) ?_
 rintro _ _ _ ⟨bf, R, rfl, hRr, hRl, hca, rfl, rfl⟩
 refine zW 0 ?_
 intro bg
 refine zS 0 ?_
 refine zR 3 ?_
 refine go_draw ([]) ([pt b6 82 [.pointer (some ⟨ba, 0, none⟩)], pt bg 82 [.pointer (some ⟨bf, 0, none⟩)]]) [0, 2] (SL.pre [(1, 5), (2, 0), (2, 2), (0, 1), (0, 3), (1, 4), (1, 6)] .nil) mixed rfl (by kernel_rfl) ?_
 refine zK 1 ?_
 refine zK 0 ?_
 refine go_call (relLen ba (Sq l N k)) rfl rfl (by rfl) rfl zM zM (fun _ v Ps' Os' hq => by obtain ⟨rfl, rfl, rfl⟩ := hq; exact satS zM zM) ?_
 rintro _ _ _ ⟨rfl, rfl, rfl⟩
 refine zC3 0 (relLen bf R) ?_
 refine zR 1 ?_
 refine zi 39 ?_
 refine zD 2 ?_ ?_
 ·intro g3
  refine zR 1 ?_
  refine go_relR0 ?_
  refine zS 1 ?_
  refine zE 3 [6, 7, 8] ?_
  refine go_ret ⟨rfl, rfl⟩ _ _ (res3 (by rfl) (.cell rfl (rdv Tk rfl)) (.tmp rfl) (.tmp rfl)) ⟨none, 0, 6, none, .many (k + 1) g1' g2 (hca.elim (fun q => q.2) (fun q => absurd q.2 (by omega))), rfl, rfl, rfl⟩ zM zM
 intro g3
 obtain ⟨rfl, hle⟩ := hca.resolve_left (fun q => by omega)
 refine zL 4 ?_
 refine zC3 0 (relLen bf (nx l N (Sq l N k))) ?_
 refine zE 2 [2, 4, 6, 7, 9, 10, 44] ?_
 refine zD 0 ?_ ?_
 ·intro g4
  have g5 : nx l N (Sq l N k) = [] := List.eq_nil_of_length_eq_zero (by omega)
  refine zR 1 ?_
  skip
  refine zL 1 ?_
  refine zS 1 ?_
  refine zR 3 ?_
  refine go_relR1 (b := ba) zM ?_
  refine go_ret ⟨rfl, rfl⟩ _ _ (res3 (by rfl) (.cell rfl (rdv Tk rfl)) (.tmp rfl) (.tmp rfl)) ⟨some (Sq l N k), k + 1, 0, _, .ok k g1' g2 hk hkn g5, rfl, rfl, rfl⟩ zM zM
 intro g4
 have g5 : ¬ nx l N (Sq l N k) = [] := fun q => g4 (by rw [q]; rfl)
 have hnl : 0 < (nx l N (Sq l N k)).length := List.length_pos_iff.2 g5
 refine zR 3 ?_
 refine go_freeze_pt (b := bg) zM ?_
 refine go_freeze_rel (b := bf) zM ?_
 refine go_ent (relN (some ⟨bf, 0, none⟩) (nx l N (Sq l N k))) (fun hh hps => relN_some (hps (relP bf (nx l N (Sq l N k))) zM)) ?_
 refine zL 1 ?_
 refine zC 0 (relListN (some ⟨bf, 0, none⟩) (nx l N (Sq l N k)) (by omega) (fun x hx => (Sq_ok hl hN (k + 1) x (mem_nextS.2 (.inr (mem_nws.1 hx).1))).2)) ?_
 rintro _ _ _ ⟨A9, k9, rfl, rfl, rfl⟩
 refine go_freeze_dl (T := tFa) (A := A9) (xs := nx l N (Sq l N k)) zM ?_
 refine go_len (xs := nx l N (Sq l N k)) zM (fun l9 m9 => ?_)
 refine go_same (A := relO ba (Sq l N k)) (B := relO ba (((nx l N (Sq l N k)).take (0)).foldl fput (Sq l N k))) zM rfl ?_
 refine zR 4 ?_
 refine zO (X := Nat) (fun j => [(50, .int .i64 (j : Int))]) [2, 4, 6, 7, 9, 10, 48, 49] (fun j => [pt b6 82 [.pointer (some ⟨ba, 0, none⟩)], relO ba (((nx l N (Sq l N k)).take (j)).foldl fput (Sq l N k))]) (fun j => j ≤ (nx l N (Sq l N k)).length) (fun j => (nx l N (Sq l N k)).length - j) 0 (by omega) ?_
 intro j hj
 have hcl := foldl_flen ((nx l N (Sq l N k)).take j) (Sq l N k)
 rw [List.length_take] at hcl
 refine zD' 5 ?_ ?_
 ·intro hq1
  refine zS 4 ?_
  refine zR 1 ?_
  refine go_same (A := relO ba _) (B := relO ba (Sq l N (k + 1))) zM (by rw [List.take_of_length_le (by omega)]; rfl) ?_
  refine zR 1 ?_
  refine go_mkall [cl bg 0 [.pointer (some ⟨bf, 0, none⟩)], relN (some ⟨bf, 0, none⟩) (nx l N (Sq l N k)), cl b4 0 [.pointer pn], relN pn N] zM ?_
  refine zz (k + 1, bg, bf) ⟨by show ((Sq l N (k + 1)).length : Int) ≤ most; rw [Sq_len]; exact hle, by show k + 1 ≤ _; rw [Sq_len]; omega, fun j' hj' => (Nat.lt_or_ge j' k).elim (hkn j') (fun q => by rw [show j' = k by have : j' < k + 1 := hj'; omega]; exact g5)⟩ (by show most.toNat + 1 - (k + 1) < most.toNat + 1 - k; omega)
 intro hq1
 refine zR 4 ?_
 refine go_elem_fa (xs := nx l N (Sq l N k)) zM (j) (List.getElem?_eq_getElem (by omega)) (fun b1 o1 A1 c1 hA => ?_); cases hA
 refine zI 1 ?_
 refine zL 0 ?_
 refine zW 0 ?_
 intro bV
 refine zS 0 ?_
 refine zR 1 ?_
 refine go_freeze_pt (b := bV) zM ?_
 refine zL 1 ?_
 refine zL 0 ?_
 refine zC3 0 (relPut ba (((nx l N (Sq l N k)).take (j)).foldl fput (Sq l N k)) (nx l N (Sq l N k))[j] A1 c1 (foldl_rises _ _ (rises_Sq hr k)) (by omega) (Sq_ok hl hN (k + 1) _ (mem_nextS.2 (.inr (mem_nws.1 (List.getElem_mem (show j < (nx l N (Sq l N k)).length by omega))).1))).2) ?_
 refine zR 6 ?_
 refine zi 50 ?_
 refine go_same (B := relO ba (((nx l N (Sq l N k)).take (j + 1)).foldl fput (Sq l N k))) .here (by rw [List.take_succ_eq_append_getElem (show j < (nx l N (Sq l N k)).length by omega), List.foldl_append]; rfl) ?_
 refine zz (j + 1) (by omega) (by omega)
end Go.Proofs.YtdconhalfanclaaGreat.SL
namespace Go.Proofs.YtdconhalfanclaaGreat.SL
open Go Md
theorem modelLevels (l : List Cl) (LA : Option Addr) (lc : Nat) (ss : List (List Nat)) (SA : Option Addr) (sc : Nat) :
    Spec Tryz.prog 39 #[.slice LA l.length lc, .slice SA ss.length sc] [] [] (fun v Ps' Os' => ∃ bL bS, v = .func (.func 66) #[] #[.pointer (some ⟨bS, 0, none⟩), .pointer (some ⟨bL, 0, none⟩)] ∧ Ps' = [cl bL 0 [.slice LA l.length lc], cl bS 0 [.slice SA ss.length sc]] ∧ Os' = []) := by
 refine zSp _ Tryz.func39 Tryz.ntmps39 (fun _ _ _ => ?_)
 refine zX 2 ?_
 intro bL
 refine zX 0 ?_
 intro bS
 refine go_freeze_pt (b := bL) zM ?_
 refine go_freeze_pt (b := bS) zM ?_
 refine zT 7 rfl ⟨bL, bS, rfl, rfl, rfl⟩
theorem levels1 (ly bL bS : Nat) (R St : List Lx → OA) (l : List Cl) (LA : Option Addr) (lc : Nat) (ss : List (List Nat)) (SA : Option Addr) (sc : Nat) (hY : YldS Tryz.prog ly encL (pxL (ss.map (clausesAt l))) R St) (hss : ∀ p ∈ ss, p.length ≤ 400 ∧ ∀ u ∈ p, u < l.length) (hsl : ss.length ≤ 4001) :
    Spec Tryz.prog 66 #[.func (.yield ly) #[] #[], .pointer (some ⟨bS, 0, none⟩), .pointer (some ⟨bL, 0, none⟩)] [cl bL 0 [.slice LA l.length lc], cl bS 0 [.slice SA ss.length sc], sl tCl LA lc l, sl (tSl (tInt .i64)) SA sc (ss.map cs)] [R []] (fun v Ps' Os' => Ps' = [] ∧ ((∃ xs : List Lx, xs.map (·.1) = (ss.map (clausesAt l)) ∧ Os' = [R xs]) ∨ (∃ xs : List Lx, True ∧ Os' = [St xs]))) := by
 refine zSp _ Tryz.func66 Tryz.ntmps66 (fun _ _ _ => ?_)
 refine zR 1 ?_
 refine go_len (xs := ss.map cs) zM (fun l0 m0 => ?_)
 rw [List.length_map] at l0
 refine go_len (xs := l) zM (fun l1 m1 => ?_)
 refine zL 1 ?_
 refine zR 4 ?_
 refine zO (X := Nat × List Lx) (fun x => [(11, .int .i64 (x.1 : Int))]) [0, 2, 9, 10] (fun x => [R x.2]) (fun x => x.1 ≤ ss.length ∧ x.2.map (·.1) = (ss.take x.1).map (clausesAt l)) (fun x => ss.length - x.1) (0, []) ⟨Nat.zero_le _, rfl⟩ ?_
 intro ⟨k, D⟩ ⟨hk, hD⟩
 simp only at hk hD ⊢
 have hDl : D.length = k := by have := congrArg List.length hD; rw [List.length_map, List.length_map, List.length_take] at this; omega
 refine zD' 5 ?_ ?_
 ·intro hq1
  refine zT 1 rfl ⟨rfl, .inl ⟨D, by rw [List.take_of_length_le (by omega)] at hD; exact hD, rfl⟩⟩
 intro hq1
 refine zR 4 ?_
 obtain ⟨p, hpk⟩ : ∃ p, ss[k]? = some p := ⟨_, List.getElem?_eq_getElem (by omega)⟩
 have hpk' : ss[k]'(by omega) = p := (List.getElem?_eq_some_iff.1 hpk).2
 have hpm := hss p (List.mem_of_getElem? hpk)
 have hcp := cs_len p
 refine go_elem_row (T := tInt .i64) (xss := ss.map cs) zM k (xs := cs p) (by rw [List.getElem?_map, hpk]; rfl) (fun b1 o1 A5 c5 hA1 => ?_); cases hA1
 refine go_len (xs := cs p) zM (fun lp mp => ?_)
 refine zI 1 ?_
 refine zL 0 ?_
 refine zR 8 ?_
 refine go_own_nil tCl 32 none ?_
 refine zR 6 ?_
 refine zO (X := Nat × Option Addr × Nat) (fun x => [(6, .slice x.2.1 (clausesAt l (p.take x.1)).length x.2.2), (17, .int .i64 (x.1 : Int))]) [0, 2, 9, 10, 11, 15, 16] (fun x => [ol tCl 32 x.2.1 x.2.2 (clausesAt l (p.take x.1))]) (fun x => x.1 ≤ p.length) (fun x => p.length - x.1) (0, none, 0) (Nat.zero_le _) ?_
 intro ⟨j, A3, c3⟩ hj
 simp only at hj ⊢
 have hcl := clausesAt_len (l := l) (is := p.take j) (fun u hu => hpm.2 u (List.mem_of_mem_take hu))
 rw [List.length_take] at hcl
 refine zD' 5 ?_ ?_
 ·intro hq2
  refine zR 2 ?_
  rw [List.take_of_length_le (show p.length ≤ j by omega)]
  refine go_freeze_ol (xs := clausesAt l p) zM ?_
  refine go_ent (PA.and ((ss.map (clausesAt l))[D.length]? = some (clausesAt l p)) (sl tCl A3 c3 (clausesAt l p))) (fun hh a => ⟨by rw [hDl, List.getElem?_map, hpk]; rfl, a _ zM⟩) ?_
  refine go_regionY [false, false, true] rfl ?_
  refine zR 2 ?_
  refine go_yield2 hY (D) ((clausesAt l p, A3, c3)) rfl rfl rfl rfl rfl zM zM ?_ ?_
  ·skip
   refine zDf 2 ?_
   refine zR 6 ?_
   refine go_i64n 11 (k + 1) rfl ?_
   refine go_back (k + 1, _) zA zM zM (⟨by show k + 1 ≤ _; omega, by show List.map _ (D ++ [_]) = _; rw [List.map_append, hD, List.take_succ_eq_append_getElem (show k < ss.length by omega), List.map_append, hpk']; rfl⟩) (by show _ - (k + 1) < _ - k; omega)
  ·skip
   refine zDt 2 ?_
   refine zT 0 rfl ⟨rfl, .inr ⟨_, trivial, rfl⟩⟩
 intro hq2
 refine zR 4 ?_
 obtain ⟨u, hpu⟩ : ∃ u, p[j]? = some u := ⟨_, List.getElem?_eq_getElem (by omega)⟩
 have hpu' : p[j]'(by omega) = u := (List.getElem?_eq_some_iff.1 hpu).2
 have hun := hpm.2 u (List.mem_of_getElem? hpu)
 have hnx : clausesAt l (p.take j) ++ [l[u]] = clausesAt l (p.take (j + 1)) := by rw [List.take_succ_eq_append_getElem (show j < p.length by omega), hpu', clausesAt_snoc hun]
 refine go_elem_int (xs := cs p) zM j (cs_get hpu) (fun b2 o2 hA2 => ?_); cases hA2
 refine zI 1 ?_
 refine zL 0 ?_
 refine zR 2 ?_
 refine go_elem_cl (xs := l) zM (u) (List.getElem?_eq_getElem (by omega)) (fun b3 o3 A6 c6 B6 d6 hA => ?_); cases hA
 refine zL 2 ?_
 refine zI 1 ?_
 refine zL 0 ?_
 refine zV 0 ?_
 intro b1
 refine go_append1 (T := tCl) (xs := clausesAt l (p.take j)) Tk (l[u]) rfl rfl rfl rfl rfl rfl rfl rfl rfl zM zM rfl (ent_cl zM zM) (by omega) zH ?_
 intro A4 c4
 refine zR 7 ?_
 refine go_i64n 17 (j + 1) rfl ?_
 rw [hnx]
 refine zz (j + 1, A4, c4) (by show j + 1 ≤ _; omega) (by show _ - (j + 1) < _ - j; omega)
def modO (b12 b9 b6 b7 : Nat) (st : List (List Cl)) (most : Int) (N : List Fa) (D : List Lx) : OA := OA.ex fun x : Option Addr × List Fa => OA.and (Upto st most N D.length x.2) (OA.all [pt b12 82 [.pointer x.1], relR x.1 (some x.2), pt b9 35 [.int .i64 0], pt b6 23 [.slice none 0 0], pt b7 35 [.int .i64 0]])
def modX (b6 b7 : Nat) (st : List (List Cl)) (most : Int) (N : List Fa) : OA := OA.ex fun e : Int => OA.and (∃ k A, ∃ hk : k < st.length, Upto st most N k A ∧ Stg st[k] A most none e) (OA.all [pt b6 23 [.slice none 0 0], pt b7 35 [.int .i64 e]])
theorem go_mod {C : Ctx} {k : List It} {E : Env} {Ps : List PA} {Os : List OA} {b12 b9 b6 b7 : Nat} {st : List (List Cl)} {most : Int} {N : List Fa} {D : List Lx} {rr : List OA} (h : Rem (modO b12 b9 b6 b7 st most N D) Os rr) (g : ∀ p M, Upto st most N D.length M → Go C k E Ps ([pt b12 82 [.pointer p], relR p (some M), pt b9 35 [.int .i64 0], pt b6 23 [.slice none 0 0], pt b7 35 [.int .i64 0]] ++ rr)) : Go C k E Ps Os :=
  go_oex h fun x => go_oand .here fun hm => go_oall .here (g x.1 x.2 hm)
theorem go_modX {C : Ctx} {k : List It} {E : Env} {Ps : List PA} {Os : List OA} {b6 b7 : Nat} {st : List (List Cl)} {most : Int} {N : List Fa} {rr : List OA} (h : Rem (modX b6 b7 st most N) Os rr) (g : ∀ e k' A, ∀ hk : k' < st.length, Upto st most N k' A → Stg st[k'] A most none e → Go C k E Ps ([pt b6 23 [.slice none 0 0], pt b7 35 [.int .i64 e]] ++ rr)) : Go C k E Ps Os :=
  go_oex h fun e => go_oand .here fun ⟨k', A, hk, h1, h2⟩ => go_oall .here (g e k' A hk h1 h2)
set_option maxHeartbeats 8000000 in
theorem modelOf (l : List Cl) (LA : Option Addr) (lc : Nat) (fs : List Fa) (FA : Option Addr) (fc : Nat) (most : Int) (hl : ∀ c ∈ l, c.ok) (hF : ∀ x ∈ fs, x.ok ∧ x.a.length ≤ 100000) (hfl : fs.length ≤ 100000) (hm : most ≤ 100000) (hbig : ∀ c ∈ l, ∀ (F R N : List Fa) (new : Bool), (F.length : Int) ≤ most → (goL c F R N c.b ch0 new).length ≤ 50000000) :
    Spec Tryz.prog 10 #[.slice LA l.length lc, .slice FA fs.length fc, .int .i64 most] [sl tCl LA lc l, sl tFa FA fc fs] [] (fun v Ps' Os' => ∃ A c r e, ModA l fs most r e ∧ v = .tuple #[.slice A (r.getD []).length c, .int .i64 e] ∧ Ps' = [sl tFa A c (r.getD [])] ∧ Os' = []) := by
 refine zSp _ Tryz.func10 Tryz.ntmps10 (fun _ _ _ => ?_)
 refine zX 2 ?_
 intro b5
 refine go_freeze_pt (b := b5) zM ?_
 refine zW 0 ?_
 intro b6
 refine zW 0 ?_
 intro b7
 refine zL 4 ?_
 refine zD 2 ?_ ?_
 ·intro g1
  refine go_sl_nil tFa ?_
  refine zS 2 ?_
  refine zS 0 ?_
  refine zR 1 ?_
  refine go_ret ⟨rfl, rfl⟩ _ _ (res2 (by rfl) (.cell rfl (rdv Tk rfl)) (.cell rfl (rdv Tk rfl))) ⟨none, 0, none, 1, .arg g1, rfl, rfl, rfl⟩ zM zM
 intro g1
 have g1' : 0 ≤ most := by omega
 refine zC 4 (stratStrata l LA lc) ?_
 rintro _ _ _ ⟨SA, sc, ss, e, hS, rfl, rfl, rfl⟩
 refine zW 3 ?_
 intro b9
 refine zS 1 ?_
 refine zL 4 ?_
 refine zN 2 ?_ ?_
 ·intro g2
  refine go_sl_nil tFa ?_
  refine zR 1 ?_
  refine go_draw ([]) ([pt b9 35 [.int .i64 e], pt b6 23 [.slice none 0 0], pt b7 35 [.int .i64 0]]) [0] (SL.pre [(2, 0), (0, 1), (0, 2)] .nil) mixed rfl (by kernel_rfl) ?_
  refine zK 0 ?_
  refine go_store Tk rfl rfl rfl rfl rfl rfl zM rfl rfl (by rfl) (fun _ => satA) ?_
  refine zS 0 ?_
  refine zE 1 [6, 7] ?_
  refine go_ret ⟨rfl, rfl⟩ _ _ (res2 (by rfl) (.cell rfl (rdv Tk rfl)) (.cell rfl (rdv Tk rfl))) ⟨none, 0, none, e, .strat g1' hS g2, rfl, rfl, rfl⟩ zM zM
 intro g2
 subst g2
 obtain ⟨hr, hsl, hss⟩ := hS.zero rfl
 refine zC 6 (safeArities l LA lc fs FA fc hr) ?_
 rintro _ _ _ ⟨i1, e1, rfl, hA, rfl, rfl⟩
 refine zE 6 [0, 1, 5, 6, 7, 8, 9, 11] ?_
 refine zN 5 ?_ ?_
 ·intro g3
  obtain ⟨rfl, hA'⟩ := hA.resolve_left (fun q => g3 q.1)
  refine go_sl_nil tFa ?_
  refine zS 3 ?_
  refine zS 0 ?_
  refine zR 1 ?_
  refine go_ret ⟨rfl, rfl⟩ _ _ (res2 (by rfl) (.cell rfl (rdv Tk rfl)) (.cell rfl (rdv Tk rfl))) ⟨none, 0, none, 9, .ari g1' hS hA', rfl, rfl, rfl⟩ zM zM
 intro g3
 have hA' := (hA.resolve_right (fun q => by have := q.1; omega)).2
 refine zC 4 (relOf FA fc fs (by omega) (fun x hx => (hF x hx).2)) ?_
 rintro _ _ _ ⟨ba, rfl, rfl, rfl⟩
 refine zW 0 ?_
 intro b12
 refine zS 0 ?_
 refine zR 3 ?_
 refine go_draw ([cl b5 0 [.int .i64 most]]) ([pt b12 82 [.pointer (some ⟨ba, 0, none⟩)], relO ba (fof fs)]) [0, 2] (SL.pre [(2, 0), (2, 2), (0, 1), (1, 3)] .nil) mixed rfl (by kernel_rfl) ?_
 refine zK 0 ?_
 refine zK 0 ?_
 refine go_call (relLen ba (fof fs)) rfl rfl (by rfl) rfl zM zM (fun _ v Ps' Os' hq => by obtain ⟨rfl, rfl, rfl⟩ := hq; exact satS zM zM) ?_
 rintro _ _ _ ⟨rfl, rfl, rfl⟩
 refine zD 2 ?_ ?_
 ·intro g4
  refine go_sl_nil tFa ?_
  refine zS 2 ?_
  refine zS 0 ?_
  refine zE 1 [6, 7] ?_
  refine go_ret ⟨rfl, rfl⟩ _ _ (res2 (by rfl) (.cell rfl (rdv Tk rfl)) (.cell rfl (rdv Tk rfl))) ⟨none, 0, none, 6, .run g1' hS hA' (.big (by omega)), rfl, rfl, rfl⟩ zM zM
 intro g4
 have hfN : ((fof fs).length : Int) ≤ most := by omega
 have hNf : ∀ x ∈ fof fs, x.ok ∧ x.a.length ≤ 100000 := fun x hx => hF x (mem_fof.1 hx)
 have hst : ∀ s ∈ (ss.map (clausesAt l)), ∀ c ∈ s, c.ok := fun s hs c hc => hl c (st_mem s hs c hc)
 refine zC 6 (modelLevels l LA lc ss SA sc) ?_
 rintro _ _ _ ⟨bL, bS, rfl, rfl, rfl⟩
 refine go_relR1 (b := ba) zM ?_
 refine go_fold [pt b12 82 [.pointer (some ⟨ba, 0, none⟩)], relR (some ⟨ba, 0, none⟩) (some (fof fs)), pt b9 35 [.int .i64 0], pt b6 23 [.slice none 0 0], pt b7 35 [.int .i64 0]] (modO b12 b9 b6 b7 (ss.map (clausesAt l)) most (fof fs) []) zM (fun _ _ q => ⟨(some ⟨ba, 0, none⟩, fof fs), .zero, q⟩) ?_
 refine zE 1 [5, 6, 7, 9, 12, 41] ?_
 refine zR 1 ?_
 refine go_rangeS (α := Lx) (enc := encL) (Px := (pxL (ss.map (clausesAt l)))) rfl rfl rfl (fun D => [modO b12 b9 b6 b7 (ss.map (clausesAt l)) most (fof fs) D]) (fun D => [modX b6 b7 (ss.map (clausesAt l)) most (fof fs)]) ([]) ([]) zM zM ([cl bL 0 [.slice LA l.length lc], cl bS 0 [.slice SA ss.length sc], sl tCl LA lc l, sl (tSl (tInt .i64)) SA sc (ss.map cs)]) zM (fun ys => ys.map (·.1) = (ss.map (clausesAt l))) (fun ys => True) (fun ly R St hY => (levels1 ly bL bS R St l LA lc ss SA sc hY hss hsl)) (X := Lx) (fun y => [(13, .slice y.2.1 y.1.length y.2.2)]) [(5, .pointer (some ⟨b5, 0, none⟩)), (6, .pointer (some ⟨b6, 0, none⟩)), (7, .pointer (some ⟨b7, 0, none⟩)), (9, .pointer (some ⟨b9, 0, none⟩)), (12, .pointer (some ⟨b12, 0, none⟩))] (fun pre x y => [modO b12 b9 b6 b7 (ss.map (clausesAt l)) most (fof fs) pre]) (fun _ x y => y = x) (fun ly pre x w0' hp0' hf0' => ?_) (fun ly pre x y hyx w0' hp0' hf0' => ?_) (fun D ys hdj1 hys => ?_) (fun D ys hdj1 hys => ?_)
 ·skip
  refine zR 3 ?_
  refine zz x rfl (by decide)
 ·skip
  subst hyx
  refine go_pand (fun hxa => ?_)
  obtain ⟨hk, hst1⟩ := List.getElem?_eq_some_iff.1 hxa
  have hxm : y.1 ∈ (ss.map (clausesAt l)) := List.mem_of_getElem? hxa
  refine go_mod zM (fun p M hU => ?_)
  refine go_relRs zM (fun bq hA => ?_); subst hA
  refine go_freeze_rel (b := bq) zM ?_
  refine go_ent (relN (some ⟨bq, 0, none⟩) (M)) (fun hh hps => relN_some (hps (relP bq (M)) zM)) ?_
  have hMl := hU.len hfN
  refine zL 4 ?_
  refine zL 0 ?_
  refine zC 0 (fixLeast y.1 y.2.1 y.2.2 (some ⟨bq, 0, none⟩) M most (fun c hc => hst _ hxm c hc) (hU.fine hst hNf) (hU.rises (rises_fof _)) hm (fun c hc F R new h => hbig c (st_mem _ hxm c hc) F R M new h) (by omega)) ?_
  rintro _ _ _ ⟨r2, n2, e2, p2, hL2, rfl, rfl, rfl⟩
  refine zS 4 ?_
  refine zS 0 ?_
  refine zL 3 ?_
  refine zE 2 [6, 7, 9, 52] ?_
  refine zN' 0 ?_ ?_
  ·intro g5
   obtain ⟨B, rfl⟩ := hL2.good g5
   subst g5
   have hS2 := stg_least hL2
   refine zR 2 ?_
   refine go_fold [pt b12 82 [.pointer p2], relR p2 (some B), pt b9 35 [.int .i64 0], pt b6 23 [.slice none 0 0], pt b7 35 [.int .i64 0]] (modO b12 b9 b6 b7 (ss.map (clausesAt l)) most (fof fs) (pre ++ [y])) zM (fun _ _ q => ⟨(p2, B), by show Upto _ _ _ (pre ++ [y]).length B; rw [List.length_append]; exact .succ hU hk (hst1 ▸ hS2), q⟩) ?_
   refine go_back () trivial zM zM trivial (by decide)
  intro g5
  obtain rfl := hL2.bad g5
  have hS2 := stg_least hL2
  refine zR 1 ?_
  refine go_draw ([]) ([pt b9 35 [.int .i64 e2], pt b6 23 [.slice none 0 0], pt b7 35 [.int .i64 0]]) [0] (SL.pre [(2, 0), (0, 1), (0, 2)] .nil) mixed rfl (by kernel_rfl) ?_
  refine zK 0 ?_
  refine go_store Tk rfl rfl rfl rfl rfl rfl zM rfl rfl (by rfl) (fun _ => satA) ?_
  refine zS 0 ?_
  refine zR 1 ?_
  refine go_fold [pt b6 23 [.slice none 0 0], pt b7 35 [.int .i64 e2]] (modX b6 b7 (ss.map (clausesAt l)) most (fof fs)) zM (fun _ _ q => ⟨e2, ⟨pre.length, M, hk, hU, hst1 ▸ hS2⟩, q⟩) ?_
  refine go_stop zM
 ·skip
  refine go_mod zM (fun p M hU => ?_)
  have hyl : ys.length = (ss.map (clausesAt l)).length := by rw [← hys, List.length_map]
  rw [hyl] at hU
  have hMl := hU.len hfN
  refine go_relRs zM (fun bq hA => ?_); subst hA
  refine go_freeze_rel (b := bq) zM ?_
  refine go_ent (relN (some ⟨bq, 0, none⟩) (M)) (fun hh hps => relN_some (hps (relP bq (M)) zM)) ?_
  refine zL 3 ?_
  refine zC 0 (relListN (some ⟨bq, 0, none⟩) M (by omega) (fun x hx => (hU.fine hst hNf x hx).2)) ?_
  rintro _ _ _ ⟨A9, k9, rfl, rfl, rfl⟩
  refine go_freeze_dl (T := tFa) (A := A9) zM ?_
  refine zS 0 ?_
  refine zS 0 ?_
  refine zR 1 ?_
  refine go_retN (.mark .base hdj1) ⟨rfl, rfl⟩ _ _ (res2 (by rfl) (.cell rfl (rdv Tk rfl)) (.cell rfl (rdv Tk rfl))) ⟨A9, k9, some M, 0, .run g1' hS hA' (.ok hfN hU), rfl, rfl, rfl⟩ zM zM
 ·skip
  refine go_modX zM (fun e2 k2 A2 hk2 hU2 hS2 => ?_)
  refine go_sl_nil tFa ?_
  refine go_retN (.mark .base hdj1) ⟨rfl, rfl⟩ _ _ (res2 (by rfl) (.cell rfl (rdv Tk rfl)) (.cell rfl (rdv Tk rfl))) ⟨none, 0, none, e2, .run g1' hS hA' (.bad hfN hU2 hk2 hS2), rfl, rfl, rfl⟩ zM zM
end Go.Proofs.YtdconhalfanclaaGreat.SL
namespace Go.Proofs.YtdconhalfanclaaGreat.SL
open Go
abbrev few14P (l : List Cl) (a : List Fa) : Prop := l.length ≤ 20 ∧ a.length ≤ 30 ∧ few11 l a = true ∧ ∀ c ∈ l, smallC c 60 = true
def few14 (l : List Cl) (a : List Fa) : Bool := decide (few14P l a)
theorem few14_no {l : List Cl} {a : List Fa} (h : ¬ few14P l a) : few14 l a = false := decide_eq_false h
theorem few14_yes {l : List Cl} {a : List Fa} (h : few14P l a) : few14 l a = true := decide_eq_true h
theorem few14_of {l : List Cl} {a : List Fa} (h : few14 l a = true) : few14P l a := of_decide_eq_true h
theorem small60 {c : Cl} (h : smallC c 60 = true) {F R N : List Fa} {new : Bool} {n : Nat} (hF : F.length ≤ n) (hn : 1 ≤ n) : (goL c F R N c.b ch0 new).length ≤ n ^ 3 := by
  refine Nat.le_trans (goL_len _ _ _ _ _ _ _) ?_
  unfold smallC at h
  rw [decide_eq_true_eq] at h
  have hp : pos c.b ≤ 3 := by omega
  show F.length ^ pos c.b ≤ _
  exact Nat.le_trans (Nat.pow_le_pow_left hF _) (Nat.pow_le_pow_right hn hp)
theorem big14 {l : List Cl} {a : List Fa} (h : few14P l a) {most : Int} (hm : most ≤ 80) (N : List Fa) : ∀ c ∈ l, ∀ (F R : List Fa) (new : Bool), (F.length : Int) ≤ most → (goL c F R N c.b ch0 new).length ≤ 50000000 := fun c hc F R new hF =>
  Nat.le_trans (small60 (h.2.2.2 c hc) (n := 80) (by omega) (by omega)) (by decide)
theorem law14Few (l : List Cl) (LA : Option Addr) (lc : Nat) (a : List Fa) (A : Option Addr) (k : Nat) :
    Spec Tryz.prog 8 #[.slice LA l.length lc, .slice A a.length k] [sl tCl LA lc l, sl tFa A k a] [] (fun v Ps' Os' => v = .bool (few14 l a) ∧ Ps' = [] ∧ Os' = []) := by
 refine zSp _ Tryz.func8 Tryz.ntmps8 (fun _ _ _ => ?_)
 refine zR 6 ?_
 refine go_len (xs := l) zM (fun l0 m0 => ?_)
 refine go_len (xs := a) zM (fun l1 m1 => ?_)
 refine zG 5 9 ?_ ?_
 ·intro g1
  (try simp only [dcs, ne_eq] at g1)
  refine zE 11 [0, 19] ?_
  refine zDt 0 ?_
  refine zT 4 rfl ⟨by first | rw [few14_no (l := l) (a := a) (fun h => by have h1 := h.1; have h2 := h.2.1; have h3 := h.2.2.1; first | omega | exact absurd (g3.symm.trans h3) (by decide) | exact absurd (g4.symm.trans (h.2.2.2 l[j] (List.getElem_mem _))) (by decide))] | rw [few14_yes (l := l) (a := a) ⟨by omega, by omega, g3, by rw [List.take_of_length_le (by omega)] at hz; exact hz⟩], rfl, rfl⟩
 intro g1
 (try simp only [dcs, ne_eq] at g1)
 refine zG 5 14 ?_ ?_
 ·intro g2
  (try simp only [dcs, ne_eq] at g2)
  refine zE 6 [0, 19] ?_
  refine zDt 0 ?_
  refine zT 4 rfl ⟨by first | rw [few14_no (l := l) (a := a) (fun h => by have h1 := h.1; have h2 := h.2.1; have h3 := h.2.2.1; first | omega | exact absurd (g3.symm.trans h3) (by decide) | exact absurd (g4.symm.trans (h.2.2.2 l[j] (List.getElem_mem _))) (by decide))] | rw [few14_yes (l := l) (a := a) ⟨by omega, by omega, g3, by rw [List.take_of_length_le (by omega)] at hz; exact hz⟩], rfl, rfl⟩
 intro g2
 (try simp only [dcs, ne_eq] at g2)
 refine zC3 2 (law11Few LA lc l A k a) ?_
 refine zE 3 [0, 19] ?_
 refine zB 0 ?_ ?_
 ·intro g3
  (try simp only [dcs, ne_eq] at g3)
  refine zT 4 rfl ⟨by first | rw [few14_no (l := l) (a := a) (fun h => by have h1 := h.1; have h2 := h.2.1; have h3 := h.2.2.1; first | omega | exact absurd (g3.symm.trans h3) (by decide) | exact absurd (g4.symm.trans (h.2.2.2 l[j] (List.getElem_mem _))) (by decide))] | rw [few14_yes (l := l) (a := a) ⟨by omega, by omega, g3, by rw [List.take_of_length_le (by omega)] at hz; exact hz⟩], rfl, rfl⟩
 intro g3
 (try simp only [dcs, ne_eq] at g3)
 refine zR 7 ?_
 refine zO (X := Nat) (fun j => [(5, .int .i64 (j : Int))]) [0] (fun _ => []) (fun j => j ≤ l.length ∧ ∀ c ∈ l.take j, smallC c 60 = true) (fun j => l.length - j) 0 ⟨by omega, by simp⟩ ?_
 intro j ⟨hj, hz⟩
 refine zD' 8 ?_ ?_
 ·intro hq1
  refine zT 5 rfl ⟨by first | rw [few14_no (l := l) (a := a) (fun h => by have h1 := h.1; have h2 := h.2.1; have h3 := h.2.2.1; first | omega | exact absurd (g3.symm.trans h3) (by decide) | exact absurd (g4.symm.trans (h.2.2.2 l[j] (List.getElem_mem _))) (by decide))] | rw [few14_yes (l := l) (a := a) ⟨by omega, by omega, g3, by rw [List.take_of_length_le (by omega)] at hz; exact hz⟩], rfl, rfl⟩
 intro hq1
 refine zR 4 ?_
 refine go_elem_cl (xs := l) zM (j) (List.getElem?_eq_getElem (by omega)) (fun b1 o1 A1 c1 B1 d1 hA => ?_); cases hA
 refine zI 3 ?_
 refine zL 0 ?_
 refine zC3 0 (law13Small l[j] A1 c1 B1 d1 60) ?_
 refine zB' 2 ?_ ?_
 ·intro g4
  (try simp only [dcs, ne_eq] at g4)
  refine zR 7 ?_
  refine zi 5 ?_
  refine zz (j + 1) (⟨by omega, mem_take_next (by omega) hz g4⟩) (by omega)
 intro g4
 (try simp only [dcs, ne_eq] at g4)
 refine zE 4 [4] ?_
 refine zT 0 rfl ⟨by first | rw [few14_no (l := l) (a := a) (fun h => by have h1 := h.1; have h2 := h.2.1; have h3 := h.2.2.1; first | omega | exact absurd (g3.symm.trans h3) (by decide) | exact absurd (g4.symm.trans (h.2.2.2 l[j] (List.getElem_mem _))) (by decide))] | rw [few14_yes (l := l) (a := a) ⟨by omega, by omega, g3, by rw [List.take_of_length_le (by omega)] at hz; exact hz⟩], rfl, rfl⟩
end Go.Proofs.YtdconhalfanclaaGreat.SL
namespace Go.Proofs.YtdconhalfanclaaGreat.SL
open Go Md
end Go.Proofs.YtdconhalfanclaaGreat.SL
namespace Go.Proofs.YtdconhalfanclaaGreat.SL
open Md
def RP (l : List Cl) (fs : List Fa) : Prop := (rightC l).2 = 0 ∧ (∃ lv, Levels l lv) ∧ ArOK (atomsL l) fs
theorem filterMap_len {α β : Type} (f : α → Option β) (l : List α) : (l.filterMap f).length ≤ l.length := List.length_filterMap_le ..
theorem run_perfect {l : List Cl} {fs : List Fa} {most : Int} {ss : List (List Nat)} {r : Option (List Fa)} {e : Int} (ho : ∀ c ∈ l, c.ok) (hs : StrR l ss 0) (h0 : 0 ≤ most) (h : ModelR (ss.map (clausesAt l)) most (fof fs) r e) : (∃ lv, Levels l lv) ∧ Perfect l (· ∈ fof fs) most r e := by
  generalize he : (0 : Int) = z at hs
  cases hs with
  | bad e h1 h2 => exact absurd he.symm h1
  | ok lv h1 h2 h3 h4 =>
    refine ⟨⟨lv, h2⟩, ModelR.perfect ho h2 (strata_split l lv) (strata_all l lv) (fun k hk => level_fix h1 h2 (k := k) (fun c => strata_split l lv k hk c) ?_) h0 (rises_fof _) h⟩
    have hk' : k < (strata (l.map fun c => lv c.h.p)).length := by simpa using hk
    rw [List.getElem_map]
    refine Nat.le_trans (filterMap_len _ _) ?_
    have : (strata (l.map fun c => lv c.h.p))[k] = strI (l.map fun c => lv c.h.p) k := by simp [strata]
    rw [this]
    refine Nat.le_trans (strI_len _ _) ?_
    rw [List.length_map]; exact (rightC_iff.1 h1).1
theorem StrR.right {l : List Cl} {ss : List (List Nat)} (h : StrR l ss 0) : (rightC l).2 = 0 ∧ ∃ lv, Levels l lv := by
  generalize he : (0 : Int) = z at h
  cases h with
  | bad e h1 h2 => exact absurd he.symm h1
  | ok lv h1 h2 h3 h4 => exact ⟨h1, lv, h2⟩
theorem StrR.wrong {l : List Cl} {ss : List (List Nat)} {e : Int} (h : StrR l ss e) (he : e ≠ 0) : ¬ ((rightC l).2 = 0 ∧ ∃ lv, Levels l lv) := by
  cases h with
  | bad e h1 h2 =>
    rintro ⟨q1, lv, q2⟩
    rcases h2 with ⟨a, _⟩ | ⟨_, _, b⟩
    · exact a q1
    · exact b lv q2
  | ok lv h1 h2 h3 h4 => exact absurd rfl he
theorem ModA.one {l : List Cl} {fs : List Fa} {most : Int} {r r' : Option (List Fa)} {e e' : Int} (ho : ∀ c ∈ l, c.ok) (h : ModA l fs most r e) (h' : ModA l fs most r' e') : r = r' ∧ e = e' := by
  cases h with
  | arg a =>
    cases h' with
    | arg a' => exact ⟨rfl, rfl⟩
    | strat a' s' n' => omega
    | ari a' s' n' => omega
    | run a' s' o' m' => omega
  | strat a s n =>
    cases h' with
    | arg a' => omega
    | strat a' s' n' => exact ⟨rfl, (s.one s').2⟩
    | ari a' s' n' => exact absurd (s.one s').2 n
    | run a' s' o' m' => exact absurd (s.one s').2 n
  | ari a s n =>
    cases h' with
    | arg a' => omega
    | strat a' s' n' => exact absurd (s'.one s).2 n'
    | ari a' s' n' => exact ⟨rfl, rfl⟩
    | run a' s' o' m' => exact absurd o' n
  | run a s o m =>
    cases h' with
    | arg a' => omega
    | strat a' s' n' => exact absurd (s'.one s).2 n'
    | ari a' s' n' => exact absurd o n'
    | run a' s' o' m' =>
      obtain ⟨⟨lv, hl⟩, p⟩ := run_perfect ho s a m
      exact p.same (run_perfect ho s' a' m').2 hl fun _ => Iff.rfl
theorem ModA.of_right {l : List Cl} {fs : List Fa} {most : Int} {r : Option (List Fa)} {e : Int} (ho : ∀ c ∈ l, c.ok) (h : ModA l fs most r e) (hr : RP l fs) (h0 : 0 ≤ most) : Perfect l (· ∈ fof fs) most r e := by
  cases h with
  | arg a => omega
  | strat a s n => exact absurd ⟨hr.1, hr.2.1⟩ (s.wrong n)
  | ari a s n => exact absurd hr.2.2 n
  | run a s o m => exact (run_perfect ho s a m).2
theorem ModA.ok {l : List Cl} {fs : List Fa} {most : Int} {r : Option (List Fa)} {e : Int} (ho : ∀ c ∈ l, c.ok) (h : ModA l fs most r e) (he : e = 0) : RP l fs ∧ 0 ≤ most ∧ ∃ M, r = some M ∧ rises M ∧ (M.length : Int) ≤ most ∧ Stable l (· ∈ fof fs) (· ∈ M) := by
  cases h with
  | arg a => cases he
  | strat a s n => exact absurd he n
  | ari a s n => cases he
  | run a s o m =>
    have hp := (run_perfect ho s a m).2
    refine ⟨⟨s.right.1, s.right.2, o⟩, a, ?_⟩
    rcases hp with ⟨_, M, h2, h3, h4, h5⟩ | ⟨h1, _, _⟩
    · exact ⟨M, h2, h3, h4, h5⟩
    · omega
theorem Md.Perfect.of_stable {l : List Cl} {B : Fa → Prop} {most : Int} {M : List Fa} {r : Option (List Fa)} {e : Int} (h : Perfect l B most r e) {lv : Int → Nat} (hl : Levels l lv) (hM : rises M) (hS : Stable l B (· ∈ M)) :
    ((M.length : Int) ≤ most → r = some M ∧ e = 0) ∧ (most < (M.length : Int) → r = none ∧ e = 6) := by
  rcases h with ⟨g1, M', g2, g3, g4, g5⟩ | ⟨g1, g2, g3⟩
  · have : M = M' := rises_ext hM g3 fun x => hS.same hl g5 x
    subst this
    exact ⟨fun _ => ⟨g2, g1⟩, fun q => by omega⟩
  · have := g3 M hM hS
    exact ⟨fun q => by omega, fun _ => ⟨g2, g1⟩⟩
theorem ArOK.mono {X Y : List Am} {fs gs : List Fa} (h : ArOK X fs) (hX : ∀ a ∈ Y, a ∈ X) (hf : ∀ f ∈ gs, f ∈ fs) : ArOK Y gs := ⟨fun f q => h.1 f (hf f q), sameLen_sub h.2 fun a ha => by
  rcases List.mem_append.1 ha with h | h
  · exact List.mem_append_left _ (hX a h)
  · obtain ⟨g, hg, rfl⟩ := List.mem_map.1 h
    exact List.mem_append_right _ (List.mem_map.2 ⟨g, hf g hg, rfl⟩)⟩
theorem atomsL_mono {l l' : List Cl} (h : ∀ c ∈ l', c ∈ l) : ∀ a ∈ atomsL l', a ∈ atomsL l := fun a ha => by
  obtain ⟨c, hc, q⟩ := mem_atomsL.1 ha
  exact mem_atomsL.2 ⟨c, h c hc, q⟩
theorem RP.sub {l l' : List Cl} {fs gs : List Fa} (h : RP l fs) (hl : ∀ c ∈ l', c ∈ l) (hf : ∀ f ∈ gs, f ∈ fs) (hn : l'.length ≤ 400) : RP l' gs :=
  ⟨right_sub h.1 hl hn, h.2.1.imp fun lv q => levels_sub q fun c hc => .inl (hl c hc), h.2.2.mono (atomsL_mono hl) hf⟩
theorem turned_same {l l' : List Cl} {fs gs : List Fa} {most : Int} {M : List Fa} {r : Option (List Fa)} {e : Int} (ho : ∀ c ∈ l, c.ok) (h : ModA l fs most (some M) 0) (hl : ∀ c, c ∈ l' ↔ c ∈ l) (hf : ∀ f, f ∈ gs ↔ f ∈ fs) (hn : l'.length ≤ 400) (h' : ModA l' gs most r e) : r = some M ∧ e = 0 := by
  obtain ⟨hr, h0, M', q, h3, h4, h5⟩ := h.ok ho rfl
  cases q
  have hr' := hr.sub (fun c hc => (hl c).1 hc) (fun f q => (hf f).1 q) hn
  obtain ⟨lv, hlv⟩ := hr'.2.1
  exact ((h'.of_right (fun c hc => ho c ((hl c).1 hc)) hr' h0).of_stable hlv h3 (h5.perm hl (fun x => by rw [mem_fof, mem_fof, hf]))).1 h4
theorem ModA.fine {l : List Cl} {fs : List Fa} {most : Int} {M : List Fa} (ho : ∀ c ∈ l, c.ok) (hf : ∀ x ∈ fs, x.ok ∧ x.a.length ≤ 100000) (h : ModA l fs most (some M) 0) : ∀ x ∈ M, x.ok ∧ x.a.length ≤ 100000 := by
  generalize hr : some M = r at h
  generalize he : (0 : Int) = e at h
  cases h with
  | arg a => cases hr
  | strat a s n => cases hr
  | ari a s n => cases hr
  | run a s o m =>
    cases m with
    | big g => cases hr
    | bad h0 h1 hk hL => cases hr
    | ok g u => cases hr; exact u.fine (fun s hs c hc => ho c (st_mem s hs c hc)) (fun x hx => hf x (mem_fof.1 hx))
def kq (g : Nat → Bool) (fs : List Fa) (n : Nat) : List Fa := (List.range n).filterMap fun i => if g i then none else fs[i]?
theorem kq_succ {g : Nat → Bool} {fs : List Fa} {n : Nat} (h : n < fs.length) : kq g fs (n + 1) = if g n then kq g fs n else kq g fs n ++ [fs[n]] := by
  unfold kq
  rw [List.range_succ, List.filterMap_append]
  cases e : g n <;> simp [e, h]
theorem kq_yes {g : Nat → Bool} {fs : List Fa} {n : Nat} (h : n < fs.length) (e : g n = true) : kq g fs n = kq g fs (n + 1) := by rw [kq_succ h, e]; rfl
theorem kq_no {g : Nat → Bool} {fs : List Fa} {n : Nat} (h : n < fs.length) (e : g n = false) : kq g fs n ++ [fs[n]] = kq g fs (n + 1) := by rw [kq_succ h, e]; rfl
theorem kq_len (g : Nat → Bool) (fs : List Fa) (n : Nat) : (kq g fs n).length ≤ n := Nat.le_trans (filterMap_len' _ _) (by rw [List.length_range]; exact Nat.le_refl _)
where filterMap_len' {α β : Type} (f : α → Option β) (l : List α) : (l.filterMap f).length ≤ l.length := List.length_filterMap_le ..
theorem mem_kq {g : Nat → Bool} {fs : List Fa} {n : Nat} {x : Fa} : x ∈ kq g fs n ↔ ∃ i, i < n ∧ g i = false ∧ fs[i]? = some x := by
  unfold kq
  rw [List.mem_filterMap]
  constructor
  · rintro ⟨i, hi, h⟩
    refine ⟨i, List.mem_range.1 hi, ?_⟩
    cases e : g i with
    | true => rw [e] at h; cases h
    | false => rw [e] at h; exact ⟨rfl, h⟩
  · rintro ⟨i, hi, e, h⟩
    exact ⟨i, List.mem_range.2 hi, by rw [e]; exact h⟩
theorem kq_sub {g : Nat → Bool} {fs : List Fa} {n : Nat} : ∀ x ∈ kq g fs n, x ∈ fs := fun x hx => by
  obtain ⟨i, _, _, h⟩ := mem_kq.1 hx
  exact List.mem_of_getElem? h
theorem kq_none {fs : List Fa} : kq (fun _ => false) fs fs.length = fs := by
  have key : ∀ n, n ≤ fs.length → kq (fun _ => false) fs n = fs.take n := fun n => by
    induction n with
    | zero => intro _; rfl
    | succ n ih =>
      intro h
      rw [kq_succ (by omega), ih (by omega), List.take_succ_eq_append_getElem (by omega)]; rfl
  rw [key _ (Nat.le_refl _), List.take_length]
def InM (l : List Cl) (fs : List Fa) (f : Fa) (most : Int) : Prop := RP l fs ∧ 0 ≤ most ∧ ∃ M : List Fa, rises M ∧ (M.length : Int) ≤ most ∧ Stable l (· ∈ fof fs) (· ∈ M) ∧ f ∈ M
noncomputable def isW (l : List Cl) (fs : List Fa) (f : Fa) (most : Int) : Bool := @decide (InM l fs f most) (Classical.propDecidable _)
theorem isW_iff {l : List Cl} {fs : List Fa} {f : Fa} {most : Int} : isW l fs f most = true ↔ InM l fs f most := by
  unfold isW; exact @decide_eq_true_iff _ (Classical.propDecidable _)
theorem isW_of {l : List Cl} {fs : List Fa} {f : Fa} {most : Int} {r : Option (List Fa)} {e : Int} (ho : ∀ c ∈ l, c.ok) (h : ModA l fs most r e) : isW l fs f most = true ↔ e = 0 ∧ f ∈ r.getD [] := by
  rw [isW_iff]
  constructor
  · rintro ⟨h1, h2, M, h3, h4, h5, h6⟩
    obtain ⟨lv, hlv⟩ := h1.2.1
    obtain ⟨rfl, rfl⟩ := ((h.of_right ho h1 h2).of_stable hlv h3 h5).1 h4
    exact ⟨rfl, h6⟩
  · rintro ⟨rfl, h2⟩
    obtain ⟨h1, h0, M, rfl, h3, h4, h5⟩ := h.ok ho rfl
    exact ⟨h1, h0, M, h3, h4, h5, h2⟩
def upd1 (g : Nat → Bool) (i : Nat) : Nat → Bool := fun j => if j = i then true else g j
noncomputable def restL (W : (Nat → Bool) → Bool) (n : Nat) : List Nat := (List.range n).filter fun i => !W (upd1 (fun _ => false) i)
noncomputable def gone (W : (Nat → Bool) → Bool) (n : Nat) : Nat → Nat → Bool
  | 0 => fun _ => false
  | k + 1 => if W (upd1 (gone W n k) (n - 1 - k)) = true then upd1 (gone W n k) (n - 1 - k) else gone W n k
theorem gone_succ {W : (Nat → Bool) → Bool} {n k : Nat} : gone W n (k + 1) = if W (upd1 (gone W n k) (n - 1 - k)) = true then upd1 (gone W n k) (n - 1 - k) else gone W n k := rfl
theorem gone_low {W : (Nat → Bool) → Bool} {n : Nat} : ∀ {k : Nat}, k ≤ n → ∀ i, i < n - k → gone W n k i = false
  | 0, _, _, _ => rfl
  | k + 1, hk, i, hi => by
    rw [gone_succ]
    have h1 := gone_low (W := W) (n := n) (k := k) (by omega) i (by omega)
    split
    · show (if i = n - 1 - k then true else gone W n k i) = false; rw [if_neg (by omega)]; exact h1
    · exact h1
theorem gone_at {W : (Nat → Bool) → Bool} {n k : Nat} (hk : k < n) : gone W n (k + 1) (n - 1 - k) = W (upd1 (gone W n k) (n - 1 - k)) := by
  rw [gone_succ]
  split
  · rename_i h; rw [h]; unfold upd1; simp
  · rename_i h
    rw [Bool.not_eq_true] at h
    rw [h]; exact gone_low (by omega) _ (by omega)
theorem gone_high {W : (Nat → Bool) → Bool} {n k i : Nat} (h : i ≠ n - 1 - k) : gone W n (k + 1) i = gone W n k i := by
  rw [gone_succ]
  split
  · show (if i = n - 1 - k then true else gone W n k i) = _; rw [if_neg h]
  · rfl
noncomputable def keysL (W : (Nat → Bool) → Bool) (n : Nat) : List Nat := (List.range n).filter fun i => !gone W n n i
theorem isW_and {l : List Cl} {fs : List Fa} {f : Fa} {most : Int} {r : Option (List Fa)} {e : Int} (ho : ∀ c ∈ l, c.ok) (h : ModA l fs most r e) : isW l fs f most = (decide (e = 0) && decide (f ∈ r.getD [])) := by
  rw [Bool.eq_iff_iff, isW_of ho h, Bool.and_eq_true, decide_eq_true_iff, decide_eq_true_iff]
theorem less_yes {a b : List Fa} {i : Nat} (h : i < a.length) (q : ¬ a[i] ∈ b) : less (a.take i) b ++ [a[i]] = less (a.take (i + 1)) b := by
  rw [List.take_succ_eq_append_getElem h]; unfold less; rw [List.filter_append]; simp [q]
theorem less_no {a b : List Fa} {i : Nat} (h : i < a.length) (q : a[i] ∈ b) : less (a.take i) b = less (a.take (i + 1)) b := by
  rw [List.take_succ_eq_append_getElem h]; unfold less; rw [List.filter_append]; simp [q]
theorem less_take (a b : List Fa) (i : Nat) : (less (a.take i) b).length ≤ i := Nat.le_trans (less_len _ _) (by rw [List.length_take]; omega)
def AskR (l : List Cl) (fs : List Fa) (f : Fa) (most e : Int) : Prop := ∃ r e0, ModA l fs most r e0 ∧ e = if e0 = 0 then (if f ∈ r.getD [] then 0 else 4) else e0
def DiffA (l k : List Cl) (fs : List Fa) (most : Int) (g s : List Fa) (e : Int) : Prop :=
  ∃ r1 e1, ModA l fs most r1 e1 ∧ ((e1 ≠ 0 ∧ g = [] ∧ s = [] ∧ e = e1) ∨ (e1 = 0 ∧ ∃ r2 e2, ModA k fs most r2 e2 ∧ ((e2 ≠ 0 ∧ g = [] ∧ s = [] ∧ e = e2) ∨ (e2 = 0 ∧ g = less (r2.getD []) (r1.getD []) ∧ s = less (r1.getD []) (r2.getD []) ∧ e = 0))))
theorem cs_snoc (l : List Nat) (i : Nat) : cs (l ++ [i]) = cs l ++ [(i : Int)] := by unfold cs; simp
theorem restL_in {W : (Nat → Bool) → Bool} {i : Nat} (h : W (upd1 (fun _ => false) i) = false) : cs (restL W i) ++ [(i : Int)] = cs (restL W (i + 1)) := by
  rw [← cs_snoc]; unfold restL; rw [List.range_succ, List.filter_append]; simp [h]
theorem restL_out {W : (Nat → Bool) → Bool} {i : Nat} (h : W (upd1 (fun _ => false) i) = true) : cs (restL W i) = cs (restL W (i + 1)) := by
  unfold restL; rw [List.range_succ, List.filter_append]; simp [h]
theorem restL_len (W : (Nat → Bool) → Bool) (i : Nat) : (cs (restL W i)).length ≤ i := by
  unfold cs restL; rw [List.length_map]; exact Nat.le_trans (List.length_filter_le ..) (by rw [List.length_range]; exact Nat.le_refl _)
noncomputable def keysP (W : (Nat → Bool) → Bool) (n i : Nat) : List Nat := (List.range i).filter fun j => !gone W n n j
theorem keysP_len (W : (Nat → Bool) → Bool) (n i : Nat) : (cs (keysP W n i)).length ≤ i := by
  unfold cs keysP; rw [List.length_map]; exact Nat.le_trans (List.length_filter_le ..) (by rw [List.length_range]; exact Nat.le_refl _)
def revP (l : List Int) (i : Nat) : List Int := (List.range l.length).map fun j => if j < i ∨ l.length - 1 - j < i then gt0 l (l.length - 1 - j) else gt0 l j
theorem revP_len (l : List Int) (i : Nat) : (revP l i).length = l.length := by unfold revP; simp
theorem revP_at {l : List Int} {i j : Nat} (h : j < l.length) : (revP l i)[j]? = some (if j < i ∨ l.length - 1 - j < i then gt0 l (l.length - 1 - j) else gt0 l j) := by unfold revP; simp [h]
theorem revP_zero (l : List Int) : l = revP l 0 := by
  apply List.ext_getElem?
  intro j
  by_cases h : j < l.length
  · rw [revP_at h, if_neg (by omega), gt0_get h]
  · rw [List.getElem?_eq_none (by omega), List.getElem?_eq_none (by rw [revP_len]; omega)]
theorem revP_next {l : List Int} {i : Nat} (h : i < l.length - 1 - i) : ((revP l i).set i (gt0 (revP l i) (l.length - 1 - i))).set (l.length - 1 - i) (gt0 (revP l i) i) = revP l (i + 1) := by
  have e1 : gt0 (revP l i) (l.length - 1 - i) = gt0 l (l.length - 1 - i) := by rw [gt0, revP_at (by omega), if_neg (by omega)]; rfl
  have e2 : gt0 (revP l i) i = gt0 l i := by rw [gt0, revP_at (by omega), if_neg (by omega)]; rfl
  apply List.ext_getElem?
  intro j
  by_cases hj : j < l.length
  · rw [revP_at hj, List.getElem?_set, List.getElem?_set, List.length_set, revP_len, e1, e2]
    by_cases a : l.length - 1 - i = j
    · rw [if_pos a, if_pos (by omega), if_pos (by omega), show l.length - 1 - j = i by omega]
    · rw [if_neg a]
      by_cases b : i = j
      · subst b; rw [if_pos rfl, if_pos hj, if_pos (by omega)]
      · rw [if_neg b, revP_at hj]
        by_cases c : j < i ∨ l.length - 1 - j < i
        · rw [if_pos c, if_pos (by omega)]
        · rw [if_neg c, if_neg (by omega)]
  · rw [List.getElem?_eq_none (by rw [List.length_set, List.length_set, revP_len]; omega), List.getElem?_eq_none (by rw [revP_len]; omega)]
theorem revP_end {l : List Int} {i : Nat} (h : ¬ i < l.length - 1 - i) : revP l i = l.reverse := by
  apply List.ext_getElem?
  intro j
  by_cases hj : j < l.length
  · rw [revP_at hj, List.getElem?_reverse hj]
    split
    · rw [gt0_get (by omega)]
    · rw [gt0_get (by omega), show l.length - 1 - j = j by omega]
  · rw [List.getElem?_eq_none (by rw [revP_len]; omega), List.getElem?_eq_none (by rw [List.length_reverse]; omega)]
theorem wrap64 {n : Int} (h : 0 ≤ n ∧ n < 18446744073709551616) : IntKind.u64.wrap n = n := by
  unfold IntKind.wrap IntKind.signed IntKind.bits
  simp
  omega
theorem of64 {n : Nat} (h : n < 2 ^ 64) : (BitVec.ofInt IntKind.u64.bits (n : Int)).toNat = n := by
  show (BitVec.ofInt 64 (n : Int)).toNat = n
  rw [BitVec.toNat_ofInt]; omega
theorem sh_bit {o i : Nat} (ho : o < 2 ^ 64) (hi : i < 64) : IntKind.u64.wrap (BitVec.ofInt IntKind.u64.bits ((o : Int).fdiv (2 ^ Nat.min i IntKind.u64.bits)) &&& BitVec.ofInt IntKind.u64.bits 1).toNat = if o.testBit i = true then 1 else 0 := by
  have e0 : Nat.min i IntKind.u64.bits = i := Nat.min_eq_left (show i ≤ 64 by omega)
  have e1 : (o : Int).fdiv (2 ^ i) = ((o / 2 ^ i : Nat) : Int) := by
    rw [Int.fdiv_eq_ediv_of_nonneg _ (by exact Int.pow_nonneg (by decide))]
    simp
  have e2 : o / 2 ^ i < 2 ^ 64 := Nat.lt_of_le_of_lt (Nat.div_le_self _ _) ho
  have e3 : (BitVec.ofInt IntKind.u64.bits ((o / 2 ^ i : Nat) : Int) &&& BitVec.ofInt IntKind.u64.bits 1).toNat = o / 2 ^ i % 2 := by
    rw [BitVec.toNat_and, of64 e2, show (BitVec.ofInt IntKind.u64.bits 1).toNat = 1 by decide, Nat.and_one_is_mod]
  rw [e0, e1, e3, Nat.testBit_eq_decide_div_mod_eq]
  have e4 := Nat.mod_lt (o / 2 ^ i) (show 0 < 2 by decide)
  rcases (show o / 2 ^ i % 2 = 0 ∨ o / 2 ^ i % 2 = 1 by omega) with e | e <;> rw [e] <;> decide
theorem one_bit {i : Nat} (hi : i < 64) : IntKind.u64.wrap (1 * 2 ^ Nat.min i IntKind.u64.bits) = ((2 ^ i : Nat) : Int) := by
  have e0 : Nat.min i IntKind.u64.bits = i := Nat.min_eq_left (show i ≤ 64 by omega)
  have h1 : (2 : Nat) ^ i < 2 ^ 64 := Nat.pow_lt_pow_right (by decide) hi
  rw [e0, Int.one_mul, show ((2 : Int) ^ i) = ((2 ^ i : Nat) : Int) by simp]
  generalize (2 : Nat) ^ i = n at h1
  exact wrap64 (by omega)
theorem or_bit {a b : Nat} (ha : a < 2 ^ 64) (hb : b < 2 ^ 64) : IntKind.u64.wrap (BitVec.ofInt IntKind.u64.bits (a : Int) ||| BitVec.ofInt IntKind.u64.bits (b : Int)).toNat = ((a ||| b : Nat) : Int) := by
  have h : a ||| b < 2 ^ 64 := Nat.or_lt_two_pow ha hb
  rw [BitVec.toNat_or, of64 ha, of64 hb, wrap64 (by constructor <;> omega)]
def bits (o : Nat) : Nat → Bool := fun i => o.testBit i
theorem bits_one (i : Nat) : bits (2 ^ i) = upd1 (fun _ => false) i := funext fun j => by
  unfold bits upd1
  rw [Nat.testBit_two_pow]
  by_cases h : j = i
  · subst h; simp
  · rw [if_neg h]; exact decide_eq_false (fun q => h q.symm)
theorem bits_or (a i : Nat) : bits (a ||| 2 ^ i) = upd1 (bits a) i := funext fun j => by
  unfold bits upd1
  rw [Nat.testBit_or, Nat.testBit_two_pow]
  by_cases h : j = i
  · subst h; simp
  · rw [if_neg h, decide_eq_false (fun q => h q.symm), Bool.or_false]
theorem bits_zero : bits 0 = fun _ => false := funext fun j => by unfold bits; exact Nat.zero_testBit j
def Kn (W : (Nat → Bool) → Bool) (m : List (Int × Value)) : Prop := ∀ (o : Nat) (v : Value), mget m (o : Int) = some v → v = .int .i64 (if W (bits o) = true then 1 else -1)
theorem Kn.nil (W : (Nat → Bool) → Bool) : Kn W [] := fun o v h => by cases h
theorem Kn.set {W : (Nat → Bool) → Bool} {m : List (Int × Value)} (h : Kn W m) {o : Nat} {v : Value} (hv : v = .int .i64 (if W (bits o) = true then 1 else -1)) : Kn W (mset m (o : Int) v) := fun p u q => by
  rw [mget_mset] at q
  split at q
  · rename_i e
    have e' : p = o := by omega
    subst e'; cases q; exact hv
  · exact h p u q
theorem Kn.get {W : (Nat → Bool) → Bool} {m : List (Int × Value)} (h : Kn W m) (o : Nat) : (mget m (o : Int)).getD (.int .i64 0) = .int .i64 0 ∨ (mget m (o : Int)).getD (.int .i64 0) = .int .i64 (if W (bits o) = true then 1 else -1) := by
  cases e : mget m (o : Int) with
  | none => exact .inl rfl
  | some v => exact .inr (h o v e)
theorem Kn.val {W : (Nat → Bool) → Bool} {m : List (Int × Value)} (h : Kn W m) (o : Nat) : ∃ z : Int, (mget m (o : Int)).getD (.int .i64 0) = .int .i64 z ∧ (z = 0 ∨ z = if W (bits o) = true then 1 else -1) := by
  rcases h.get o with e | e
  · exact ⟨0, e, .inl rfl⟩
  · exact ⟨_, e, .inr rfl⟩
theorem Kn.now {W : (Nat → Bool) → Bool} {m : List (Int × Value)} (h : Kn W m) {o : Nat} {v w : Value} (hw : w = .int .i64 (if W (bits o) = true then 1 else -1)) : Kn W (mset (mset m (o : Int) v) (o : Int) w) := fun p u q => by
  rw [mget_mset] at q
  split at q
  · rename_i e
    have e' : p = o := by omega
    subst e'; cases q; exact hw
  · rename_i e
    rw [mget_mset, if_neg e] at q
    exact h p u q
theorem sgn_pos {w : Bool} : decide (0 < (if w = true then (1 : Int) else -1)) = w := by cases w <;> decide
theorem sgn_dec {w : Bool} {z : Int} (h : ¬ z = 0) (q : z = 0 ∨ z = if w = true then 1 else -1) : decide (0 < z) = w := by
  rcases q with q | q
  · exact absurd q h
  · rw [q]; exact sgn_pos
theorem bit_no {b : Bool} (h : (if b = true then (1 : Int) else 0) = 0) : b = false := by cases b with | false => rfl | true => exact absurd h (by decide)
theorem bit_yes {b : Bool} (h : ¬ (if b = true then (1 : Int) else 0) = 0) : b = true := by cases b with | false => exact absurd rfl h | true => rfl
noncomputable def goneN (W : (Nat → Bool) → Bool) (n : Nat) : Nat → Nat
  | 0 => 0
  | k + 1 => if W (bits (goneN W n k ||| 2 ^ (n - 1 - k))) = true then goneN W n k ||| 2 ^ (n - 1 - k) else goneN W n k
theorem bits_goneN {W : (Nat → Bool) → Bool} {n : Nat} : ∀ k, bits (goneN W n k) = gone W n k
  | 0 => bits_zero
  | k + 1 => by
    have ih := bits_goneN (W := W) (n := n) k
    unfold goneN
    rw [gone_succ, bits_or, ih]
    split
    · rw [bits_or, ih]
    · exact ih
theorem goneN_lt {W : (Nat → Bool) → Bool} {n : Nat} (hn : n ≤ 64) : ∀ {k}, k ≤ n → goneN W n k < 2 ^ 64
  | 0, _ => by unfold goneN; decide
  | k + 1, hk => by
    have ih := goneN_lt (W := W) hn (k := k) (by omega)
    unfold goneN
    split
    · exact Nat.or_lt_two_pow ih (Nat.pow_lt_pow_right (by decide) (by omega))
    · exact ih
theorem goneN_yes {W : (Nat → Bool) → Bool} {n k : Nat} (h : W (upd1 (gone W n k) (n - 1 - k)) = true) : goneN W n (k + 1) = goneN W n k ||| 2 ^ (n - 1 - k) := by
  rw [goneN, bits_or, bits_goneN, if_pos h]
theorem goneN_no {W : (Nat → Bool) → Bool} {n k : Nat} (h : W (upd1 (gone W n k) (n - 1 - k)) = false) : goneN W n (k + 1) = goneN W n k := by
  rw [goneN, bits_or, bits_goneN, if_neg (by rw [h]; decide)]
noncomputable def outK (W : (Nat → Bool) → Bool) (n : Nat) : Nat → List Nat
  | 0 => []
  | k + 1 => if W (upd1 (gone W n k) (n - 1 - k)) = true then outK W n k else outK W n k ++ [n - 1 - k]
theorem outK_yes {W : (Nat → Bool) → Bool} {n k : Nat} (h : W (upd1 (gone W n k) (n - 1 - k)) = true) : outK W n (k + 1) = outK W n k := by rw [outK, if_pos h]
theorem outK_no {W : (Nat → Bool) → Bool} {n k : Nat} (h : W (upd1 (gone W n k) (n - 1 - k)) = false) : outK W n (k + 1) = outK W n k ++ [n - 1 - k] := by rw [outK, if_neg (by rw [h]; decide)]
theorem outK_len {W : (Nat → Bool) → Bool} {n : Nat} : ∀ k, (outK W n k).length ≤ k
  | 0 => Nat.le_refl _
  | k + 1 => by
    have ih := outK_len (W := W) (n := n) k
    unfold outK
    split
    · omega
    · rw [List.length_append]; simp; omega
theorem outK_rev {W : (Nat → Bool) → Bool} {n : Nat} : ∀ k, k ≤ n → (outK W n k).reverse = (List.range' (n - k) k).filter fun j => !gone W n n j
  | 0, _ => by simp [outK]
  | k + 1, hk => by
    have ih := outK_rev (W := W) (n := n) k (by omega)
    have h1 : gone W n n (n - 1 - k) = W (upd1 (gone W n k) (n - 1 - k)) := by
      rw [← gone_at (W := W) (show k < n by omega)]
      have h2 : ∀ d, k + 1 + d ≤ n → gone W n (k + 1 + d) (n - 1 - k) = gone W n (k + 1) (n - 1 - k) := fun d => by
        induction d with
        | zero => intro _; rfl
        | succ d ih => intro hd; rw [← Nat.add_assoc, gone_high (by omega)]; exact ih (by omega)
      have := h2 (n - (k + 1)) (by omega)
      rw [show k + 1 + (n - (k + 1)) = n by omega] at this
      exact this
    rw [show n - (k + 1) = n - 1 - k by omega, List.range'_succ, show n - 1 - k + 1 = n - k by omega, List.filter_cons]
    cases e : W (upd1 (gone W n k) (n - 1 - k)) with
    | true => rw [outK_yes e, ih, h1, e]; rfl
    | false => rw [outK_no e, List.reverse_append, ih, h1, e]; rfl
theorem outK_keys {W : (Nat → Bool) → Bool} {n : Nat} : (cs (outK W n n)).reverse = cs (keysP W n n) := by
  unfold cs keysP
  rw [← List.map_reverse, outK_rev n (Nat.le_refl _), Nat.sub_self, List.range_eq_range']
def knO (W : (Nat → Bool) → Bool) (bm : Nat) : OA := OA.ex fun m => OA.and (Kn W m) (mapO bm .u64 m)
theorem knO_mk {W : (Nat → Bool) → Bool} {bm : Nat} {m : List (Int × Value)} (hk : Kn W m) {hp h : Heap} (q : Sep hp [mapO bm .u64 m] h) : (knO W bm).p hp h := by
  obtain ⟨h1, h2, a, b, c, ⟨es, clock, d1, d2⟩, e⟩ := q
  exact ⟨m, hk, es, clock, a _ _ d1, d2⟩
theorem go_kn {C : Ctx} {k : List It} {E : Env} {Ps : List PA} {Os rr : List OA} {W : (Nat → Bool) → Bool} {bm : Nat} (h : Rem (knO W bm) Os rr) (g : ∀ m, Kn W m → Go C k E Ps (mapO bm .u64 m :: rr)) : Go C k E Ps Os :=
  go_oex h fun m => go_oand .here (g m)
def posL (l : List Cl) : Prop := ∀ c ∈ l, ∀ x ∈ c.b, x.no = false
theorem posH {c : Cl} {F N F' N' : Fa → Prop} {x : Fa} (hc : ∀ x ∈ c.b, x.no = false) (h : H c F N x) (hF : ∀ y, F y → F' y) : H c F' N' x :=
  h.loc (fun _ _ _ y _ q => hF y q) fun a ha e => by rw [hc a ha] at e; cases e
theorem pos_model {l : List Cl} (hp : posL l) {B B' : Fa → Prop} {M : List Fa} (hB : ∀ x, B x → B' x) (hM : rises M) (h : Stable l B' (· ∈ M)) : ∃ M' : List Fa, rises M' ∧ M'.length ≤ M.length ∧ (∀ x ∈ M', x ∈ M) ∧ Stable l B (· ∈ M') := by
  have hS : ∀ x, (∀ T : Fa → Prop, (∀ y, B y → T y) → (∀ c ∈ l, ∀ y, H c T T y → T y) → T x) → x ∈ M := fun x q => q (· ∈ M) (fun y hy => h.base y (hB y hy)) h.closed
  generalize hSd : (fun x => ∀ T : Fa → Prop, (∀ y, B y → T y) → (∀ c ∈ l, ∀ y, H c T T y → T y) → T x) = S at hS
  have hS' : ∀ x, S x ↔ ∀ T : Fa → Prop, (∀ y, B y → T y) → (∀ c ∈ l, ∀ y, H c T T y → T y) → T x := fun x => by rw [← hSd]
  have hS2 : ∀ x, S x → x ∈ M := fun x q => hS x ((hS' x).1 q)
  refine ⟨M.filter fun x => @decide (S x) (Classical.propDecidable _), List.Pairwise.filter _ hM, List.length_filter_le .., fun x hx => (List.mem_filter.1 hx).1, ?_⟩
  have hm : ∀ x, x ∈ M.filter (fun x => @decide (S x) (Classical.propDecidable _)) ↔ S x := fun x => by
    rw [List.mem_filter, @decide_eq_true_iff _ (Classical.propDecidable _)]
    exact ⟨fun q => q.2, fun q => ⟨hS2 x q, q⟩⟩
  refine ⟨fun x hx => (hm x).2 ((hS' x).2 fun T h1 _ => h1 x hx), fun c hc x hx => (hm x).2 ((hS' x).2 fun T h1 h2 => h2 c hc x (posH (hp c hc) hx fun y q => (hS' y).1 ((hm y).1 q) T h1 h2)), fun T h1 h2 x hx => ?_⟩
  exact (hS' x).1 ((hm x).1 hx) T h1 fun c hc y hy => h2 c hc y (posH (hp c hc) hy fun _ q => q)
theorem model_mono {l : List Cl} (hp : posL l) {fs gs : List Fa} {most : Int} {M : List Fa} {r : Option (List Fa)} {e : Int} (ho : ∀ c ∈ l, c.ok) (h : ModA l fs most (some M) 0) (hg : ∀ f ∈ gs, f ∈ fs) (h' : ModA l gs most r e) : e = 0 ∧ ∃ M', r = some M' ∧ ∀ x ∈ M', x ∈ M := by
  obtain ⟨hr, h0, _, q, h3, h4, h5⟩ := h.ok ho rfl
  cases q
  have hr' := hr.sub (fun _ q => q) hg (rightC_iff.1 hr.1).1
  obtain ⟨lv, hlv⟩ := hr'.2.1
  obtain ⟨M', a1, a2, a3, a4⟩ := pos_model hp (B := (· ∈ fof gs)) (fun x q => mem_fof.2 (hg x (mem_fof.1 q))) h3 h5
  obtain ⟨b1, b2⟩ := ((h'.of_right ho hr' h0).of_stable hlv a1 a4).1 (by omega)
  exact ⟨b2, M', b1, a3⟩
theorem isW_mono {l : List Cl} (hp : posL l) {fs gs hs : List Fa} {f : Fa} {most : Int} {M : List Fa} (ho : ∀ c ∈ l, c.ok) (h : ModA l fs most (some M) 0) (h1 : ∀ x ∈ gs, x ∈ hs) (h2 : ∀ x ∈ hs, x ∈ fs) (q : isW l gs f most = true) : isW l hs f most = true := by
  obtain ⟨hr, h0, _, e, h3, h4, h5⟩ := h.ok ho rfl
  cases e
  obtain ⟨_, _, M1, _, _, q3, q4⟩ := isW_iff.1 q
  have hr2 := hr.sub (fun _ q => q) h2 (rightC_iff.1 hr.1).1
  obtain ⟨lv, hlv⟩ := hr.2.1
  obtain ⟨M2, a1, a2, a3, a4⟩ := pos_model hp (B := (· ∈ fof hs)) (fun x q => mem_fof.2 (h2 x (mem_fof.1 q))) h3 h5
  obtain ⟨M3, b1, b2, b3, b4⟩ := pos_model hp (B := (· ∈ fof gs)) (fun x q => mem_fof.2 (h1 x (mem_fof.1 q))) a1 a4
  exact isW_iff.2 ⟨hr2, h0, M2, a1, by omega, a4, b3 f ((q3.same hlv b4 f).1 q4)⟩
section
variable {W : (Nat → Bool) → Bool} {n : Nat}
theorem gone_more {k i : Nat} (h : gone W n k i = true) : ∀ d, k + d ≤ n → gone W n (k + d) i = true
  | 0, _ => h
  | d + 1, hd => by
    have ih := gone_more h d (by omega)
    rw [← Nat.add_assoc, gone_succ]
    split
    · show (if i = _ then true else _) = true
      split
      · rfl
      · exact ih
    · exact ih
theorem gone_true (h0 : W (fun _ => false) = true) : ∀ k, W (gone W n k) = true
  | 0 => h0
  | k + 1 => by
    rw [gone_succ]
    split
    · assumption
    · exact gone_true h0 k
theorem key_need (hm : ∀ g g' : Nat → Bool, (∀ i, g i = true → g' i = true) → W g' = true → W g = true) {i : Nat} (hi : i < n) (h : gone W n n i = false) : W (upd1 (gone W n n) i) = false := by
  have hk : n - 1 - i < n := by omega
  have hii : n - 1 - (n - 1 - i) = i := by omega
  have h1 : gone W n (n - 1 - i + 1) i = false := by
    cases e : gone W n (n - 1 - i + 1) i with
    | false => rfl
    | true =>
      have := gone_more e (n - (n - 1 - i + 1)) (by omega)
      rw [show n - 1 - i + 1 + (n - (n - 1 - i + 1)) = n by omega, h] at this; cases this
  have h2 := gone_at (W := W) hk
  rw [hii, h1] at h2
  cases e : W (upd1 (gone W n n) i) with
  | false => rfl
  | true =>
    have := hm (upd1 (gone W n (n - 1 - i)) i) _ (fun j q => by
      unfold upd1 at q ⊢
      by_cases hj : j = i
      · rw [if_pos hj]
      · rw [if_neg hj] at q ⊢
        have := gone_more q (n - (n - 1 - i)) (by omega)
        rwa [show n - 1 - i + (n - (n - 1 - i)) = n by omega] at this) e
    rw [this] at h2; cases h2
theorem rest_key (h0 : W (fun _ => false) = true) (hm : ∀ g g' : Nat → Bool, (∀ i, g i = true → g' i = true) → W g' = true → W g = true) {i : Nat} (h : i ∈ restL W n) : i ∈ keysL W n := by
  unfold restL at h; unfold keysL
  obtain ⟨h1, h2⟩ := List.mem_filter.1 h
  refine List.mem_filter.2 ⟨h1, ?_⟩
  rw [Bool.not_eq_true'] at h2 ⊢
  cases e : gone W n n i with
  | false => rfl
  | true =>
    have := hm (upd1 (fun _ => false) i) (gone W n n) (fun j q => by
      unfold upd1 at q
      by_cases hj : j = i
      · rw [hj]; exact e
      · rw [if_neg hj] at q; cases q) (gone_true h0 n)
    rw [this] at h2; cases h2
end
end Go.Proofs.YtdconhalfanclaaGreat.SL
namespace Go.Proofs.YtdconhalfanclaaGreat.SL
open Go Md
theorem ref30Same (A : Option Addr) (c : Nat) (l : List Int) (B : Option Addr) (d : Nat) (m : List Int) :
    Spec Tryz.prog 34 #[.slice A l.length c, .slice B m.length d] [sl tI A c l, sl tI B d m] [] (fun v Ps' Os' => v = .bool (decide (l = m)) ∧ Ps' = [] ∧ Os' = []) := by
 refine zSp _ Tryz.func34 Tryz.ntmps34 (fun _ _ _ => ?_)
 refine zR 6 ?_
 refine go_len (xs := l) zM (fun l0 m0 => ?_)
 refine go_len (xs := m) zM (fun l1 m1 => ?_)
 refine zN 7 ?_ ?_
 ·intro g1
  refine zT 4 rfl ⟨by rw [decide_eq_false (fun q => g1 (by rw [q]))], rfl, rfl⟩
 intro g1
 refine zR 3 ?_
 have hl : l.length = m.length := by omega
 refine zR 4 ?_
 refine zO (X := Nat) (fun k => [(5, .int .i64 (k : Int))]) [0, 1] (fun _ => []) (fun k => k ≤ l.length ∧ l.take k = m.take k) (fun k => l.length - k) 0 ⟨by omega, by simp⟩ ?_
 intro k ⟨hk, hz⟩
 refine zD' 8 ?_ ?_
 ·intro hq1
  refine zT 5 rfl ⟨by rw [decide_eq_true (show l = m by rw [List.take_of_length_le (show l.length ≤ k by omega), List.take_of_length_le (show m.length ≤ k by omega)] at hz; exact hz)], rfl, rfl⟩
 intro hq1
 refine zR 4 ?_
 refine go_elem_int (xs := l) (c := c) zM (k) (List.getElem?_eq_getElem (by omega)) (fun b0 o0 hA => ?_); cases hA
 refine go_elem_int (xs := m) (c := d) zM (k) (List.getElem?_eq_getElem (by omega)) (fun b2 o2 hA => ?_); cases hA
 refine zY 0 [1, 4, 7, 13, 16, 19, 11, 23, 25] ?_
 refine zI 2 ?_
 refine zI 2 ?_
 refine zK 0 ?_
 refine zK 0 ?_
 refine zE 2 [0, 1, 5, 25] ?_
 refine zN 0 ?_ ?_
 ·intro g2
  refine zT 4 rfl ⟨by rw [decide_eq_false (fun q => g2 (by subst q; rfl))], rfl, rfl⟩
 intro g2
 refine zR 7 ?_
 refine zi 5 ?_
 refine zz (k + 1) (⟨by omega, take_next (by omega) (by omega) hz g2⟩) (by omega)
end Go.Proofs.YtdconhalfanclaaGreat.SL
namespace Go.Proofs.YtdconhalfanclaaGreat.SL
open Go
theorem is1 (bq : Nat) (y : Fa) (B : Option Addr) (d : Nat) (x : Fa) (A : Option Addr) (c : Nat) :
    Spec Tryz.prog 108 #[.agg #[.int .u32 x.p, .slice A x.a.length c], .pointer (some ⟨bq, 0, none⟩)] [sl tU A c x.a, PA.all [cl bq 0 [.int .u32 y.p, .slice B y.a.length d], sl tU B d y.a]] [] (fun v Ps' Os' => v = .bool (decide (x = y)) ∧ Ps' = [] ∧ Os' = []) := by
 refine zSp _ Tryz.func108 Tryz.ntmps108 (fun _ _ _ => ?_)
 refine zX 2 ?_
 intro b1
 refine zR 3 ?_
 refine go_pall (l := [_, _]) zM ?_
 refine zL 1 ?_
 refine zL 0 ?_
 refine zC3 0 (atomsCompare _ _ _ _ _ _ _ _) ?_
 refine zT 3 rfl ⟨congrArg Value.bool (by rw [decide_eq_decide]; exact (cmpF_zero (x := y) (q := x)).trans eq_comm), rfl, rfl⟩
theorem indexFa (L : Option Addr) (lc : Nat) (l : List Fa) (g : FuncId) (cap : Array Value) (p : Fa → Bool) (PS : PA) (hso : SoSpec g cap p [PS]) :
    Spec Tryz.prog 141 #[.slice L l.length lc, .func (.func g) #[] cap] [sl tFa L lc l, PS] [] (fun v Ps' Os' => v = .int .i64 (idxF p l) ∧ Ps' = [] ∧ Os' = []) := by
 refine zSp _ Tryz.func141 Tryz.ntmps141 (fun _ _ _ => ?_)
 refine zR 1 ?_
 refine go_len (xs := l) zM (fun l0 m0 => ?_)
 refine zR 11 ?_
 refine zO (X := Nat) (fun k => [(8, .int .i64 (k : Int))]) [0, 1, 7] (fun _ => []) (fun k => k ≤ l.length ∧ ∀ y ∈ l.take k, p y = false) (fun k => l.length - k) 0 ⟨by omega, by simp⟩ ?_
 intro k ⟨hk, hz⟩
 refine zD' 5 ?_ ?_
 ·intro hq1
  refine zT 5 rfl ⟨by unfold idxF; rw [idxF_none (by rw [List.take_of_length_le (by omega)] at hz; exact hz)], rfl, rfl⟩
 intro hq1
 refine zR 9 ?_
 refine go_elem_fa (xs := l) zM (k) (List.getElem?_eq_getElem (by omega)) (fun b0 o0 A0 c0 hA => ?_); cases hA
 refine zI 4 ?_
 refine zL 0 ?_
 refine zC3 0 (hso l[k] A0 c0) ?_
 refine zB 1 ?_ ?_
 ·intro g1
  (try simp only [dcs, ne_eq] at g1)
  refine zE 5 [4] ?_
  refine zT 0 rfl ⟨by unfold idxF; rw [idxF_hit (by omega) hz g1], rfl, rfl⟩
 intro g1
 (try simp only [dcs, ne_eq] at g1)
 refine zR 6 ?_
 refine zi 8 ?_
 refine zz (k + 1) (⟨by omega, mem_take_next' (by omega) hz g1⟩) (by omega)
theorem containsFa (L : Option Addr) (lc : Nat) (l : List Fa) (g : FuncId) (cap : Array Value) (p : Fa → Bool) (PS : PA) (hso : SoSpec g cap p [PS]) :
    Spec Tryz.prog 107 #[.slice L l.length lc, .func (.func g) #[] cap] [sl tFa L lc l, PS] [] (fun v Ps' Os' => v = .bool (l.any p) ∧ Ps' = [] ∧ Os' = []) := by
 refine zSp _ Tryz.func107 Tryz.ntmps107 (fun _ _ _ => ?_)
 refine zC3 8 (indexFa L lc l g cap p PS hso) ?_
 refine zT 3 rfl ⟨congrArg Value.bool (idxF_any p l).symm, rfl, rfl⟩
theorem queryIs (L : Option Addr) (lc : Nat) (l : List Fa) (y : Fa) (B : Option Addr) (d : Nat) :
    Spec Tryz.prog 75 #[.slice L l.length lc, .agg #[.int .u32 y.p, .slice B y.a.length d]] [sl tFa L lc l, sl tU B d y.a] [] (fun v Ps' Os' => v = .bool (decide (y ∈ l)) ∧ Ps' = [] ∧ Os' = []) := by
 refine zSp _ Tryz.func75 Tryz.ntmps75 (fun _ _ _ => ?_)
 refine zX 2 ?_
 intro bq
 refine go_freeze_pt (b := bq) zM ?_
 refine go_mkall [cl bq 0 [.int .u32 y.p, .slice B y.a.length d], sl tU B d y.a] zM ?_
 refine zC3 6 (containsFa L lc l 108 #[.pointer (some ⟨bq, 0, none⟩)] (fun x => decide (x = y)) (PA.all [cl bq 0 [.int .u32 y.p, .slice B y.a.length d], sl tU B d y.a]) (fun x A c => is1 bq y B d x A c)) ?_
 refine zT 2 rfl ⟨congrArg Value.bool (any_mem y l).symm, rfl, rfl⟩
end Go.Proofs.YtdconhalfanclaaGreat.SL
namespace Go.Proofs.YtdconhalfanclaaGreat.SL
open Go Md
theorem impAsker (l : List Cl) (LA : Option Addr) (lc : Nat) (gl : ∀ c ∈ l, c.ok) (a : List Fa) (A : Option Addr) (k : Nat) (f : Fa) (FA : Option Addr) (fk : Nat) (most : Int) :
    Spec Tryz.prog 76 #[.slice LA l.length lc, .slice A a.length k, .agg #[.int .u32 f.p, .slice FA f.a.length fk], .int .i64 most] [sl tCl LA lc l, sl tFa A k a, sl tU FA fk f.a] [] (fun v Ps' Os' => ∃ bM bF bL bO bQ bm, v = .func (.func 109) #[] #[.pointer (some ⟨bM, 0, none⟩), .pointer (some ⟨bF, 0, none⟩), .pointer (some ⟨bL, 0, none⟩), .pointer (some ⟨bO, 0, none⟩), .pointer (some ⟨bQ, 0, none⟩)] ∧ Ps' = [cl bM 0 [.map (some bm)], cl bF 0 [.slice A a.length k], cl bL 0 [.slice LA l.length lc], cl bO 0 [.int .i64 most], cl bQ 0 [.int .u32 f.p, .slice FA f.a.length fk]] ∧ Os' = [mapO bm .u64 []]) := by
 refine zSp _ Tryz.func76 Tryz.ntmps76 (fun _ _ _ => ?_)
 refine zX 2 ?_
 intro bL
 refine zX 0 ?_
 intro bF
 refine zX 0 ?_
 intro bQ
 refine zX 0 ?_
 intro bO
 refine zR 4 ?_
 refine go_makemap (kk := .u64) rfl rfl rfl zH ?_
 intro bm
 refine zW 0 ?_
 intro bM
 refine zS 0 ?_
 refine zR 1 ?_
 refine go_freeze_pt (b := bL) zM ?_
 refine go_freeze_pt (b := bF) zM ?_
 refine go_freeze_pt (b := bQ) zM ?_
 refine go_freeze_pt (b := bO) zM ?_
 refine go_freeze_pt (b := bM) zM ?_
 refine zT 5 rfl ⟨bM, bF, bL, bO, bQ, bm, rfl, rfl, rfl⟩
theorem impAsk1 (l : List Cl) (LA : Option Addr) (lc : Nat) (gl : ∀ c ∈ l, c.ok) (a : List Fa) (A : Option Addr) (k : Nat) (f : Fa) (FA : Option Addr) (fk : Nat) (most : Int) (bM bF bL bO bQ bm o : Nat) (m : List (Int × Value)) (hk : Kn (fun g => isW l (kq g a a.length) f most) m) (ho : o < 2 ^ 64) (gaf : ∀ x ∈ a, x.ok ∧ x.a.length ≤ 100000) (hm : most ≤ 100) (hfl : a.length ≤ 60) (hbg : ∀ c ∈ l, ∀ (F R N : List Fa) (new : Bool), (F.length : Int) ≤ most → (goL c F R N c.b ch0 new).length ≤ 50000000) :
    Spec Tryz.prog 109 #[.int .u64 (o : Int), .pointer (some ⟨bM, 0, none⟩), .pointer (some ⟨bF, 0, none⟩), .pointer (some ⟨bL, 0, none⟩), .pointer (some ⟨bO, 0, none⟩), .pointer (some ⟨bQ, 0, none⟩)] [cl bM 0 [.map (some bm)], cl bF 0 [.slice A a.length k], cl bL 0 [.slice LA l.length lc], cl bO 0 [.int .i64 most], cl bQ 0 [.int .u32 f.p, .slice FA f.a.length fk], sl tCl LA lc l, sl tFa A k a, sl tU FA fk f.a] [mapO bm .u64 m] (fun v Ps' Os' => ∃ m', Kn (fun g => isW l (kq g a a.length) f most) m' ∧ v = .bool ((fun g => isW l (kq g a a.length) f most) (bits o)) ∧ Ps' = [] ∧ Os' = [mapO bm .u64 m']) := by
 refine zSp _ Tryz.func109 Tryz.ntmps109 (fun _ _ _ => ?_)
 refine zL 7 ?_
 refine zR 1 ?_
 refine go_val0 rfl (lookup_val (m := m) (n := (o : Int)) (c := false) (v := (mget m (o : Int)).getD (.int .i64 0)) Tk rfl rfl rfl rfl rfl rfl zM rfl) rfl ?_
 obtain ⟨z, hz, hz2⟩ := hk.val o
 refine go_re 16 (.int .i64 z) (by show some _ = _; rw [hz]) ?_
 refine zN 7 ?_ ?_
 ·intro g1
  refine zE 6 [7] ?_
  refine zT 0 rfl ⟨m, hk, congrArg Value.bool (sgn_dec g1 hz2), rfl, rfl⟩
 intro g1
 refine zR 2 ?_
 refine go_len (xs := a) zM (fun la ma => ?_)
 refine go_own_nil tFa 40 none ?_
 refine go_same (B := ol tFa 40 none 0 (kq (bits o) a (0))) .here (by rfl) ?_
 refine zL 6 ?_
 refine zR 4 ?_
 refine zO (X := Nat × Option Addr × Nat) (fun x => [(9, .slice x.2.1 (kq (bits o) a (x.1)).length x.2.2), (23, .int .i64 (x.1 : Int))]) [0, 1, 3, 4, 5, 21, 22] (fun x => [ol tFa 40 x.2.1 x.2.2 (kq (bits o) a (x.1))]) (fun x => x.1 ≤ a.length) (fun x => a.length - x.1) (0, none, 0) (Nat.zero_le _) ?_
 intro ⟨i, A3, c3⟩ hi
 simp only at hi ⊢
 have hsl := kq_len (bits o) a i
 refine zD 5 ?_ ?_
 ·intro hq1
  refine zR 4 ?_
  refine go_elem_fa (xs := a) zM (i) (List.getElem?_eq_getElem (by omega)) (fun b0 o0 A0 c0 hA => ?_); cases hA
  refine zI 2 ?_
  refine zL 0 ?_
  refine zW 0 ?_
  intro bx
  refine zS 1 ?_
  refine zR 7 ?_
  refine go_re 31 (.int .u64 (if o.testBit i = true then 1 else 0)) (by show some (Value.int _ _) = _; exact congrArg (fun z : Int => some (Value.int IntKind.u64 z)) (sh_bit ho (by omega))) ?_
  refine zD' 2 ?_ ?_
  ·intro g2
   have g3 : bits o i = true := bit_yes g2
   refine zR 6 ?_
   refine go_i64n 23 (i + 1) rfl ?_
   rw [kq_yes (by omega) g3]
   refine zz (i + 1, A3, c3) (by show i + 1 ≤ _; omega) (by show _ - (i + 1) < _ - i; omega)
  intro g2
  have g3 : bits o i = false := bit_no g2
  refine zL 2 ?_
  refine zV 0 ?_
  intro b1
  refine go_append1 (T := tFa) (xs := kq (bits o) a (i)) Tk (a[i]) rfl rfl rfl rfl rfl rfl rfl rfl rfl zM zM rfl (ent_fa zM) (by omega) zH ?_
  intro A4 c4
  refine zE 2 [0, 1, 3, 4, 5, 9, 21, 22, 23] ?_
  refine zR 5 ?_
  refine go_i64n 23 (i + 1) rfl ?_
  rw [kq_no (by omega) g3]
  refine zz (i + 1, A4, c4) (by show i + 1 ≤ _; omega) (by show _ - (i + 1) < _ - i; omega)
 intro hq1
 refine zR 2 ?_
 obtain rfl : i = a.length := by omega
 refine go_freeze_ol (xs := kq (bits o) a (a.length)) zM ?_
 refine zL 1 ?_
 refine zL 1 ?_
 refine zC 0 (modelOf l LA lc (kq (bits o) a (a.length)) A3 c3 most gl (fun x hx => gaf x (kq_sub x hx)) (by omega) (by omega) hbg) ?_
 rintro _ _ _ ⟨A1, k1, r1, e1, hM1, rfl, rfl, rfl⟩
 refine zE 6 [0, 1, 5, 12, 13] ?_
 refine zL 2 ?_
 refine zR 1 ?_
 refine go_mset (m := m) (v := .int .i64 (-1)) Tk rfl rfl rfl rfl rfl rfl rfl rfl zM zF ?_
 refine zG' 7 49 ?_ ?_
 ·intro g4
  (try simp only [dcs, ne_eq] at g4)
  have hw : isW l (kq (bits o) a (a.length)) f most = false := by rw [isW_and gl hM1, decide_eq_false g4, Bool.false_and]
  obtain ⟨m2, hm2⟩ : ∃ m2, m2 = mset m (o : Int) (.int .i64 (-1)) := ⟨_, rfl⟩
  rw [← hm2]
  have hK2 : Kn (fun g => isW l (kq g a a.length) f most) m2 := by rw [hm2]; exact hk.set (by show Value.int IntKind.i64 (-1) = Value.int IntKind.i64 (if isW l (kq (bits o) a (a.length)) f most = true then 1 else -1); rw [hw]; rfl)
  have hg2 : (mget m2 (o : Int)).getD (.int .i64 0) = .int .i64 (if (fun g => isW l (kq g a a.length) f most) (bits o) = true then 1 else -1) := by rw [hm2, mget_mset, if_pos rfl]; show Value.int IntKind.i64 (-1) = Value.int IntKind.i64 (if isW l (kq (bits o) a (a.length)) f most = true then 1 else -1); rw [hw]; rfl
  refine zDf 5 ?_
  refine zL 3 ?_
  refine zR 1 ?_
  refine go_val0 rfl (lookup_val (m := m2) (n := (o : Int)) (c := false) (v := (mget m2 (o : Int)).getD (.int .i64 0)) Tk rfl rfl rfl rfl rfl rfl zM rfl) rfl ?_
  refine go_re 58 (.int .i64 (if (fun g => isW l (kq g a a.length) f most) (bits o) = true then 1 else -1)) (by show some _ = _; rw [hg2]) ?_
  refine zE 3 [7] ?_
  refine zT 0 rfl ⟨m2, hK2, congrArg Value.bool sgn_pos, rfl, rfl⟩
 intro g4
 (try simp only [dcs, ne_eq] at g4)
 refine zL 1 ?_
 refine zC3 0 (queryIs A1 k1 (r1.getD []) f FA fk) ?_
 refine zB' 2 ?_ ?_
 ·intro g5
  (try simp only [dcs, ne_eq] at g5)
  have hw : isW l (kq (bits o) a (a.length)) f most = false := by rw [isW_and gl hM1, decide_eq_true g4, Bool.true_and, decide_eq_false g5]
  obtain ⟨m2, hm2⟩ : ∃ m2, m2 = mset m (o : Int) (.int .i64 (-1)) := ⟨_, rfl⟩
  rw [← hm2]
  have hK2 : Kn (fun g => isW l (kq g a a.length) f most) m2 := by rw [hm2]; exact hk.set (by show Value.int IntKind.i64 (-1) = Value.int IntKind.i64 (if isW l (kq (bits o) a (a.length)) f most = true then 1 else -1); rw [hw]; rfl)
  have hg2 : (mget m2 (o : Int)).getD (.int .i64 0) = .int .i64 (if (fun g => isW l (kq g a a.length) f most) (bits o) = true then 1 else -1) := by rw [hm2, mget_mset, if_pos rfl]; show Value.int IntKind.i64 (-1) = Value.int IntKind.i64 (if isW l (kq (bits o) a (a.length)) f most = true then 1 else -1); rw [hw]; rfl
  refine zL 3 ?_
  refine zR 1 ?_
  refine go_val0 rfl (lookup_val (m := m2) (n := (o : Int)) (c := false) (v := (mget m2 (o : Int)).getD (.int .i64 0)) Tk rfl rfl rfl rfl rfl rfl zM rfl) rfl ?_
  refine go_re 58 (.int .i64 (if (fun g => isW l (kq g a a.length) f most) (bits o) = true then 1 else -1)) (by show some _ = _; rw [hg2]) ?_
  refine zE 3 [7] ?_
  refine zT 0 rfl ⟨m2, hK2, congrArg Value.bool sgn_pos, rfl, rfl⟩
 intro g5
 (try simp only [dcs, ne_eq] at g5)
 have hw : isW l (kq (bits o) a (a.length)) f most = true := by rw [isW_and gl hM1, decide_eq_true g4, Bool.true_and, decide_eq_true g5]
 refine zL 1 ?_
 refine zR 1 ?_
 refine go_mset (m := (mset m (o : Int) (.int .i64 (-1)))) (v := .int .i64 1) Tk rfl rfl rfl rfl rfl rfl rfl rfl zM zF ?_
 refine zR 1 ?_
 obtain ⟨m2, hm2⟩ : ∃ m2, m2 = mset (mset m (o : Int) (.int .i64 (-1))) (o : Int) (.int .i64 1) := ⟨_, rfl⟩
 rw [← hm2]
 have hK2 : Kn (fun g => isW l (kq g a a.length) f most) m2 := by rw [hm2]; exact hk.now (by show Value.int IntKind.i64 1 = Value.int IntKind.i64 (if isW l (kq (bits o) a (a.length)) f most = true then 1 else -1); rw [hw]; rfl)
 have hg2 : (mget m2 (o : Int)).getD (.int .i64 0) = .int .i64 (if (fun g => isW l (kq g a a.length) f most) (bits o) = true then 1 else -1) := by rw [hm2, mget_mset, if_pos rfl]; show Value.int IntKind.i64 1 = Value.int IntKind.i64 (if isW l (kq (bits o) a (a.length)) f most = true then 1 else -1); rw [hw]; rfl
 refine zE 0 [0, 1] ?_
 refine zL 2 ?_
 refine zR 1 ?_
 refine go_val0 rfl (lookup_val (m := m2) (n := (o : Int)) (c := false) (v := (mget m2 (o : Int)).getD (.int .i64 0)) Tk rfl rfl rfl rfl rfl rfl zM rfl) rfl ?_
 refine go_re 58 (.int .i64 (if (fun g => isW l (kq g a a.length) f most) (bits o) = true then 1 else -1)) (by show some _ = _; rw [hg2]) ?_
 refine zT 3 rfl ⟨m2, hK2, congrArg Value.bool sgn_pos, rfl, rfl⟩
theorem impBegin (l : List Cl) (LA : Option Addr) (lc : Nat) (gl : ∀ c ∈ l, c.ok) (a : List Fa) (A : Option Addr) (k : Nat) (f : Fa) (FA : Option Addr) (fk : Nat) (most : Int) (gaf : ∀ x ∈ a, x.ok ∧ x.a.length ≤ 100000) (hm : most ≤ 100) (hfl : a.length ≤ 60) (hbg : ∀ c ∈ l, ∀ (F R N : List Fa) (new : Bool), (F.length : Int) ≤ most → (goL c F R N c.b ch0 new).length ≤ 50000000) :
    Spec Tryz.prog 42 #[.slice LA l.length lc, .slice A a.length k, .agg #[.int .u32 f.p, .slice FA f.a.length fk], .int .i64 most] [sl tCl LA lc l, sl tFa A k a, sl tU FA fk f.a] [] (fun v Ps' Os' => ∃ e fv, AskR l a f most e ∧ v = .tuple #[fv, .int .i64 e] ∧ ((e ≠ 0 ∧ fv = .nilFunc ∧ Ps' = [] ∧ Os' = []) ∨ (e = 0 ∧ ∃ bM bF bL bO bQ bm, fv = .func (.func 109) #[] #[.pointer (some ⟨bM, 0, none⟩), .pointer (some ⟨bF, 0, none⟩), .pointer (some ⟨bL, 0, none⟩), .pointer (some ⟨bO, 0, none⟩), .pointer (some ⟨bQ, 0, none⟩)] ∧ Ps' = [cl bM 0 [.map (some bm)], cl bF 0 [.slice A a.length k], cl bL 0 [.slice LA l.length lc], cl bO 0 [.int .i64 most], cl bQ 0 [.int .u32 f.p, .slice FA f.a.length fk]] ∧ Os' = [mapO bm .u64 []]))) := by
 refine zSp _ Tryz.func42 Tryz.ntmps42 (fun _ _ _ => ?_)
 refine zX 2 ?_
 intro bq
 refine go_freeze_pt (b := bq) zM ?_
 refine zD 10 ?_ ?_
 ·intro g0
  exfalso; omega
 intro g0
 refine zC 6 (modelOf l LA lc a A k most gl gaf (by omega) (by omega) hbg) ?_
 rintro _ _ _ ⟨A1, k1, r1, e1, hM1, rfl, rfl, rfl⟩
 refine zE 6 [0, 1, 3, 6, 10, 11] ?_
 refine zB 8 ?_ ?_
 ·intro g1
  (try simp only [dcs, ne_eq] at g1)
  refine zT 6 rfl ⟨e1, .nilFunc, ⟨r1, e1, hM1, by rw [if_neg g1]⟩, rfl, .inl ⟨g1, rfl, rfl, rfl⟩⟩
 intro g1
 (try simp only [dcs, ne_eq] at g1)
 refine zL 3 ?_
 refine zC3 0 (queryIs A1 k1 (r1.getD []) f FA fk) ?_
 refine zB 3 ?_ ?_
 ·intro g2
  (try simp only [dcs, ne_eq] at g2)
  refine zE 5 [8, 9] ?_
  refine zT 0 rfl ⟨4, .nilFunc, ⟨r1, e1, hM1, by rw [if_pos g1, if_neg g2]⟩, rfl, .inl ⟨by decide, rfl, rfl, rfl⟩⟩
 intro g2
 (try simp only [dcs, ne_eq] at g2)
 refine zL 6 ?_
 refine zC 1 (impAsker l LA lc gl a A k f FA fk most) ?_
 rintro _ _ _ ⟨bM, bF, bL, bO, bQ, bm, rfl, rfl, rfl⟩
 refine zE 3 [8, 9] ?_
 refine zT 0 rfl ⟨0, _, ⟨r1, e1, hM1, by rw [if_pos g1, if_pos g2]⟩, rfl, .inr ⟨rfl, bM, bF, bL, bO, bQ, bm, rfl, rfl, rfl⟩⟩
theorem impRest (l : List Cl) (LA : Option Addr) (lc : Nat) (gl : ∀ c ∈ l, c.ok) (a : List Fa) (A : Option Addr) (k : Nat) (f : Fa) (FA : Option Addr) (fk : Nat) (most : Int) (gaf : ∀ x ∈ a, x.ok ∧ x.a.length ≤ 100000) (hm : most ≤ 100) (hfl : a.length ≤ 60) (hbg : ∀ c ∈ l, ∀ (F R N : List Fa) (new : Bool), (F.length : Int) ≤ most → (goL c F R N c.b ch0 new).length ≤ 50000000) :
    Spec Tryz.prog 12 #[.slice LA l.length lc, .slice A a.length k, .agg #[.int .u32 f.p, .slice FA f.a.length fk], .int .i64 most] [sl tCl LA lc l, sl tFa A k a, sl tU FA fk f.a] [] (fun v Ps' Os' => ∃ A' c' e, AskR l a f most e ∧ v = .tuple #[.slice A' (if e = 0 then cs (restL (fun g => isW l (kq g a a.length) f most) a.length) else []).length c', .int .i64 e] ∧ Ps' = [sl tI A' c' (if e = 0 then cs (restL (fun g => isW l (kq g a a.length) f most) a.length) else [])] ∧ Os' = []) := by
 refine zSp _ Tryz.func12 Tryz.ntmps12 (fun _ _ _ => ?_)
 refine zX 2 ?_
 intro bq
 refine go_freeze_pt (b := bq) zM ?_
 refine zL 7 ?_
 refine zC 1 (impBegin l LA lc gl a A k f FA fk most gaf hm hfl hbg) ?_
 rintro _ _ _ ⟨e, fv, hE, rfl, ⟨g1, rfl, rfl, rfl⟩ | ⟨rfl, bM, bF, bL, bO, bQ, bm, rfl, rfl, rfl⟩⟩
 ·skip
  refine zE 6 [1, 10, 11] ?_
  refine zR 5 ?_
  refine go_re 23 (.bool true) (by show some (Value.bool _) = _; rw [decide_eq_false g1]; rfl) ?_
  refine zDt 1 ?_
  refine zR 1 ?_
  refine go_sl_nil tI ?_
  refine zT 5 rfl ⟨none, 0, e, hE, by rw [if_neg g1]; rfl, by rw [if_neg g1], rfl⟩
 refine zE 6 [1, 10, 11] ?_
 refine zR 5 ?_
 refine go_re 23 (.bool false) (by show some (Value.bool _) = _; rfl) ?_
 refine zDf 1 ?_
 refine zR 2 ?_
 refine go_len (xs := a) zM (fun la ma => ?_)
 refine go_own_nil tI 3 none ?_
 refine go_same (B := ol tI 3 none 0 (cs (restL (fun g => isW l (kq g a a.length) f most) (0)))) .here (by rfl) ?_
 refine zR 11 ?_
 refine zO (X := Nat × Option Addr × Nat × List (Int × Value)) (fun x => [(12, .slice x.2.1 (cs (restL (fun g => isW l (kq g a a.length) f most) (x.1))).length x.2.2.1), (27, .int .i64 (x.1 : Int))]) [10, 26] (fun x => [ol tI 3 x.2.1 x.2.2.1 (cs (restL (fun g => isW l (kq g a a.length) f most) (x.1))), mapO bm .u64 x.2.2.2]) (fun x => x.1 ≤ a.length ∧ Kn (fun g => isW l (kq g a a.length) f most) x.2.2.2) (fun x => a.length - x.1) (0, none, 0, []) ⟨Nat.zero_le _, Kn.nil _⟩ ?_
 intro ⟨i, A3, c3, m⟩ ⟨hi, hk⟩
 simp only at hi hk ⊢
 have hsl := restL_len (fun g => isW l (kq g a a.length) f most) i
 refine zD' 5 ?_ ?_
 ·intro hq1
  refine zR 2 ?_
  obtain rfl : i = a.length := by omega
  refine go_freeze_ol (xs := cs (restL (fun g => isW l (kq g a a.length) f most) (a.length))) zM ?_
  refine zT 5 rfl ⟨A3, c3, 0, hE, rfl, rfl, rfl⟩
 intro hq1
 refine zR 13 ?_
 refine go_re 32 (.int .u64 ((2 ^ i : Nat) : Int)) (by show some (Value.int _ _) = _; exact congrArg (fun z : Int => some (Value.int IntKind.u64 z)) (one_bit (by omega))) ?_
 refine zC 0 (impAsk1 l LA lc gl a A k f FA fk most bM bF bL bO bQ bm (2 ^ i) m hk (Nat.pow_lt_pow_right (by decide) (by omega)) gaf hm hfl hbg) ?_
 rintro _ _ _ ⟨m2, hK2, rfl, rfl, rfl⟩
 rw [bits_one]
 refine zB' 2 ?_ ?_
 ·intro g3
  (try simp only [dcs, ne_eq] at g3)
  refine zR 6 ?_
  refine go_i64n 27 (i + 1) rfl ?_
  rw [restL_out (W := (fun g => isW l (kq g a a.length) f most)) g3]
  refine zz (i + 1, A3, c3, m2) (⟨by show i + 1 ≤ _; omega, hK2⟩) (by show _ - (i + 1) < _ - i; omega)
 intro g3
 (try simp only [dcs, ne_eq] at g3)
 refine zV 3 ?_
 intro b1
 refine go_append1 (T := tI) (xs := cs (restL (fun g => isW l (kq g a a.length) f most) (i))) Tk ((i : Int)) rfl rfl rfl rfl rfl rfl rfl rfl rfl zM zM rfl ent_int (by omega) zH ?_
 intro A4 c4
 refine zE 2 [10, 12, 26, 27] ?_
 refine zR 5 ?_
 refine go_i64n 27 (i + 1) rfl ?_
 rw [restL_in (W := (fun g => isW l (kq g a a.length) f most)) g3]
 refine zz (i + 1, A4, c4, m2) (⟨by show i + 1 ≤ _; omega, hK2⟩) (by show _ - (i + 1) < _ - i; omega)
end Go.Proofs.YtdconhalfanclaaGreat.SL
namespace Go.Proofs.YtdconhalfanclaaGreat.SL
structure Yld2 (P : Program) (l : Nat) {α : Type} (enc enc2 : α → Value) (Px : List α → α → List PA) (R : List α → OA) : Prop where
  go : ∀ (pre : List α) (x : α) (w : World) (hp ho hf : Heap), Sat w hp ho (Px pre x) [R pre] → hf.le (hpOf w) → hf.dj hp → hf.dj ho →
    ∃ fn tmps assign body, (Instr.yield l #[enc x, enc2 x]).run P w = .ok (.round l fn tmps assign body) w ∧
      RoundIn Fence.wide 0 P l fn tmps assign body w (fun e w' => ∃ hp' ho', e = .returned (.bool true) ∧ Sat w' hp' ho' [] [R (pre ++ [x])] ∧ hp.le hp' ∧ hf.le (hpOf w') ∧ hf.dj hp' ∧ hf.dj ho' ∧ Rest w w')
section
variable {C : Ctx} {k : List It} {E : Env} {Ps : List PA} {Os : List OA}
variable {o : Oper} {ops : Array Oper} {S : World → Prop} {r : Pl} {f : Bool}
theorem go_yieldB {α : Type} {enc enc2 : α → Value} {Px : List α → α → List PA} {R : List α → OA} {l : Nat} (hy : Yld2 C.P l enc enc2 Px R) (pre : List α) (x : α) {fx ax bx : Operand} {tys : Array TypeId} {rr : List OA} (ho : o.op = .call ⟨.value fx, #[ax, bx], tys⟩) (hw : wants ops E o = some true)
    (hfx : ev E fx = some (.func (.yield l) #[] #[])) (hax : ev E ax = some (enc x)) (hbx : ev E bx = some (enc2 x)) (hd : okDst C.N o.dst = true) (hP : Subs Ps (Px pre x)) (hO : Takes Os [R pre] rr)
    (g : Go C (.ops ops S r :: k) (setE o.dst (.bool true) E) Ps (R (pre ++ [x]) :: rr)) : Go C (.ops ops S (.yld o r) :: k) E Ps Os := fun a w hp ho' hf hs hb => by
  show rwp _ _ _ _ _ _ _
  rw [rwp, if_pos (wants_eq hf hw)]
  obtain ⟨h1, h2, a1, b1, c1, d1, e1⟩ := Sep.takes hO hs.os
  obtain ⟨fn, tmps, assign, body, hrun, hround⟩ := hy.go pre x w hp h1 (C.hf.add h2) ⟨hs.inp, a1.tr hs.ino, Heap.dj_le hs.dj (Heap.le_refl _) a1, (hs.ents hP.ents).ps, d1⟩ (Heap.add_le hb.hf (b1.tr hs.ino))
    (Heap.add_dj hb.djp (Heap.dj_symm (Heap.dj_le hs.dj (Heap.le_refl _) b1))) (Heap.add_dj (Heap.dj_le hb.djo (Heap.le_refl _) a1) (Heap.dj_symm c1))
  have hex : (execOp a.eval o).run C.P w = .ok (.round l fn tmps assign body) w := by
    simp [execOp, ho, resolve, hf.ev hfx, hf.ev hax, hf.ev hbx, Deferred.ofValue, invoke, hrun]
  refine ⟨fun _ _ => trivial, ?_⟩
  rw [show Fence.wide.round = none from rfl, Oper.semAt_none, hex, Oper.uponIn_round]
  refine ⟨fun h => by simp [Fence.wide] at h, hround.mono ?_⟩
  rintro e w' ⟨hp', ho2, rfl, hs', hle, hfl, djp, djo, hrest⟩
  have dfo : C.hf.dj h2 := Heap.dj_le hb.djo (Heap.le_refl _) b1
  have l2 : h2.le (C.hf.add h2) := Heap.le_add_right dfo
  have dA : ho2.dj h2 := Heap.dj_symm (Heap.dj_le djo l2 (Heap.le_refl _))
  have dB : hp'.dj h2 := Heap.dj_symm (Heap.dj_le djp l2 (Heap.le_refl _))
  have sat : Sat w' hp' (ho2.add h2) Ps ([R (pre ++ [x])] ++ rr) := ⟨hs'.inp, Heap.add_le hs'.ino (l2.tr hfl), Heap.dj_symm (Heap.add_dj (Heap.dj_symm hs'.dj) (Heap.dj_symm dB)),
    fun p hp0 => p.up hle (hs.ps p hp0), Sep.app (Heap.le_add_left _ _) (Heap.le_add_right dA) dA hs'.os (Sep.up hle e1)⟩
  have base : Base C w' hp' (ho2.add h2) := ⟨hb.hp0.tr hle, (Heap.le_add_left _ _).tr hfl, Heap.dj_le djp (Heap.le_add_left _ _) (Heap.le_refl _),
    Heap.dj_symm (Heap.add_dj (Heap.dj_symm (Heap.dj_le djo (Heap.le_add_left _ _) (Heap.le_refl _))) (Heap.dj_symm dfo)), hb.rest.trans hrest⟩
  exact g _ w' hp' _ (hf.put hd (.bool true)) sat base
end
section
variable {C : Ctx} {k : List It} {E : Env} {Ps : List PA} {Os : List OA}
theorem rounds2 {P : Program} {n l t u : Nat} {α : Type} {enc enc2 : α → Value} {Px : List α → α → List PA} {assign body : Code} {tmps : Array Value} {fn : FuncId} {D : Nat} (O : List α → List OA) (hN : tmps.size = n) (ht : Nat.blt t n = true) (hu : Nat.blt u n = true) (hE : ∀ d v, look E d = some v → tmps[d]? = some v)
    {X : Type} (chg : X → Env) (rest : Env) (O1 : List α → α → X → List OA) (J : List α → α → X → Prop)
    (ha : ∀ pre x w0 hp0 hf0, Go (rc P n l w0 hp0 hf0) [.code assign, .back (Bk (rc P n l w0 hp0 hf0) chg rest (fun _ => Px pre x ++ Ps) (O1 pre x) (J pre x) (fun _ => 0) 1)] ((u, enc2 x) :: (t, enc x) :: E) (Px pre x ++ Ps) (O pre))
    (hb : ∀ pre x y, J pre x y → ∀ w0 hp0 hf0, Go (rc P n l w0 hp0 hf0) [.code body, .back (Bk (rc P n l w0 hp0 hf0) (fun _ : Unit => []) [] (fun _ => Ps) (fun _ => O (pre ++ [x])) (fun _ => True) (fun _ => 0) 1)] (chg y ++ rest) (Px pre x ++ Ps) (O1 pre x y)) :
    Yld2 P l enc enc2 Px (fun pre => loopA Ps l { state := .ready, pending := none, fn, tmps, params := #[t, u], assign, body, defers := D } (O pre)) := ⟨fun pre x w hp ho hf hs hfw d1 d2 => by
  generalize hrec : ({ state := .ready, pending := none, fn, tmps, params := #[t, u], assign, body, defers := D } : Loop) = rec at *
  obtain ⟨g1, _, la, _, _, ⟨hps, h2, lb, lr, dr, sO⟩, _⟩ := hs.os
  have lro : (Heap.one l (.loop rec)).le ho := lr.tr la
  have hl : w.heap[l]? = some (.loop rec) := hs.ino _ _ (lro _ _ (one_at _ _))
  have hyr := run_yield (P := P) (args := #[enc x, enc2 x]) hl (by rw [← hrec]; rfl)
  refine ⟨_, _, _, _, hyr, ?_⟩
  have dfr : hf.dj (Heap.one l (.loop rec)) := Heap.dj_le d2 (Heap.le_refl _) lro
  have dpr : hp.dj (Heap.one l (.loop rec)) := Heap.dj_le hs.dj (Heap.le_refl _) lro
  have lO : h2.le ho := lb.tr la
  have fl : hf l = none := by
    rcases dfr l with q | q
    · exact q
    · rw [one_at] at q; cases q
  refine roundIn_of_wpIn (F := Fence.wide) (n := 0) trivial ?_
  have hfit : Fits ⟨n, []⟩ ((u, enc2 x) :: (t, enc x) :: E) { tmps := (rec.params.zip #[enc x, enc2 x]).foldl (fun tmps (t, a) => tmps.setIfInBounds t a) rec.tmps, defers := [] } := by
    have hz : (rec.params.zip #[enc x, enc2 x]).foldl (fun tmps (t, a) => tmps.setIfInBounds t a) rec.tmps = (tmps.setIfInBounds t (enc x)).setIfInBounds u (enc2 x) := by rw [← hrec]; simp
    rw [hz]
    have f0 : Fits ⟨n, []⟩ E { tmps := tmps, defers := [] } := ⟨hN, rfl, hE⟩
    exact (f0.put (d := some t) ht (enc x)).put (d := some u) hu (enc2 x)
  have hpx : ∀ p, p ∈ Px pre x ++ Ps → p.p hp := fun p hm => by
    rcases List.mem_append.1 hm with q | q
    · exact hs.ps p q
    · exact hps p q
  have sat1 : Sat w hp h2 (Px pre x ++ Ps) (O pre) := ⟨hs.inp, lO.tr hs.ino, Heap.dj_le hs.dj (Heap.le_refl _) lO, hpx, sO⟩
  have hfr : (hf.add (Heap.one l (.loop rec))).le (hpOf w) := Heap.add_le hfw (lro.tr hs.ino)
  have base1 : Base (rc P n l w hp (hf.add (Heap.one l (.loop rec)))) w hp h2 := ⟨Heap.le_refl _, hfr, Heap.add_dj d1 (Heap.dj_symm dpr), Heap.add_dj (Heap.dj_le d2 (Heap.le_refl _) lO) dr, .refl _⟩
  have step1 := ha pre x w hp (hf.add (Heap.one l (.loop rec))) _ w hp h2 hfit sat1 base1
  rw [show rec.assign = assign from by rw [← hrec], show rec.body = body from by rw [← hrec]]
  refine wpIn_mono (show assign.wpIn (Fence.wide.inRound l) 0 P _ _ w from step1) fun e a1 w1 q => ?_
  cases e with
  | normal =>
    obtain ⟨y, hp1, ho1, f1, s1, b1, j1, _⟩ := q
    have hl1 : w1.heap[l]? = some (.loop rec) := b1.hf _ _ (Heap.le_add_right dfr _ _ (one_at _ _))
    refine ⟨_, run_beginRound hl1 (by rw [← hrec]), ?_⟩
    have r1 : (Heap.one l (.loop rec)).dj hp1 := Heap.dj_le b1.djp (Heap.le_add_right dfr) (Heap.le_refl _)
    have r2 : (Heap.one l (.loop rec)).dj ho1 := Heap.dj_le b1.djo (Heap.le_add_right dfr) (Heap.le_refl _)
    have r3 : hf.dj hp1 := Heap.dj_le b1.djp (Heap.le_add_left _ _) (Heap.le_refl _)
    have r4 : hf.dj ho1 := Heap.dj_le b1.djo (Heap.le_add_left _ _) (Heap.le_refl _)
    have dfb : ∀ o', hf.dj (Heap.one l o') := fun o' => Heap.dj_symm (dj_one (Heap.dj_symm dfr))
    have step2 := hb pre x y j1 (w1.putObj l (.loop { rec with state := .busy })) hp1 (hf.add (Heap.one l (.loop { rec with state := .busy }))) a1 _ hp1 ho1 f1
      ⟨put_le s1.inp (dj_at r1 (one_at _ _)), put_le s1.ino (dj_at r2 (one_at _ _)), s1.dj, s1.ps, s1.os⟩
      ⟨Heap.le_refl _, Heap.add_le (put_le ((Heap.le_add_left _ _).tr b1.hf) fl) (put_one hl1), Heap.add_dj r3 (dj_one r1), Heap.add_dj r4 (dj_one r2), .refl _⟩
    refine wpIn_mono (show body.wpIn (Fence.wide.inRound l) 0 P _ _ _ from step2) fun e2 a2 w3 q2 => ?_
    cases e2 with
    | normal =>
      obtain ⟨_, hp3, ho3, f3, s3, b3, _, _⟩ := q2
      have hl3 : w3.heap[l]? = some (.loop { rec with state := .busy }) := b3.hf _ _ (Heap.le_add_right (dfb _) _ _ (one_at _ _))
      have he := run_endRound (P := P) none hl3
      have hrr : ({ { rec with state := LoopState.busy } with state := if (none : Option Code).isNone then LoopState.ready else LoopState.done, pending := none } : Loop) = rec := by rw [← hrec]; rfl
      rw [hrr] at he
      refine ⟨_, _, he, ?_⟩
      have t1 : (Heap.one l (.loop { rec with state := .busy })).dj hp3 := Heap.dj_le b3.djp (Heap.le_add_right (dfb _)) (Heap.le_refl _)
      have t2 : (Heap.one l (.loop { rec with state := .busy })).dj ho3 := Heap.dj_le b3.djo (Heap.le_add_right (dfb _)) (Heap.le_refl _)
      have t3 : hf.dj hp3 := Heap.dj_le b3.djp (Heap.le_add_left _ _) (Heap.le_refl _)
      have t4 : hf.dj ho3 := Heap.dj_le b3.djo (Heap.le_add_left _ _) (Heap.le_refl _)
      have dN : (Heap.one l (.loop rec)).dj ho3 := dj_one t2
      refine ⟨hp3, (Heap.one l (.loop rec)).add ho3, rfl, ⟨put_le s3.inp (dj_at t1 (one_at _ _)), Heap.add_le (put_one hl3) (put_le s3.ino (dj_at t2 (one_at _ _))), Heap.dj_symm (Heap.add_dj (dj_one t1) (Heap.dj_symm s3.dj)), (fun _ h => nomatch h),
          sep_one ⟨s3.ps, ho3, Heap.le_add_right dN, Heap.le_add_left _ _, dN, s3.os⟩⟩, b1.hp0.tr b3.hp0, put_le ((Heap.le_add_left _ _).tr b3.hf) fl, t3, Heap.dj_symm (Heap.add_dj (Heap.dj_symm (dfb _)) (Heap.dj_symm t4)),
          (b1.rest.trans put_rest).trans (b3.rest.trans put_rest)⟩
    | exit i => exact q2.elim
    | goto i => exact q2.elim
    | ret => exact q2.elim
    | panic c => exact q2.elim
    | outgrown => exact q2.elim
  | exit i => exact q.elim
  | goto i => exact q.elim
  | ret => exact q.elim
  | panic c => exact q.elim
  | outgrown => exact q.elim⟩
theorem go_range2 {α : Type} {enc enc2 : α → Value} {Px : List α → α → List PA} {g : Operand} {t u : Nat} {assign body : Code} {gf : FuncId} {first cap : Array Value} (hro : C.ro = none) (hg : ev E g = some (.func (.func gf) first cap)) (ht : Nat.blt t C.N.n = true) (hu : Nat.blt u C.N.n = true)
    (O : List α → List OA) (OsI OsI' : List OA) {r1 rr : List OA} (hO1 : Takes Os OsI r1) (hO2 : Takes r1 (O []) rr) (PsI : List PA) (hP : Subs Ps PsI) (Sx : List α → Prop)
    (hseq : ∀ (l : Nat) (R : List α → OA), Yld2 C.P l enc enc2 Px R → Spec C.P gf (first ++ #[.func (.yield l) #[] #[]] ++ cap) PsI (R [] :: OsI) (fun v Ps' Os' => ∃ xs, Sx xs ∧ Ps' = [] ∧ Os' = R xs :: OsI'))
    {X : Type} (chg : X → Env) (rest : Env) (O1 : List α → α → X → List OA) (J : List α → α → X → Prop)
    (ha : ∀ l pre x w0 hp0 hf0, Go (rc C.P C.N.n l w0 hp0 hf0) [.code assign, .back (Bk (rc C.P C.N.n l w0 hp0 hf0) chg rest (fun _ => Px pre x ++ Ps) (O1 pre x) (J pre x) (fun _ => 0) 1)] ((u, enc2 x) :: (t, enc x) :: E) (Px pre x ++ Ps) (O pre))
    (hb : ∀ l pre x y, J pre x y → ∀ w0 hp0 hf0, Go (rc C.P C.N.n l w0 hp0 hf0) [.code body, .back (Bk (rc C.P C.N.n l w0 hp0 hf0) (fun _ : Unit => []) [] (fun _ => Ps) (fun _ => O (pre ++ [x])) (fun _ => True) (fun _ => 0) 1)] (chg y ++ rest) (Px pre x ++ Ps) (O1 pre x y))
    (done : ∀ D xs, C.hf.dj (Heap.one D (.deferred (some []))) → Sx xs → Go (after C D) k E Ps (OsI' ++ (O xs ++ rr))) : Go C (.code (.rangeFunc g #[t, u] assign body) :: k) E Ps Os := by
  obtain ⟨P, fn, N, ro, w0, hp0, hf0, Q, fin, pan, out⟩ := C
  cases hro
  intro a w hp ho hf hs hb'
  obtain ⟨hI, hr1, aI, ar1, dI, sI, sr1⟩ := Sep.takes hO1 hs.os
  obtain ⟨hO, hR, aO, aR, dO, sO, sR⟩ := Sep.takes hO2 sr1
  show (Code.rangeFunc g #[t, u] assign body).wpIn Fence.wide 0 P (den none P fin k) a w
  refine wpIn_rangeFunc fun fnid _ => ?_
  generalize hrec : ({ state := .ready, pending := none, fn := fnid, tmps := a.tmps, params := #[t, u], assign, body, defers := w.heap.size } : Loop) = rec
  have hY := rounds2 (Ps := Ps) (E := E) (Px := Px) (P := P) (n := N.n) (l := w.heap.size + 1) (t := t) (u := u) (enc := enc) (enc2 := enc2) (assign := assign) (body := body) (tmps := a.tmps) (fn := fnid) (D := w.heap.size) O hf.size ht hu hf.at_ chg rest O1 J (ha _) (hb _)
  rw [hrec] at hY
  have hsp := hseq (w.heap.size + 1) _ hY
  obtain ⟨fd, q1, q2, q3⟩ := hsp.fn
  have hres : (resolve a.eval (rangeCall g (w.heap.size + 1)) 0).run P ((w.alloc (.deferred (some []))).alloc (.loop rec)) = .ok { target := .fn (.func gf) cap, args := first ++ #[.func (.yield (w.heap.size + 1)) #[] #[]] } ((w.alloc (.deferred (some []))).alloc (.loop rec)) := by
    have hg' : a.eval g = .func (.func gf) first cap := hf.ev hg
    show (Deferred.ofValue (a.eval g) (#[Operand.const (.func (.yield (w.heap.size + 1)) #[] #[])].map a.eval)).run P _ = _
    rw [hg']
    simp [Deferred.ofValue, Act.eval]
  have hinv : (invoke (.fn (.func gf) cap) (first ++ #[.func (.yield (w.heap.size + 1)) #[] #[]])).run P ((w.alloc (.deferred (some []))).alloc (.loop rec)) = .ok (.enter gf (first ++ #[.func (.yield (w.heap.size + 1)) #[] #[]] ++ cap)) ((w.alloc (.deferred (some []))).alloc (.loop rec)) := by
    simp only [invoke, callFunc, program, bind, Sem.bind, Sem.run, q1, q2, q3]
    simp only [Bool.false_eq_true, if_false]
    rfl
  refine ⟨_, _, _, _, _, gf, _, _, by have := run_enterLoop_outer (P := P) (w := w) fnid a.tmps #[t, u] assign body; rw [hrec] at this; exact this, hres, fun _ _ => trivial, hinv, fun h => by simp [Fence.wide] at h, ?_⟩
  have hwsz : ((w.alloc (.deferred (some []))).alloc (.loop rec)).heap = (w.heap.push (.deferred (some []))).push (.loop rec) := rfl
  have fresh : ∀ h : Heap, h.le (hpOf w) → ∀ b, w.heap.size ≤ b → h b = none := fun h hl b hb => by
    cases e : h b with
    | none => rfl
    | some u => have := hl _ _ e; simp [hpOf] at this; have := (Array.getElem?_eq_some_iff.1 this).1; omega
  have grow : (hpOf w).le (hpOf ((w.alloc (.deferred (some []))).alloc (.loop rec))) := fun b u e => by
    have hlt : b < w.heap.size := (Array.getElem?_eq_some_iff.1 e).1
    simp only [hpOf, hwsz] at e ⊢
    rw [Array.getElem?_push_lt (by simp; omega)]
    simp only [Option.some.injEq]
    rw [Array.getElem_push_lt hlt]
    exact (Array.getElem?_eq_some_iff.1 e).2
  have hD : ((w.alloc (.deferred (some []))).alloc (.loop rec)).heap[w.heap.size]? = some (.deferred (some [])) := by
    rw [hwsz, Array.getElem?_push, Array.getElem?_push]; simp
  have hL : ((w.alloc (.deferred (some []))).alloc (.loop rec)).heap[w.heap.size + 1]? = some (.loop rec) := by
    rw [hwsz, Array.getElem?_push, if_pos (by simp)]
  have oneD : (Heap.one w.heap.size (.deferred (some []))).le (hpOf ((w.alloc (.deferred (some []))).alloc (.loop rec))) := Heap.one_le hD
  have oneL : (Heap.one (w.heap.size + 1) (.loop rec)).le (hpOf ((w.alloc (.deferred (some []))).alloc (.loop rec))) := Heap.one_le hL
  have djD : ∀ h : Heap, h.le (hpOf w) → (Heap.one w.heap.size (.deferred (some []))).dj h := fun h hl => Heap.one_dj (fresh h hl _ (Nat.le_refl _))
  have djL : ∀ h : Heap, h.le (hpOf w) → ∀ o', (Heap.one (w.heap.size + 1) o').dj h := fun h hl o' => Heap.one_dj (fresh h hl _ (by omega))
  have djDL : ∀ o', (Heap.one w.heap.size (.deferred (some []))).dj (Heap.one (w.heap.size + 1) o') := fun o' => Heap.one_dj (by simp [Heap.one])
  have hr0 : Rest w ((w.alloc (.deferred (some []))).alloc (.loop rec)) := ⟨rfl, rfl, rfl, Nat.le_refl _, by rw [hwsz]; simp; omega⟩
  have lI : hI.le (hpOf w) := aI.tr hs.ino
  have lr1 : hr1.le (hpOf w) := ar1.tr hs.ino
  have lO : hO.le (hpOf w) := aO.tr lr1
  have lR : hR.le (hpOf w) := aR.tr lr1
  -- the owned of the call: the record, the body's, the iterator's
  have dLO : (Heap.one (w.heap.size + 1) (.loop rec)).dj hO := djL _ lO _
  have dIO : hI.dj hO := Heap.dj_le dI (Heap.le_refl _) aO
  have dIR : hI.dj hR := Heap.dj_le dI (Heap.le_refl _) aR
  have dX : ((Heap.one (w.heap.size + 1) (.loop rec)).add hO).dj hI := Heap.add_dj (djL _ lI _) (Heap.dj_symm dIO)
  have dpO : hp.dj hO := Heap.dj_le hs.dj (Heap.le_refl _) (aO.tr ar1)
  have dpI : hp.dj hI := Heap.dj_le hs.dj (Heap.le_refl _) aI
  have dpR : hp.dj hR := Heap.dj_le hs.dj (Heap.le_refl _) (aR.tr ar1)
  have satI : Sat ((w.alloc (.deferred (some []))).alloc (.loop rec)) hp (((Heap.one (w.heap.size + 1) (.loop rec)).add hO).add hI) PsI (loopA Ps (w.heap.size + 1) rec (O []) :: OsI) :=
    ⟨hs.inp.tr grow, Heap.add_le (Heap.add_le oneL (lO.tr grow)) (lI.tr grow), Heap.dj_symm (Heap.add_dj (Heap.add_dj (djL _ hs.inp _) (Heap.dj_symm dpO)) (Heap.dj_symm dpI)), (hs.ents hP.ents).ps,
      (Heap.one (w.heap.size + 1) (.loop rec)).add hO, hI, Heap.le_add_left _ _, Heap.le_add_right dX, dX, ⟨hs.ps, hO, Heap.le_add_right dLO, Heap.le_add_left _ _, dLO, sO⟩, sI⟩
  have fI : hf0.dj hI := Heap.dj_le hb'.djo (Heap.le_refl _) aI
  have fO : hf0.dj hO := Heap.dj_le hb'.djo (Heap.le_refl _) (aO.tr ar1)
  have fR : hf0.dj hR := Heap.dj_le hb'.djo (Heap.le_refl _) (aR.tr ar1)
  have hfw : hf0.le (hpOf w) := hb'.hf
  -- the frame of the call
  have dFD : (hf0.add hR).dj (Heap.one w.heap.size (.deferred (some []))) := Heap.dj_symm (Heap.dj_symm (Heap.add_dj (Heap.dj_symm (djD _ hfw)) (Heap.dj_symm (djD _ lR))))
  have frame : ((hf0.add hR).add (Heap.one w.heap.size (.deferred (some [])))).le (hpOf ((w.alloc (.deferred (some []))).alloc (.loop rec))) := Heap.add_le (Heap.add_le (hfw.tr grow) (lR.tr grow)) oneD
  have fdp : ((hf0.add hR).add (Heap.one w.heap.size (.deferred (some [])))).dj hp := Heap.add_dj (Heap.add_dj hb'.djp (Heap.dj_symm dpR)) (djD _ hs.inp)
  have fdo : ((hf0.add hR).add (Heap.one w.heap.size (.deferred (some [])))).dj (((Heap.one (w.heap.size + 1) (.loop rec)).add hO).add hI) :=
    Heap.dj_symm (Heap.add_dj (Heap.add_dj (Heap.dj_symm (Heap.add_dj (Heap.add_dj (Heap.dj_symm (djL _ hfw _)) (Heap.dj_symm (djL _ lR _))) (djDL _))) (Heap.dj_symm (Heap.add_dj (Heap.add_dj fO (Heap.dj_symm dO)) (djD _ lO)))) (Heap.dj_symm (Heap.add_dj (Heap.add_dj fI (Heap.dj_symm dIR)) (djD _ lI))))
  refine (callsIn_wide.2 (hsp.calls _ hp _ _ satI frame fdp fdo)).mono ?_
  rintro e w3 ⟨v, hp3, ho3, Ps3, Os3, rfl, ⟨xs, hxs, rfl, rfl⟩, hs3, hle3, hfl3, e1, e2, hr3⟩
  obtain ⟨gA, gI, mA, mI, dAI, ⟨hps3, gO, mO, mL, dLO3, sO3⟩, sI3⟩ := hs3.os
  have mLo : (Heap.one (w.heap.size + 1) (.loop rec)).le ho3 := mL.tr mA
  have hl3 : w3.heap[w.heap.size + 1]? = some (.loop rec) := hs3.ino _ _ (mLo _ _ (one_at _ _))
  have hend := run_endLoop (P := P) hl3 (by rw [← hrec]; simp)
  refine ⟨_, _, hend, ?_⟩
  rw [show rec.pending = none from by rw [← hrec]]
  have lR3 : hR.le ((hf0.add hR).add (Heap.one w.heap.size (.deferred (some [])))) := (Heap.le_add_right fR).tr (Heap.le_add_left _ _)
  have lF3 : (hf0.add (Heap.one w.heap.size (.deferred (some [])))).le ((hf0.add hR).add (Heap.one w.heap.size (.deferred (some [])))) := Heap.add_le ((Heap.le_add_left _ _).tr (Heap.le_add_left _ _)) (Heap.le_add_right dFD)
  have dL3 : ∀ h : Heap, h.dj ho3 → h (w.heap.size + 1) = none := fun h d => by
    rcases d (w.heap.size + 1) with q | q
    · exact q
    · rw [mLo _ _ (one_at _ _)] at q; cases q
  have oA : gO.le ho3 := mO.tr mA
  have dOI : gI.dj gO := Heap.dj_symm (Heap.dj_le dAI mO (Heap.le_refl _))
  have dRx : hR.dj ho3 := Heap.dj_le e2 lR3 (Heap.le_refl _)
  have dOR : gO.dj hR := Heap.dj_symm (Heap.dj_le dRx (Heap.le_refl _) oA)
  have dIR3 : gI.dj hR := Heap.dj_symm (Heap.dj_le dRx (Heap.le_refl _) mI)
  have dI3 : gI.dj (gO.add hR) := Heap.dj_symm (Heap.add_dj (Heap.dj_symm dOI) (Heap.dj_symm dIR3))
  have nO : gO (w.heap.size + 1) = none := dj_at dLO3 (one_at _ _)
  have nI : gI (w.heap.size + 1) = none := by
    rcases dAI (w.heap.size + 1) with q | q
    · rw [mL _ _ (one_at _ _)] at q; cases q
    · exact q
  refine done w.heap.size xs (Heap.dj_symm (djD _ hfw)) hxs { a with defers := { target := .collected w.heap.size, args := #[] } :: a.defers } (w3.putObj (w.heap.size + 1) _) hp3 (gI.add (gO.add hR)) ⟨hf.size, by show _ :: a.defers = _ :: N.ds; rw [hf.dfs], hf.at_⟩ ?_ ?_
  · refine ⟨put_le hs3.inp (dL3 _ hs3.dj), Heap.add_le (put_le (mI.tr hs3.ino) nI) (Heap.add_le (put_le (oA.tr hs3.ino) nO) (put_le (lR3.tr hfl3) (dL3 _ dRx))), ?_, hps3, ?_⟩
    · exact Heap.dj_symm (Heap.add_dj (Heap.dj_symm (Heap.dj_le hs3.dj (Heap.le_refl _) mI)) (Heap.add_dj (Heap.dj_symm (Heap.dj_le hs3.dj (Heap.le_refl _) oA)) (Heap.dj_le e1 lR3 (Heap.le_refl _))))
    · exact Sep.app (Heap.le_add_left _ _) (Heap.le_add_right dI3) dI3 sI3 (Sep.app (Heap.le_add_left _ _) (Heap.le_add_right dOR) dOR sO3 (Sep.up hle3 sR))
  · have dF1 : (hf0.add (Heap.one w.heap.size (.deferred (some [])))).dj ho3 := Heap.dj_le e2 lF3 (Heap.le_refl _)
    refine ⟨hb'.hp0.tr hle3, put_le (lF3.tr hfl3) (dL3 _ dF1), Heap.dj_le e1 lF3 (Heap.le_refl _), ?_, ((hb'.rest.trans hr0).trans hr3).trans put_rest⟩
    refine Heap.dj_symm (Heap.add_dj (Heap.dj_symm (Heap.dj_le dF1 (Heap.le_refl _) mI)) (Heap.add_dj (Heap.dj_symm (Heap.dj_le dF1 (Heap.le_refl _) oA)) ?_))
    exact Heap.dj_symm (Heap.add_dj fR (djD _ lR))
end
end Go.Proofs.YtdconhalfanclaaGreat.SL
namespace Go.Proofs.YtdconhalfanclaaGreat.SL
open Go Md
theorem reverseI (A : Option Addr) (c : Nat) (l : List Int) (hn : l.length ≤ 1000000000) :
    Spec Tryz.prog 44 #[.slice A l.length c] [] [ol tI 3 A c (l)] (fun v Ps' Os' => v = .tuple #[] ∧ Ps' = [] ∧ Os' = [ol tI 3 A c (l.reverse)]) := by
 refine zSp _ Tryz.func44 Tryz.ntmps44 (fun _ _ _ => ?_)
 refine zR 1 ?_
 refine go_len_ol (xs := l) zM (fun l0 m0 => ?_)
 refine go_same (B := ol tI 3 A c (revP l 0)) .here (by rw [← revP_zero]) ?_
 refine zR 4 ?_
 refine zi 6 ?_
 refine zR 3 ?_
 refine go_re 3 (.int .i64 ((l.length : Int) - 1 - ((0 : Nat) : Int))) (congrArg (fun z : Int => some (Value.int IntKind.i64 z)) (show (l.length : Int) - 1 = (l.length : Int) - 1 - ((0 : Nat) : Int) by omega)) ?_
 refine zR 1 ?_
 refine zO (X := Nat) (fun x => [(2, .int .i64 (x : Int)), (3, .int .i64 ((l.length : Int) - 1 - (x : Int)))]) [0] (fun x => [ol tI 3 A c (revP l x)]) (fun x => x ≤ l.length) (fun x => l.length - x) 0 (Nat.zero_le _) ?_
 intro i hi
 have hrl := revP_len l i
 refine zD' 7 ?_ ?_
 ·intro g1
  refine go_same (B := ol tI 3 A c (l.reverse)) .here (by rw [revP_end (by omega)]) ?_
  refine zT 1 rfl ⟨rfl, rfl, rfl⟩
 intro g1
 refine zR 3 ?_
 refine go_ol_addr (xs := revP l i) zM (by omega) (fun bL hL => ?_); subst hL
 obtain ⟨jj, hjj⟩ : ∃ jj, jj = l.length - 1 - i := ⟨_, rfl⟩
 refine go_re 3 (.int .i64 ((jj : Int))) (congrArg (fun z : Int => some (Value.int IntKind.i64 z)) (show (l.length : Int) - 1 - (i : Int) = (jj : Int) by omega)) ?_
 refine zY 0 [1, 4, 7, 10, 13, 16, 19, 25, 28, 31, 23, 35, 37, 39, 43, 45] ?_
 refine zIn 6 jj ?_
 refine zIn 2 i ?_
 refine zLm 0 jj (revP l i) ?_
 refine zLm 0 i (revP l i) ?_
 refine zIn 0 i ?_
 refine zSE 0 (tInt .i64) (revP l i) i (gt0 (revP l i) jj) ent_int ?_
 refine zIn 0 jj ?_
 refine zSE 0 (tInt .i64) ((revP l i).set i (gt0 (revP l i) jj)) jj (gt0 (revP l i) i) ent_int ?_
 refine zE 1 [0, 2, 3] ?_
 refine zR 9 ?_
 refine go_i64n 2 (i + 1) rfl ?_
 refine zi 3 ?_
 refine go_re 3 (.int .i64 ((l.length : Int) - 1 - ((i + 1 : Nat) : Int))) (congrArg (fun z : Int => some (Value.int IntKind.i64 z)) (show (jj : Int) - 1 = (l.length : Int) - 1 - ((i + 1 : Nat) : Int) by omega)) ?_
 refine go_same (B := ol tI 3 (some ⟨bL, 0, none⟩) c (revP l (i + 1))) .here (by rw [hjj, revP_next (by omega)]) ?_
 refine zz (i + 1) (by omega) (by omega)
theorem backwardF (A : Option Addr) (n c : Nat) :
    Spec Tryz.prog 43 #[.slice A n c] [] [] (fun v Ps' Os' => ∃ bV, v = .func (.func 77) #[] #[.pointer (some ⟨bV, 0, none⟩)] ∧ Ps' = [cl bV 0 [.slice A n c]] ∧ Os' = []) := by
 refine zSp _ Tryz.func43 Tryz.ntmps43 (fun _ _ _ => ?_)
 refine zX 2 ?_
 intro bV
 refine zR 2 ?_
 refine go_freeze_pt (b := bV) zM ?_
 refine zT 5 rfl ⟨bV, rfl, rfl, rfl⟩
theorem backward1 (bV : Nat) (A : Option Addr) (c : Nat) (l : List Fa) (ly : Nat) (R : List (Nat × Value) → OA) (hY : Yld2 Tryz.prog ly (fun x : Nat × Value => Value.int .i64 (x.1 : Int)) (fun x : Nat × Value => x.2) (fun (pre : List (Nat × Value)) (x : Nat × Value) => [PA.and (pre.length < l.length ∧ x.1 = l.length - 1 - pre.length) PA.tt]) R) :
    Spec Tryz.prog 77 #[.func (.yield ly) #[] #[], .pointer (some ⟨bV, 0, none⟩)] [cl bV 0 [.slice A l.length c], sl tFa A c l] [R []] (fun v Ps' Os' => ∃ xs : List (Nat × Value), xs.length = l.length ∧ v = .tuple #[] ∧ Ps' = [] ∧ Os' = [R xs]) := by
 refine zSp _ Tryz.func77 Tryz.ntmps77 (fun _ _ _ => ?_)
 refine zR 1 ?_
 refine go_len (xs := l) zM (fun l0 m0 => ?_)
 refine zL 1 ?_
 refine zR 2 ?_
 refine zi 6 ?_
 refine zR 2 ?_
 refine go_re 3 (.int .i64 ((l.length : Int) - 1 - ((0 : Nat) : Int))) (congrArg (fun z : Int => some (Value.int IntKind.i64 z)) (show (l.length : Int) - 1 = (l.length : Int) - 1 - ((0 : Nat) : Int) by omega)) ?_
 refine zR 1 ?_
 refine zO (X := Nat × List (Nat × Value)) (fun x => [(3, .int .i64 ((l.length : Int) - 1 - (x.1 : Int)))]) [0, 1] (fun x => [R x.2]) (fun x => x.1 ≤ l.length ∧ x.2.length = x.1) (fun x => l.length - x.1) (0, []) ⟨Nat.zero_le _, rfl⟩ ?_
 intro ⟨k, pre⟩ ⟨hk, hpl⟩
 simp only at hk hpl ⊢
 refine zD' 6 ?_ ?_
 ·intro g1
  refine zT 1 rfl ⟨pre, by omega, rfl, rfl, rfl⟩
 intro g1
 refine zR 4 ?_
 obtain ⟨jj, hjj⟩ : ∃ jj, jj = l.length - 1 - k := ⟨_, rfl⟩
 refine go_re 3 (.int .i64 ((jj : Int))) (congrArg (fun z : Int => some (Value.int IntKind.i64 z)) (show (l.length : Int) - 1 - (k : Int) = (jj : Int) by omega)) ?_
 refine go_elem_fa (xs := l) zM (jj) (List.getElem?_eq_getElem (by omega)) (fun b0 o0 A0 c0 hA => ?_); cases hA
 refine go_ent (PA.and (pre.length < l.length ∧ jj = l.length - 1 - pre.length) PA.tt) (fun hh a => ⟨⟨by omega, by omega⟩, trivial⟩) ?_
 refine go_regionY [false, false, false, false, false, false, true] rfl ?_
 refine zL 2 ?_
 refine zI 1 ?_
 refine zL 0 ?_
 refine go_yieldB hY (pre) ((jj, .agg #[.int .u32 l[jj].p, .slice A0 l[jj].a.length c0])) rfl rfl rfl rfl rfl rfl zM zM ?_
 refine zR 1 ?_
 refine go_re 18 (.bool false) (by show some (Value.bool _) = _; rfl) ?_
 refine zDf 1 ?_
 refine zR 7 ?_
 refine zi 3 ?_
 refine go_re 3 (.int .i64 ((l.length : Int) - 1 - ((k + 1 : Nat) : Int))) (congrArg (fun z : Int => some (Value.int IntKind.i64 z)) (show (jj : Int) - 1 = (l.length : Int) - 1 - ((k + 1 : Nat) : Int) by omega)) ?_
 refine go_back (k + 1, _) zA zM zM (⟨by show k + 1 ≤ _; omega, by simp [hpl]⟩) (by show _ - (k + 1) < _ - k; omega)
set_option maxHeartbeats 8000000 in
theorem impKeys (l : List Cl) (LA : Option Addr) (lc : Nat) (gl : ∀ c ∈ l, c.ok) (a : List Fa) (A : Option Addr) (k : Nat) (f : Fa) (FA : Option Addr) (fk : Nat) (most : Int) (gaf : ∀ x ∈ a, x.ok ∧ x.a.length ≤ 100000) (hm : most ≤ 100) (hfl : a.length ≤ 60) (hbg : ∀ c ∈ l, ∀ (F R N : List Fa) (new : Bool), (F.length : Int) ≤ most → (goL c F R N c.b ch0 new).length ≤ 50000000) :
    Spec Tryz.prog 11 #[.slice LA l.length lc, .slice A a.length k, .agg #[.int .u32 f.p, .slice FA f.a.length fk], .int .i64 most] [sl tCl LA lc l, sl tFa A k a, sl tU FA fk f.a] [] (fun v Ps' Os' => ∃ A' c' e, AskR l a f most e ∧ v = .tuple #[.slice A' (if e = 0 then cs (keysP (fun g => isW l (kq g a a.length) f most) a.length a.length) else []).length c', .int .i64 e] ∧ Ps' = [sl tI A' c' (if e = 0 then cs (keysP (fun g => isW l (kq g a a.length) f most) a.length a.length) else [])] ∧ Os' = []) := by
 refine zSp _ Tryz.func11 Tryz.ntmps11 (fun _ _ _ => ?_)
 refine zX 2 ?_
 intro bq
 refine go_freeze_pt (b := bq) zM ?_
 refine zL 7 ?_
 refine zC 1 (impBegin l LA lc gl a A k f FA fk most gaf hm hfl hbg) ?_
 rintro _ _ _ ⟨e, fv, hE, rfl, ⟨g1, rfl, rfl, rfl⟩ | ⟨rfl, bM, bF, bL, bO, bQ, bm, rfl, rfl, rfl⟩⟩
 ·skip
  refine zW 3 ?_
  intro b10
  refine zS 0 ?_
  refine zE 2 [1, 10, 11] ?_
  refine zR 5 ?_
  refine go_re 24 (.bool true) (by show some (Value.bool _) = _; rw [decide_eq_false g1]; rfl) ?_
  refine zDt 1 ?_
  refine zR 1 ?_
  refine go_sl_nil tI ?_
  refine zT 5 rfl ⟨none, 0, e, hE, by rw [if_neg g1]; rfl, by rw [if_neg g1], rfl⟩
 refine zW 3 ?_
 intro b10
 refine zS 0 ?_
 refine zE 2 [1, 10, 11] ?_
 refine zR 5 ?_
 refine go_re 24 (.bool false) (by show some (Value.bool _) = _; rfl) ?_
 refine zDf 1 ?_
 refine zR 2 ?_
 refine go_freeze_pt (b := b10) zM ?_
 refine go_len (xs := a) zM (fun la ma => ?_)
 refine zW 1 ?_
 intro b12
 refine zW 3 ?_
 intro b13
 refine zR 3 ?_
 refine go_own_nil tI 3 none ?_
 refine go_fold [pt b13 41 [.slice none 0 0], ol tI 3 none 0 []] (ptI b13 41 3 (cs (outK (fun g => isW l (kq g a a.length) f most) a.length (0)))) zM (fun _ _ q => ⟨none, 0, q⟩) ?_
 refine go_fold [mapO bm .u64 []] (knO (fun g => isW l (kq g a a.length) f most) bm) zM (fun _ _ q => knO_mk (Kn.nil _) q) ?_
 refine go_same (A := pt b12 94 [.int .u64 0]) (B := pt b12 94 [.int .u64 ((goneN (fun g => isW l (kq g a a.length) f most) a.length (0) : Nat) : Int)]) zM (by rfl) ?_
 refine zC 2 (backwardF A a.length k) ?_
 rintro _ _ _ ⟨bV, rfl, rfl, rfl⟩
 refine zR 2 ?_
 refine go_range2 (α := Nat × Value) (enc := fun x : Nat × Value => Value.int .i64 (x.1 : Int)) (enc2 := fun x : Nat × Value => x.2) (Px := fun (pre : List (Nat × Value)) (x : Nat × Value) => [PA.and (pre.length < a.length ∧ x.1 = a.length - 1 - pre.length) PA.tt]) rfl rfl rfl rfl (fun D => [pt b12 94 [.int .u64 ((goneN (fun g => isW l (kq g a a.length) f most) a.length (D.length) : Nat) : Int)], ptI b13 41 3 (cs (outK (fun g => isW l (kq g a a.length) f most) a.length (D.length))), knO (fun g => isW l (kq g a a.length) f most) bm]) ([]) ([]) zM zM ([cl bV 0 [.slice A a.length k], sl tFa A k a]) zM (fun xs => xs.length = a.length) (fun ly R hY => (backward1 bV A k a ly R hY).imp fun v P' O' ⟨xs, h1, _, h3, h4⟩ => ⟨xs, h1, h3, h4⟩) (X := Nat) (fun y => [(14, .int .i64 (y : Int))]) [(10, .pointer (some ⟨b10, 0, none⟩)), (12, .pointer (some ⟨b12, 0, none⟩)), (13, .pointer (some ⟨b13, 0, none⟩))] (fun pre x y => [pt b12 94 [.int .u64 ((goneN (fun g => isW l (kq g a a.length) f most) a.length (pre.length) : Nat) : Int)], ptI b13 41 3 (cs (outK (fun g => isW l (kq g a a.length) f most) a.length (pre.length))), knO (fun g => isW l (kq g a a.length) f most) bm]) (fun _ x y => y = x.1) (fun ly pre x w0' hp0' hf0' => ?_) (fun ly pre x y hyx w0' hp0' hf0' => ?_) (fun D xs hdj hxs => ?_)
 ·skip
  refine zR 3 ?_
  refine zz x.1 rfl (by decide)
 ·skip
  subst hyx
  refine go_pand (fun hpl => ?_)
  obtain ⟨hp1, hp2⟩ := hpl
  have hgl := goneN_lt (W := (fun g => isW l (kq g a a.length) f most)) (n := a.length) (by omega) (k := pre.length) (by omega)
  have hpw : (2 : Nat) ^ x.1 < 2 ^ 64 := Nat.pow_lt_pow_right (by decide) (by omega)
  have hol := outK_len (W := (fun g => isW l (kq g a a.length) f most)) (n := a.length) pre.length
  refine go_kn (bm := bm) zM (fun m hk => ?_)
  refine zR 2 ?_
  refine go_draw ([cl b10 0 [.func (.func 109) #[] #[.pointer (some ⟨bM, 0, none⟩), .pointer (some ⟨bF, 0, none⟩), .pointer (some ⟨bL, 0, none⟩), .pointer (some ⟨bO, 0, none⟩), .pointer (some ⟨bQ, 0, none⟩)]]]) ([pt b12 94 [.int .u64 ((goneN (fun g => isW l (kq g a a.length) f most) a.length (pre.length) : Nat) : Int)]]) [0, 1] (SL.pre [(1, 2), (1, 3), (2, 0), (2, 1), (1, 4), (0, 5)] .nil) mixed rfl (by kernel_rfl) ?_
  refine zR 2 ?_
  refine go_re 33 (.int .u64 ((2 ^ x.1 : Nat) : Int)) (by show some (Value.int _ _) = _; exact congrArg (fun z : Int => some (Value.int IntKind.u64 z)) (one_bit (by omega))) ?_
  refine zK 0 ?_
  refine zK 0 ?_
  refine zR 1 ?_
  refine go_re 34 (.int .u64 ((goneN (fun g => isW l (kq g a a.length) f most) a.length (pre.length) ||| 2 ^ x.1 : Nat) : Int)) (by show some (Value.int _ _) = _; exact congrArg (fun z : Int => some (Value.int IntKind.u64 z)) (or_bit hgl hpw)) ?_
  refine zC 0 (impAsk1 l LA lc gl a A k f FA fk most bM bF bL bO bQ bm (goneN (fun g => isW l (kq g a a.length) f most) a.length (pre.length) ||| 2 ^ x.1) m hk (Nat.or_lt_two_pow hgl hpw) gaf hm hfl hbg) ?_
  rintro _ _ _ ⟨m2, hK2, rfl, rfl, rfl⟩
  rw [bits_or, bits_goneN]
  refine go_fold [mapO bm .u64 m2] (knO (fun g => isW l (kq g a a.length) f most) bm) zM (fun _ _ q => knO_mk hK2 q) ?_
  refine zB 1 ?_ ?_
  ·intro g3
   (try simp only [dcs, ne_eq] at g3)
   refine go_draw ([]) ([pt b12 94 [.int .u64 ((goneN (fun g => isW l (kq g a a.length) f most) a.length (pre.length) : Nat) : Int)]]) [0] (SL.pre [(1, 1), (1, 2), (2, 0), (1, 3), (0, 4)] .nil) mixed rfl (by kernel_rfl) ?_
   refine zR 2 ?_
   refine go_re 38 (.int .u64 ((2 ^ x.1 : Nat) : Int)) (by show some (Value.int _ _) = _; exact congrArg (fun z : Int => some (Value.int IntKind.u64 z)) (one_bit (by omega))) ?_
   refine zK 0 ?_
   refine zR 1 ?_
   refine go_re 39 (.int .u64 ((goneN (fun g => isW l (kq g a a.length) f most) a.length (pre.length) ||| 2 ^ x.1 : Nat) : Int)) (by show some (Value.int _ _) = _; exact congrArg (fun z : Int => some (Value.int IntKind.u64 z)) (or_bit hgl hpw)) ?_
   refine zS 0 ?_
   refine zE 1 [] ?_
   refine zR 1 ?_
   refine go_same (B := pt b12 94 [.int .u64 ((goneN (fun g => isW l (kq g a a.length) f most) a.length ((pre ++ [x]).length) : Nat) : Int)]) zM (by rw [List.length_append]; exact congrArg (fun z : Nat => pt b12 94 [.int .u64 (z : Int)]) (by rw [show [x].length = 1 from rfl, goneN_yes (by rw [← hp2]; exact g3), hp2])) ?_
   refine go_same (A := ptI b13 41 3 (cs (outK (fun g => isW l (kq g a a.length) f most) a.length (pre.length)))) (B := ptI b13 41 3 (cs (outK (fun g => isW l (kq g a a.length) f most) a.length ((pre ++ [x]).length)))) zM (by rw [List.length_append, show [x].length = 1 from rfl, outK_yes (by rw [← hp2]; exact g3)]) ?_
   refine go_back () trivial zM zM trivial (by decide)
  intro g3
  (try simp only [dcs, ne_eq] at g3)
  refine go_ptI (b := b13) zM (fun A1 c1 => ?_)
  refine zL 1 ?_
  refine zV 1 ?_
  intro b1
  refine go_append1 (T := tI) (xs := cs (outK (fun g => isW l (kq g a a.length) f most) a.length (pre.length))) Tk ((x.1 : Int)) rfl rfl rfl rfl rfl rfl rfl rfl rfl zM zM rfl ent_int (by rw [show (cs (outK (fun g => isW l (kq g a a.length) f most) a.length (pre.length))).length = (outK (fun g => isW l (kq g a a.length) f most) a.length pre.length).length from List.length_map ..]; omega) zH ?_
  intro A2 c2
  refine zS 0 ?_
  refine zR 1 ?_
  rw [show cs (outK (fun g => isW l (kq g a a.length) f most) a.length (pre.length)) ++ [(x.1 : Int)] = cs (outK (fun g => isW l (kq g a a.length) f most) a.length ((pre ++ [x]).length)) by rw [← cs_snoc, List.length_append, show [x].length = 1 from rfl, outK_no (by rw [← hp2]; exact g3), hp2]]
  refine go_fold [pt b13 41 [.slice A2 (cs (outK (fun g => isW l (kq g a a.length) f most) a.length ((pre ++ [x]).length))).length c2], ol tI 3 A2 c2 (cs (outK (fun g => isW l (kq g a a.length) f most) a.length ((pre ++ [x]).length)))] (ptI b13 41 3 (cs (outK (fun g => isW l (kq g a a.length) f most) a.length ((pre ++ [x]).length)))) zM (fun _ _ q => ptI_mk q) ?_
  refine zE 0 [] ?_
  refine zR 1 ?_
  refine go_same (A := pt b12 94 [.int .u64 ((goneN (fun g => isW l (kq g a a.length) f most) a.length (pre.length) : Nat) : Int)]) (B := pt b12 94 [.int .u64 ((goneN (fun g => isW l (kq g a a.length) f most) a.length ((pre ++ [x]).length) : Nat) : Int)]) zM (by rw [List.length_append]; exact congrArg (fun z : Nat => pt b12 94 [.int .u64 (z : Int)]) (by rw [show [x].length = 1 from rfl, goneN_no (by rw [← hp2]; exact g3)])) ?_
  refine go_back () trivial zM zM trivial (by decide)
 refine zR 2 ?_
 rw [hxs]
 refine go_ptI (b := b13) zM (fun A1 c1 => ?_)
 have hol := outK_len (W := (fun g => isW l (kq g a a.length) f most)) (n := a.length) a.length
 refine zL 1 ?_
 refine zC3 0 (reverseI A1 c1 (cs (outK (fun g => isW l (kq g a a.length) f most) a.length (a.length))) (by rw [show (cs (outK (fun g => isW l (kq g a a.length) f most) a.length (a.length))).length = (outK (fun g => isW l (kq g a a.length) f most) a.length a.length).length from List.length_map ..]; omega)) ?_
 rw [outK_keys]
 refine go_freeze_ol (xs := cs (keysP (fun g => isW l (kq g a a.length) f most) a.length a.length)) zM ?_
 refine zR 2 ?_
 refine go_same (B := pt b13 41 [.slice A1 (cs (keysP (fun g => isW l (kq g a a.length) f most) a.length a.length)).length c1]) zM (by rw [← outK_keys, List.length_reverse]) ?_
 refine zL 1 ?_
 refine zE 3 [8, 9] ?_
 refine go_retR ⟨rfl, rfl⟩ hdj _ _ (res2 (by rfl) (.tmp rfl) (.tmp rfl)) ⟨A1, c1, 0, hE, rfl, rfl, rfl⟩ zM zM
theorem impDiff (l : List Cl) (LA : Option Addr) (lc : Nat) (gl : ∀ c ∈ l, c.ok) (m : List Cl) (MA : Option Addr) (mc : Nat) (gm : ∀ c ∈ m, c.ok) (a : List Fa) (A : Option Addr) (k : Nat) (most : Int) (gaf : ∀ x ∈ a, x.ok ∧ x.a.length ≤ 100000) (hm : most ≤ 100) (hfl : a.length ≤ 60) (hbgl : ∀ c ∈ l, ∀ (F R N : List Fa) (new : Bool), (F.length : Int) ≤ most → (goL c F R N c.b ch0 new).length ≤ 50000000) (hbgm : ∀ c ∈ m, ∀ (F R N : List Fa) (new : Bool), (F.length : Int) ≤ most → (goL c F R N c.b ch0 new).length ≤ 50000000) :
    Spec Tryz.prog 14 #[.slice LA l.length lc, .slice MA m.length mc, .slice A a.length k, .int .i64 most] [sl tCl LA lc l, sl tCl MA mc m, sl tFa A k a] [] (fun v Ps' Os' => ∃ A1 k1 A2 k2 g s e, DiffA l m a most g s e ∧ v = .tuple #[.slice A1 g.length k1, .slice A2 s.length k2, .int .i64 e] ∧ Ps' = [sl tFa A1 k1 g, sl tFa A2 k2 s] ∧ Os' = []) := by
 refine zSp _ Tryz.func14 Tryz.ntmps14 (fun _ _ _ => ?_)
 refine zC 11 (modelOf l LA lc a A k most gl gaf (by omega) (by omega) hbgl) ?_
 rintro _ _ _ ⟨A1, k1, r1, e1, hM1, rfl, rfl, rfl⟩
 refine zN 12 ?_ ?_
 ·intro g1
  refine zR 1 ?_
  refine go_sl_nil tFa ?_
  refine zE 6 [8, 9, 10] ?_
  refine zT 0 rfl ⟨none, 0, none, 0, [], [], e1, ⟨r1, e1, hM1, .inl ⟨g1, rfl, rfl, rfl⟩⟩, rfl, rfl, rfl⟩
 intro g1
 subst g1
 refine zC 6 (modelOf m MA mc a A k most gm gaf (by omega) (by omega) hbgm) ?_
 rintro _ _ _ ⟨A2, k2, r2, e2, hM2, rfl, rfl, rfl⟩
 refine zE 6 [10, 11, 12] ?_
 refine zN 6 ?_ ?_
 ·intro g2
  refine zR 1 ?_
  refine go_sl_nil tFa ?_
  refine zT 6 rfl ⟨none, 0, none, 0, [], [], e2, ⟨r1, 0, hM1, .inr ⟨rfl, r2, e2, hM2, .inl ⟨g2, rfl, rfl, rfl⟩⟩⟩, rfl, rfl, rfl⟩
 intro g2
 subst g2
 obtain ⟨_, _, X, rfl, hXr, hXb, _⟩ := hM1.ok gl rfl
 have hXl : X.length ≤ 50000000 := by omega
 have hXf := hM1.fine gl gaf
 obtain ⟨_, _, Y, rfl, hYr, hYb, _⟩ := hM2.ok gm rfl
 have hYl : Y.length ≤ 50000000 := by omega
 have hYf := hM2.fine gm gaf
 refine go_re 11 (.slice A1 X.length k1) (by rfl) ?_
 refine go_sl (sl tFa A1 k1 ((some X).getD [])) (sl tFa A1 k1 X) zM (fun _ h => h) ?_
 refine go_re 12 (.slice A2 Y.length k2) (by rfl) ?_
 refine go_sl (sl tFa A2 k2 ((some Y).getD [])) (sl tFa A2 k2 Y) zM (fun _ h => h) ?_
 refine zC 4 (relOf A1 k1 X (by omega) (fun q hq => (hXf q hq).2)) ?_
 rintro _ _ _ ⟨bX, rfl, rfl, rfl⟩
 rw [fof_self hXr]
 refine go_freeze_rel (b := bX) zM ?_
 refine go_ent (relN (some ⟨bX, 0, none⟩) (X)) (fun hh hps => relN_some (hps (relP bX (X)) zM)) ?_
 refine zC 1 (relOf A2 k2 Y (by omega) (fun q hq => (hYf q hq).2)) ?_
 rintro _ _ _ ⟨bY, rfl, rfl, rfl⟩
 rw [fof_self hYr]
 refine go_freeze_rel (b := bY) zM ?_
 refine go_ent (relN (some ⟨bY, 0, none⟩) (Y)) (fun hh hps => relN_some (hps (relP bY (Y)) zM)) ?_
 refine zC 7 (relLessN (some ⟨bY, 0, none⟩) Y (some ⟨bX, 0, none⟩) X hXr hXl hYl (fun q hq => (hYf q hq).2)) ?_
 rintro _ _ _ ⟨z1, rfl, rfl, rfl⟩
 refine go_relD (b := z1) zM ?_
 refine go_freeze_rel (b := z1) zM ?_
 refine go_ent (relN (some ⟨z1, 0, none⟩) (less Y X)) (fun hh hps => relN_some (hps (relP z1 (less Y X)) zM)) ?_
 refine zC 0 (relListN (some ⟨z1, 0, none⟩) (less Y X) (Nat.le_trans (less_len _ _) hYl) (fun q hq => (hYf q (mem_less.1 hq).1).2)) ?_
 rintro _ _ _ ⟨A3, k3, rfl, rfl, rfl⟩
 refine go_freeze_dl (T := tFa) (A := A3) (xs := less Y X) zM ?_
 refine zC 2 (relLessN (some ⟨bX, 0, none⟩) X (some ⟨bY, 0, none⟩) Y hYr hYl hXl (fun q hq => (hXf q hq).2)) ?_
 rintro _ _ _ ⟨z2, rfl, rfl, rfl⟩
 refine go_relD (b := z2) zM ?_
 refine go_freeze_rel (b := z2) zM ?_
 refine go_ent (relN (some ⟨z2, 0, none⟩) (less X Y)) (fun hh hps => relN_some (hps (relP z2 (less X Y)) zM)) ?_
 refine zC 0 (relListN (some ⟨z2, 0, none⟩) (less X Y) (Nat.le_trans (less_len _ _) hXl) (fun q hq => (hXf q (mem_less.1 hq).1).2)) ?_
 rintro _ _ _ ⟨A4, k4, rfl, rfl, rfl⟩
 refine go_freeze_dl (T := tFa) (A := A4) (xs := less X Y) zM ?_
 refine zE 4 [8, 9, 10] ?_
 refine zT 0 rfl ⟨A3, k3, A4, k4, less Y X, less X Y, 0, ⟨some X, 0, hM1, .inr ⟨rfl, some Y, 0, hM2, .inr ⟨rfl, rfl, rfl, rfl⟩⟩⟩, rfl, rfl, rfl⟩
end Go.Proofs.YtdconhalfanclaaGreat.SL
namespace Go.Proofs.YtdconhalfanclaaGreat.SL
open Md
def c30 : Cl := ⟨⟨1, [⟨true, 0⟩]⟩, [⟨false, ⟨2, [⟨true, 0⟩]⟩⟩]⟩
def l30 : List Cl := [c30]
def n30 : List Fa := [⟨2, [1]⟩, ⟨2, [1]⟩, ⟨2, [2]⟩]
def m30 : List Fa := [⟨1, [1]⟩, ⟨1, [2]⟩, ⟨2, [1]⟩, ⟨2, [2]⟩]
def q30 (fs : List Fa) : Prop := ∀ x ∈ fs, ∃ n, x = ⟨2, [n]⟩
theorem n30_q : q30 n30 := fun x hx => by
  simp only [n30, List.mem_cons, List.not_mem_nil, or_false] at hx
  rcases hx with rfl | rfl | rfl
  · exact ⟨_, rfl⟩
  · exact ⟨_, rfl⟩
  · exact ⟨_, rfl⟩
theorem c30_ok : c30.ok := by
  refine ⟨⟨by decide, fun x hx => ?_⟩, fun l hl => ?_⟩
  · have hx : x ∈ ([⟨true, 0⟩] : List Tm) := hx
    rw [List.mem_singleton.1 hx]; exact ⟨by decide, by decide⟩
  · have hl : l ∈ ([⟨false, ⟨2, [⟨true, 0⟩]⟩⟩] : List Li) := hl
    rw [List.mem_singleton.1 hl]
    refine ⟨by decide, fun x hx => ?_⟩
    have hx : x ∈ ([⟨true, 0⟩] : List Tm) := hx
    rw [List.mem_singleton.1 hx]; exact ⟨by decide, by decide⟩
theorem l30_ok : ∀ c ∈ l30, c.ok := fun c hc => by rw [List.mem_singleton.1 hc]; exact c30_ok
theorem l30_at : ∀ a ∈ atomsL l30, a.a.length = 1 := fun a ha => by
  obtain ⟨c, hc, q⟩ := mem_atomsL.1 ha
  rw [List.mem_singleton.1 hc] at q
  simp only [atomsC, c30, List.map_cons, List.map_nil, List.mem_cons, List.not_mem_nil, or_false] at q
  rcases q with rfl | rfl <;> rfl
theorem l30_r : (rightC l30).2 = 0 := rightC_iff.2 ⟨by decide, fun c hc => by rw [List.mem_singleton.1 hc]; exact ⟨by decide, by decide⟩, fun a ha b hb _ => by rw [l30_at a ha, l30_at b hb]⟩
theorem l30_lv : Levels l30 (fun _ => 0) := fun c hc x hx => by
  rw [List.mem_singleton.1 hc] at hx
  have hx : x ∈ ([⟨false, ⟨2, [⟨true, 0⟩]⟩⟩] : List Li) := hx
  rw [List.mem_singleton.1 hx]; exact Nat.le_refl _
theorem l30_rp {fs : List Fa} (h : q30 fs) : RP l30 fs := by
  have h1 : ∀ x ∈ fs, x.a.length = 1 := fun x hx => by obtain ⟨n, rfl⟩ := h x hx; rfl
  refine ⟨l30_r, ⟨_, l30_lv⟩, fun x hx => by rw [h1 x hx]; omega, fun a ha b hb _ => ?_⟩
  have key : ∀ a ∈ atomsL l30 ++ fs.map lift, a.a.length = 1 := fun a ha => by
    rcases List.mem_append.1 ha with q | q
    · exact l30_at a q
    · obtain ⟨x, hx, rfl⟩ := List.mem_map.1 q
      rw [lift_len]; exact h1 x hx
  rw [key a ha, key b hb]
theorem H30 {F N : Fa → Prop} {x : Fa} : H c30 F N x ↔ ∃ a : Int, F ⟨2, [a]⟩ ∧ x = ⟨1, [a]⟩ := by
  unfold H Hd
  constructor
  · rintro ⟨_, s, h1, _, _, h4⟩
    exact ⟨s 0, h1 _ (.head _) rfl, h4⟩
  · rintro ⟨a, h1, h3⟩
    refine ⟨l30_r, fun _ => a, fun l hl e => ?_, fun l hl e => ?_, fun e => (nomatch e), h3⟩
    · have hl : l ∈ ([⟨false, ⟨2, [⟨true, 0⟩]⟩⟩] : List Li) := hl
      rw [List.mem_singleton.1 hl]; exact h1
    · have hl : l ∈ ([⟨false, ⟨2, [⟨true, 0⟩]⟩⟩] : List Li) := hl
      rw [List.mem_singleton.1 hl] at e; cases e
noncomputable def mk30 (fs : List Fa) : List Fa := fof (fs ++ fs.map fun x => ⟨1, x.a⟩)
theorem mem_mk30 {fs : List Fa} {x : Fa} : x ∈ mk30 fs ↔ x ∈ fs ∨ ∃ y ∈ fs, (⟨1, y.a⟩ : Fa) = x := by unfold mk30; rw [mem_fof, List.mem_append, List.mem_map]
theorem st30 {fs : List Fa} (h : q30 fs) : Stable l30 (· ∈ fof fs) (· ∈ mk30 fs) := by
  refine ⟨fun x hx => mem_mk30.2 (.inl (mem_fof.1 hx)), fun c hc x hx => ?_, fun S h1 h2 x hx => ?_⟩
  · rw [List.mem_singleton.1 hc] at hx
    obtain ⟨a, q, rfl⟩ := H30.1 hx
    rcases mem_mk30.1 q with q | ⟨y, _, e⟩
    · exact mem_mk30.2 (.inr ⟨_, q, rfl⟩)
    · exact absurd (congrArg Fa.p e) (by show ¬ (1 : Int) = 2; decide)
  · rcases mem_mk30.1 hx with q | ⟨y, hy, rfl⟩
    · exact h1 x (mem_fof.2 q)
    · obtain ⟨n, rfl⟩ := h y hy
      exact h2 c30 (.head _) _ (H30.2 ⟨n, h1 _ (mem_fof.2 hy), rfl⟩)
theorem mk30_len (fs : List Fa) : (mk30 fs).length ≤ fs.length + fs.length := by
  unfold mk30
  have := fof_len (fs ++ fs.map fun x => (⟨1, x.a⟩ : Fa))
  rw [List.length_append, List.length_map] at this; exact this
theorem mod30 {fs : List Fa} (h : q30 fs) (hl : fs.length ≤ 50) {r : Option (List Fa)} {e : Int} (hM : ModA l30 fs 100 r e) : r = some (mk30 fs) ∧ e = 0 :=
  ((hM.of_right l30_ok (l30_rp h) (by omega)).of_stable l30_lv (rises_fof _) (st30 h)).1 (by have := mk30_len fs; show ((mk30 fs).length : Int) ≤ 100; omega)
theorem isW30 {fs : List Fa} (h : q30 fs) (hl : fs.length ≤ 50) (n : Int) : isW l30 fs ⟨1, [n]⟩ 100 = decide ((⟨2, [n]⟩ : Fa) ∈ fs) := by
  rw [Bool.eq_iff_iff, isW_iff, decide_eq_true_iff]
  constructor
  · rintro ⟨_, _, M, h1, h2, h3, h4⟩
    rcases mem_mk30.1 ((h3.same l30_lv (st30 h) _).1 h4) with q | ⟨y, hy, e⟩
    · obtain ⟨k, e⟩ := h _ q
      exact absurd (congrArg Fa.p e) (by show ¬ (1 : Int) = 2; decide)
    · obtain ⟨k, rfl⟩ := h y hy
      have : ([k] : List Int) = [n] := congrArg Fa.a e
      cases this; exact hy
  · intro q
    exact ⟨l30_rp h, by omega, mk30 fs, rises_fof _, by have := mk30_len fs; omega, st30 h, mem_mk30.2 (.inr ⟨_, q, rfl⟩)⟩
def w30 (g : Nat → Bool) : Bool := !(g 0 && g 1)
theorem W30 : (fun g => isW l30 (kq g n30 n30.length) ⟨1, [1]⟩ 100) = w30 := funext fun g => by
  rw [isW30 (fun x hx => n30_q x (kq_sub x hx)) (Nat.le_trans (kq_len _ _ _) (by decide)), Bool.eq_iff_iff, decide_eq_true_iff, mem_kq]
  unfold w30
  constructor
  · rintro ⟨i, hi, h1, h2⟩
    have hi : i < 3 := hi
    match i, hi with
    | 0, _ => rw [h1]; rfl
    | 1, _ => rw [h1]; cases g 0 <;> rfl
    | 2, _ => exact absurd h2 (by decide)
  · intro h
    cases e0 : g 0 with
    | false => exact ⟨0, by decide, e0, rfl⟩
    | true =>
      cases e1 : g 1 with
      | false => exact ⟨1, by decide, e1, rfl⟩
      | true => rw [e0, e1] at h; cases h
theorem rest30 : restL (fun g => isW l30 (kq g n30 n30.length) ⟨1, [1]⟩ 100) n30.length = [] := by rw [W30]; rfl
theorem keys30 : keysP (fun g => isW l30 (kq g n30 n30.length) ⟨1, [1]⟩ 100) n30.length n30.length = [0] := by rw [W30]; rfl
theorem ask30 {n e : Int} (h : AskR l30 n30 ⟨1, [n]⟩ 100 e) : e = if n = 1 ∨ n = 2 then 0 else 4 := by
  obtain ⟨r, e0, h1, h2⟩ := h
  obtain ⟨rfl, rfl⟩ := mod30 n30_q (by decide) h1
  rw [h2, if_pos rfl]
  have : (⟨1, [n]⟩ : Fa) ∈ (some (mk30 n30)).getD [] ↔ n = 1 ∨ n = 2 := by
    show (⟨1, [n]⟩ : Fa) ∈ mk30 n30 ↔ _
    rw [mem_mk30]
    simp [n30, eq_comm]
  by_cases q : n = 1 ∨ n = 2
  · rw [if_pos q, if_pos (this.2 q)]
  · rw [if_neg q, if_neg (fun w => q (this.1 w))]
theorem mk30_n : mk30 n30 = m30 := rises_ext (rises_fof _) (by unfold rises m30; decide) fun x => by
  rw [mem_mk30]
  simp [n30, m30, eq_comm, or_assoc, or_left_comm, or_comm]
theorem fof30 : fof n30 = [⟨2, [1]⟩, ⟨2, [2]⟩] := rises_ext (rises_fof _) (by unfold rises; decide) fun x => by
  rw [mem_fof]; simp [n30]
theorem diff30 {g s : List Fa} {e : Int} (h : DiffA l30 [] n30 100 g s e) : g = [] ∧ s = [⟨1, [1]⟩, ⟨1, [2]⟩] ∧ e = 0 := by
  obtain ⟨r1, e1, h1, h2⟩ := h
  obtain ⟨rfl, rfl⟩ := mod30 n30_q (by decide) h1
  rcases h2 with ⟨q, _⟩ | ⟨_, r2, e2, h3, h4⟩
  · exact absurd rfl q
  · have hr : RP [] n30 := (l30_rp n30_q).sub (fun c hc => absurd hc List.not_mem_nil) (fun _ q => q) (by decide)
    have hs : Stable [] (· ∈ fof n30) (· ∈ fof n30) := ⟨fun _ q => q, fun c hc => absurd hc List.not_mem_nil, fun S h1 _ => h1⟩
    obtain ⟨rfl, rfl⟩ := ((h3.of_right (fun c hc => absurd hc List.not_mem_nil) hr (by omega)).of_stable (lv := fun _ => 0) (fun c hc => absurd hc List.not_mem_nil) (rises_fof _) hs).1 (by rw [fof30]; decide)
    rcases h4 with ⟨q, _⟩ | ⟨_, rfl, rfl, rfl⟩
    · exact absurd rfl q
    · refine ⟨?_, ?_, rfl⟩
      · show less (fof n30) (mk30 n30) = []
        rw [mk30_n, fof30]; unfold less m30; decide
      · show less (mk30 n30) (fof n30) = _
        rw [mk30_n, fof30]; unfold less m30; decide
theorem n30_ok : ∀ x ∈ n30, x.ok ∧ x.a.length ≤ 100000 := fun x hx => by
  simp only [n30, List.mem_cons, List.not_mem_nil, or_false] at hx
  have key : ∀ n : Int, 0 ≤ n ∧ n < 4294967296 → (⟨2, [n]⟩ : Fa).ok ∧ ([n] : List Int).length ≤ 100000 := fun n hn => ⟨⟨by show (0 : Int) ≤ 2 ∧ (2 : Int) < 4294967296; decide, fun y hy => by rw [List.mem_singleton.1 hy]; exact hn⟩, by simp⟩
  rcases hx with rfl | rfl | rfl <;> exact key _ (by decide)
theorem l30_big : ∀ c ∈ l30, ∀ (F R N : List Fa) (new : Bool), (F.length : Int) ≤ 100 → (goL c F R N c.b ch0 new).length ≤ 50000000 := fun c hc F R N new hF => by
  refine Nat.le_trans (goL_len _ _ _ _ _ _ _) ?_
  rw [List.mem_singleton.1 hc]
  show F.length ^ 1 ≤ _; rw [Nat.pow_one]; omega
end Go.Proofs.YtdconhalfanclaaGreat.SL
namespace Go.Proofs.YtdconhalfanclaaGreat.SL
open Go Md
set_option maxHeartbeats 8000000 in
theorem lawWorks30  :
    Spec Tryz.prog 9 #[] [] [] (fun v Ps' Os' => v = .bool true ∧ Ps' = [] ∧ Os' = []) := by
 refine zSp _ Tryz.func9 Tryz.ntmps9 (fun _ _ _ => ?_)
 refine zC3 6 (law11V 0) ?_
 refine zV 0 ?_
 intro u1
 refine go_lit tTm (b := u1) [⟨true, 0⟩] zM (fun hp a => ⟨[_, _], [], rfl, tTm_mk (x := ⟨true, 0⟩), rfl⟩) (by simp) ?_
 refine zC3 0 (law11A _ _ _ _) ?_
 refine zC3 0 (law11V 0) ?_
 refine zV 0 ?_
 intro u2
 refine go_lit tTm (b := u2) [⟨true, 0⟩] zM (fun hp a => ⟨[_, _], [], rfl, tTm_mk (x := ⟨true, 0⟩), rfl⟩) (by simp) ?_
 refine zC3 0 (law11Yes _ _ _ _) ?_
 refine zV 0 ?_
 intro u4
 refine go_lit tLi (b := u4) c30.b zM (fun hp a => ⟨[_, _, _], [], rfl, tLi_mk (x := ⟨false, ⟨2, [⟨true, 0⟩]⟩⟩) (a (sl tTm (some ⟨u2, 0, none⟩) 1 [⟨true, 0⟩]) zM), rfl⟩) (by decide) ?_
 refine zC3 0 (law11If _ _ _ _ _ _ _) ?_
 refine zV 0 ?_
 intro bs
 refine go_lit tCl (b := bs) l30 zM (fun hp a => ⟨[.int .u32 c30.h.p, .slice (some ⟨u1, 0, none⟩) c30.h.a.length 1, .slice (some ⟨u4, 0, none⟩) c30.b.length 1], [], rfl, tCl_mk (a (sl tTm (some ⟨u1, 0, none⟩) 1 c30.h.a) zM) (a (sl tLi (some ⟨u4, 0, none⟩) 1 c30.b) zM), rfl⟩) (by decide) ?_
 refine zV 4 ?_
 intro f1
 refine go_lit_int (kk := .u32) [1] zM (by simp) ?_
 refine zC3 0 (law13F 2 _ 1 1) ?_
 refine zV 0 ?_
 intro f2
 refine go_lit_int (kk := .u32) [1] zM (by simp) ?_
 refine zC3 0 (law13F 2 _ 1 1) ?_
 refine zV 0 ?_
 intro f3
 refine go_lit_int (kk := .u32) [2] zM (by simp) ?_
 refine zC3 0 (law13F 2 _ 1 1) ?_
 refine zV 0 ?_
 intro bf
 refine go_lit tFa (b := bf) n30 zM (fun hp a => ⟨[_, _], _, rfl, tFa_mk (x := (⟨2, [1]⟩ : Fa)) (a (sl tU (some ⟨f1, 0, none⟩) 1 [1]) zM), [_, _], _, rfl, tFa_mk (x := (⟨2, [1]⟩ : Fa)) (a (sl tU (some ⟨f2, 0, none⟩) 1 [1]) zM), [_, _], [], rfl, tFa_mk (x := (⟨2, [2]⟩ : Fa)) (a (sl tU (some ⟨f3, 0, none⟩) 1 [2]) zM), rfl⟩) (by decide) ?_
 refine zE 2 [1, 2] ?_
 refine zV 4 ?_
 intro g1
 refine go_lit_int (kk := .u32) [1] zM (by simp) ?_
 refine zC3 0 (law13F 1 _ 1 1) ?_
 refine zC 0 (impRest l30 (some ⟨bs, 0, none⟩) 1 l30_ok n30 (some ⟨bf, 0, none⟩) 3 (⟨1, [1]⟩ : Fa) (some ⟨g1, 0, none⟩) 1 100 n30_ok (by omega) (by decide) l30_big) ?_
 rintro _ _ _ ⟨A3, c3, e3, hE3, rfl, rfl, rfl⟩
 obtain rfl : e3 = 0 := (ask30 hE3).trans (by decide)
 rw [if_pos rfl, rest30]
 refine zV 10 ?_
 intro g2
 refine go_lit_int (kk := .u32) [1] zM (by simp) ?_
 refine zC3 0 (law13F 1 _ 1 1) ?_
 refine zC 0 (impKeys l30 (some ⟨bs, 0, none⟩) 1 l30_ok n30 (some ⟨bf, 0, none⟩) 3 (⟨1, [1]⟩ : Fa) (some ⟨g2, 0, none⟩) 1 100 n30_ok (by omega) (by decide) l30_big) ?_
 rintro _ _ _ ⟨A4, c4, e4, hE4, rfl, rfl, rfl⟩
 obtain rfl : e4 = 0 := (ask30 hE4).trans (by decide)
 rw [if_pos rfl, keys30]
 refine zE 6 [1, 2, 3, 4, 5, 6] ?_
 refine zR 1 ?_
 refine go_sl_nil tCl ?_
 refine zC 3 (impDiff l30 (some ⟨bs, 0, none⟩) 1 l30_ok [] none 0 (fun c hc => absurd hc List.not_mem_nil) n30 (some ⟨bf, 0, none⟩) 3 100 n30_ok (by omega) (by decide) l30_big (fun c hc => absurd hc List.not_mem_nil)) ?_
 rintro _ _ _ ⟨A5, c5, A6, c6, g, s, e5, hD, rfl, rfl, rfl⟩
 obtain ⟨rfl, rfl, rfl⟩ := diff30 hD
 refine zV 12 ?_
 intro g3
 refine go_lit_int (kk := .u32) [9] zM (by simp) ?_
 refine zC3 0 (law13F 1 _ 1 1) ?_
 refine zC 0 (impRest l30 (some ⟨bs, 0, none⟩) 1 l30_ok n30 (some ⟨bf, 0, none⟩) 3 (⟨1, [9]⟩ : Fa) (some ⟨g3, 0, none⟩) 1 100 n30_ok (by omega) (by decide) l30_big) ?_
 rintro _ _ _ ⟨A7, c7, e7, hE7, rfl, rfl, rfl⟩
 obtain rfl : e7 = 4 := (ask30 hE7).trans (by decide)
 refine zE 6 [3, 4, 5, 6, 7, 8, 9, 11] ?_
 refine zR 4 ?_
 refine go_re 60 (.bool true) (by show some (Value.bool _) = _; first | rfl | simp) ?_
 refine zR 4 ?_
 refine go_re 64 (.bool true) (by show some (Value.bool _) = _; first | rfl | simp) ?_
 refine zR 4 ?_
 refine go_re 68 (.bool true) (by show some (Value.bool _) = _; first | rfl | simp) ?_
 refine zV 3 ?_
 intro bn
 refine go_lit_int (kk := .i64) [0] zM (by simp) ?_
 refine zC3 0 (ref30Same A4 c4 (cs [0]) (some ⟨bn, 0, none⟩) 1 [0]) ?_
 refine go_re 73 (.bool true) (by show some (Value.bool _) = _; first | rfl | simp) ?_
 refine zR 4 ?_
 refine go_re 77 (.bool true) (by show some (Value.bool _) = _; first | rfl | simp) ?_
 refine zR 5 ?_
 refine go_re 82 (.bool true) (by show some (Value.bool _) = _; first | rfl | simp) ?_
 refine zV 3 ?_
 intro h1
 refine go_lit_int (kk := .u32) [1] zM (by simp) ?_
 refine zC3 0 (law13F 1 _ 1 1) ?_
 refine zV 0 ?_
 intro h2
 refine go_lit_int (kk := .u32) [2] zM (by simp) ?_
 refine zC3 0 (law13F 1 _ 1 1) ?_
 refine zV 0 ?_
 intro bm
 refine go_lit tFa (b := bm) [(⟨1, [1]⟩ : Fa), (⟨1, [2]⟩ : Fa)] zM (fun hp a => ⟨[_, _], _, rfl, tFa_mk (x := (⟨1, [1]⟩ : Fa)) (a (sl tU (some ⟨h1, 0, none⟩) 1 [1]) zM), [_, _], [], rfl, tFa_mk (x := (⟨1, [2]⟩ : Fa)) (a (sl tU (some ⟨h2, 0, none⟩) 1 [2]) zM), rfl⟩) (by decide) ?_
 refine zC3 0 (ref13Same A6 c6 [(⟨1, [1]⟩ : Fa), (⟨1, [2]⟩ : Fa)] (some ⟨bm, 0, none⟩) 2 [(⟨1, [1]⟩ : Fa), (⟨1, [2]⟩ : Fa)]) ?_
 refine go_re 91 (.bool true) (by show some (Value.bool _) = _; simp) ?_
 refine zR 4 ?_
 refine go_re 95 (.bool true) (by show some (Value.bool _) = _; first | rfl | simp) ?_
 refine zE 3 [0] ?_
 refine zT 0 rfl ⟨rfl, rfl, rfl⟩
end Go.Proofs.YtdconhalfanclaaGreat.SL
namespace Go.Proofs.YtdconhalfanclaaGreat.SL
open Md
theorem DiffA.at_ {l k : List Cl} {fs : List Fa} {most : Int} {g s : List Fa} {e e1 e2 : Int} {r1 r2 : Option (List Fa)} (ho : ∀ c ∈ l, c.ok) (ho' : ∀ c ∈ k, c.ok) (h : DiffA l k fs most g s e) (h1 : ModA l fs most r1 e1) (h2 : ModA k fs most r2 e2) :
    (e1 ≠ 0 ∧ g = [] ∧ s = [] ∧ e = e1) ∨ (e1 = 0 ∧ e2 ≠ 0 ∧ g = [] ∧ s = [] ∧ e = e2) ∨ (e1 = 0 ∧ e2 = 0 ∧ g = less (r2.getD []) (r1.getD []) ∧ s = less (r1.getD []) (r2.getD []) ∧ e = 0) := by
  obtain ⟨r1', e1', a1, a2⟩ := h
  obtain ⟨rfl, rfl⟩ := h1.one ho a1
  rcases a2 with q | ⟨q, r2', e2', a3, a4⟩
  · exact .inl q
  · obtain ⟨rfl, rfl⟩ := h2.one ho' a3
    rcases a4 with ⟨w, x⟩ | ⟨w, x⟩
    · exact .inr (.inl ⟨q, w, x⟩)
    · exact .inr (.inr ⟨q, w, x⟩)
theorem DiffA.zero {l k : List Cl} {fs : List Fa} {most : Int} {g s : List Fa} {e e1 e2 : Int} {r1 r2 : Option (List Fa)} (ho : ∀ c ∈ l, c.ok) (ho' : ∀ c ∈ k, c.ok) (h : DiffA l k fs most g s e) (h1 : ModA l fs most r1 e1) (h2 : ModA k fs most r2 e2) :
    decide (e = 0) = (decide (e1 = 0) && decide (e2 = 0)) := by
  rcases h.at_ ho ho' h1 h2 with ⟨q, _, _, w⟩ | ⟨q, q2, _, _, w⟩ | ⟨q, q2, _, _, w⟩
  · rw [w, decide_eq_false q]; rfl
  · rw [w, decide_eq_true q, decide_eq_false q2]; rfl
  · rw [w, decide_eq_true q, decide_eq_true q2]; rfl
theorem diff_rev {l l' : List Cl} {fs : List Fa} {most : Int} {g s M : List Fa} {e : Int} (ho : ∀ c ∈ l, c.ok) (h : ModA l fs most (some M) 0) (hl : ∀ c, c ∈ l' ↔ c ∈ l) (hn : l'.length ≤ 400) (hD : DiffA l l' fs most g s e) : g = [] ∧ s = [] ∧ e = 0 := by
  obtain ⟨r1, e1, a1, a2⟩ := hD
  obtain ⟨rfl, rfl⟩ := h.one ho a1
  rcases a2 with ⟨q, _⟩ | ⟨_, r2, e2, a3, a4⟩
  · exact absurd rfl q
  · obtain ⟨rfl, rfl⟩ := turned_same ho h hl (fun _ => Iff.rfl) hn a3
    rcases a4 with ⟨q, _⟩ | ⟨_, rfl, rfl, rfl⟩
    · exact absurd rfl q
    · exact ⟨less_self M, less_self M, rfl⟩
theorem back_again {X Y : List Fa} (hY : rises Y) : fof (less X (less X Y) ++ less Y X) = Y := rises_ext (rises_fof _) hY fun x => by
  rw [mem_fof, List.mem_append, mem_less, mem_less, mem_less]
  constructor
  · rintro (⟨h1, h2⟩ | ⟨h1, _⟩)
    · exact Classical.byContradiction fun q => h2 ⟨h1, q⟩
    · exact h1
  · intro h
    by_cases q : x ∈ X
    · exact .inl ⟨q, fun w => w.2 h⟩
    · exact .inr ⟨h, q⟩
theorem rev_next {l : List Cl} {j jj : Nat} (hj : j < l.length) (h : jj = l.length - 1 - j) (hjl : jj < l.length) : l.reverse.take j ++ [l[jj]] = l.reverse.take (j + 1) := by
  subst h
  rw [List.take_succ_eq_append_getElem (by rw [List.length_reverse]; exact hj), List.getElem_reverse]
theorem in_take_succ {x : Fa} {s : List Fa} {j : Nat} (h : j < s.length) : decide (x ∈ s.take (j + 1)) = (decide (x ∈ s.take j) || decide (x = s[j])) := by
  rw [List.take_succ_eq_append_getElem h, Bool.eq_iff_iff, decide_eq_true_iff, Bool.or_eq_true, decide_eq_true_iff, decide_eq_true_iff, List.mem_append, List.mem_singleton]
theorem fof_ext {fs gs : List Fa} (h : ∀ x, x ∈ fs ↔ x ∈ gs) : fof fs = fof gs := rises_ext (rises_fof _) (rises_fof _) fun x => by rw [mem_fof, mem_fof, h]
theorem isW_ext {l : List Cl} {fs gs : List Fa} {f : Fa} {most : Int} (h : ∀ x, x ∈ fs ↔ x ∈ gs) : isW l fs f most = isW l gs f most := by
  rw [Bool.eq_iff_iff, isW_iff, isW_iff]
  have key : ∀ {X Y : List Fa}, (∀ x, x ∈ X ↔ x ∈ Y) → InM l X f most → InM l Y f most := fun {X Y} h q => by
    obtain ⟨q1, q2, M, q3, q4, q5, q6⟩ := q
    refine ⟨q1.sub (fun _ w => w) (fun x w => (h x).2 w) (rightC_iff.1 q1.1).1, q2, M, q3, q4, ?_, q6⟩
    rw [← fof_ext h]; exact q5
  exact ⟨key h, key fun x => (h x).symm⟩
def someK (a : List Fa) (K : List Nat) (i : Int) (n : Nat) : List Fa := (List.range n).filterMap fun (j : Nat) => if (j : Int) = i then none else (K[j]?).bind fun x => a[x]?
theorem someK_skip {a : List Fa} {K : List Nat} {i : Int} {n : Nat} (h : (n : Int) = i) : someK a K i n = someK a K i (n + 1) := by
  unfold someK; rw [List.range_succ, List.filterMap_append]; simp [h]
theorem someK_in {a : List Fa} {K : List Nat} {i : Int} {n : Nat} (h : ¬ (n : Int) = i) (hn : n < K.length) (hk : K[n] < a.length) : someK a K i n ++ [a[K[n]]] = someK a K i (n + 1) := by
  unfold someK; rw [List.range_succ, List.filterMap_append]; simp [h, hn, hk]
theorem someK_len (a : List Fa) (K : List Nat) (i : Int) (n : Nat) : (someK a K i n).length ≤ n := by
  unfold someK; exact Nat.le_trans (List.length_filterMap_le ..) (by rw [List.length_range]; exact Nat.le_refl _)
theorem mem_someK {a : List Fa} {K : List Nat} {i : Int} {n : Nat} {x : Fa} : x ∈ someK a K i n ↔ ∃ j y, j < n ∧ ¬ (j : Int) = i ∧ K[j]? = some y ∧ a[y]? = some x := by
  unfold someK
  rw [List.mem_filterMap]
  constructor
  · rintro ⟨j, hj, h⟩
    by_cases q : (j : Int) = i
    · rw [if_pos q] at h; cases h
    · rw [if_neg q] at h
      obtain ⟨y, h1, h2⟩ := Option.bind_eq_some_iff.1 h
      exact ⟨j, y, List.mem_range.1 hj, q, h1, h2⟩
  · rintro ⟨j, y, hj, q, h1, h2⟩
    exact ⟨j, List.mem_range.2 hj, by rw [if_neg q, h1]; exact h2⟩
section
variable {W : (Nat → Bool) → Bool} {n : Nat}
theorem keysP_mem {i : Nat} : i ∈ keysP W n n ↔ i < n ∧ gone W n n i = false := by
  unfold keysP; rw [List.mem_filter, List.mem_range, Bool.not_eq_true']
theorem keysP_lt : (keysP W n n).Pairwise (· < ·) := by
  unfold keysP; exact List.Pairwise.filter _ List.pairwise_lt_range
theorem keysP_inj {i j : Nat} (hi : i < (keysP W n n).length) (hj : j < (keysP W n n).length) (h : (keysP W n n)[j] = (keysP W n n)[i]) : j = i := by
  have p := List.pairwise_iff_getElem.1 (keysP_lt (W := W) (n := n))
  rcases Nat.lt_trichotomy j i with q | q | q
  · have := p j i hj hi q; omega
  · exact q
  · have := p i j hi hj q; omega
theorem some_all {a : List Fa} (hn : n = a.length) (x : Fa) : x ∈ someK a (keysP W n n) (-1) (keysP W n n).length ↔ x ∈ kq (gone W n n) a a.length := by
  rw [mem_someK, mem_kq]
  constructor
  · rintro ⟨j, y, hj, _, h1, h2⟩
    have := keysP_mem.1 (List.mem_of_getElem? h1)
    exact ⟨y, by omega, this.2, h2⟩
  · rintro ⟨y, hy, h1, h2⟩
    obtain ⟨j, hj, e⟩ := List.getElem_of_mem (keysP_mem.2 ⟨by omega, h1⟩)
    exact ⟨j, y, hj, by omega, by rw [List.getElem?_eq_getElem hj, e], h2⟩
theorem some_but {a : List Fa} (hn : n = a.length) {i : Nat} (hi : i < (keysP W n n).length) (x : Fa) : x ∈ someK a (keysP W n n) (i : Int) (keysP W n n).length ↔ x ∈ kq (upd1 (gone W n n) (keysP W n n)[i]) a a.length := by
  rw [mem_someK, mem_kq]
  constructor
  · rintro ⟨j, y, hj, h0, h1, h2⟩
    have := keysP_mem.1 (List.mem_of_getElem? h1)
    refine ⟨y, by omega, ?_, h2⟩
    have hne : y ≠ (keysP W n n)[i] := fun e => by
      rw [List.getElem?_eq_getElem hj] at h1
      have h3 : (keysP W n n)[j] = (keysP W n n)[i] := by rw [← e]; exact Option.some.inj h1
      have := keysP_inj hi hj h3
      omega
    show (if y = (keysP W n n)[i] then true else gone W n n y) = false
    rw [if_neg hne]; exact this.2
  · rintro ⟨y, hy, h1, h2⟩
    have h1 : (if y = (keysP W n n)[i] then true else gone W n n y) = false := h1
    by_cases e : y = (keysP W n n)[i]
    · rw [if_pos e] at h1; cases h1
    · rw [if_neg e] at h1
      obtain ⟨j, hj, e2⟩ := List.getElem_of_mem (keysP_mem.2 ⟨by omega, h1⟩)
      refine ⟨j, y, hj, fun w => e ?_, by rw [List.getElem?_eq_getElem hj, e2], h2⟩
      have : j = i := by omega
      subst this; exact e2.symm
end
theorem ask_in {l : List Cl} {fs M : List Fa} {f : Fa} {most e : Int} (ho : ∀ c ∈ l, c.ok) (h : ModA l fs most (some M) 0) (hf : f ∈ M) (q : AskR l fs f most e) : e = 0 := by
  obtain ⟨r, e0, h1, h2⟩ := q
  obtain ⟨rfl, rfl⟩ := h.one ho h1
  rw [h2, if_pos rfl, if_pos (show f ∈ (some M).getD [] from hf)]
theorem W_start {l : List Cl} {fs M : List Fa} {f : Fa} {most : Int} (ho : ∀ c ∈ l, c.ok) (h : ModA l fs most (some M) 0) (hf : f ∈ M) : (fun g => isW l (kq g fs fs.length) f most) (fun _ => false) = true := by
  show isW l (kq (fun _ => false) fs fs.length) f most = true
  rw [kq_none]; exact (isW_of ho h).2 ⟨rfl, hf⟩
theorem W_mono {l : List Cl} (hp : posL l) {fs M : List Fa} {f : Fa} {most : Int} (ho : ∀ c ∈ l, c.ok) (h : ModA l fs most (some M) 0) (g g' : Nat → Bool) (hg : ∀ i, g i = true → g' i = true) (q : (fun g => isW l (kq g fs fs.length) f most) g' = true) : (fun g => isW l (kq g fs fs.length) f most) g = true :=
  isW_mono hp ho h (fun x hx => by
    obtain ⟨i, h1, h2, h3⟩ := mem_kq.1 hx
    refine mem_kq.2 ⟨i, h1, ?_, h3⟩
    cases e : g i with
    | false => rfl
    | true => rw [hg i e] at h2; cases h2) (fun x hx => kq_sub x hx) q
theorem keys_say {l : List Cl} (hp : posL l) {a M M2 : List Fa} {f : Fa} {most : Int} (ho : ∀ c ∈ l, c.ok) (h : ModA l a most (some M) 0) (hf : f ∈ M) {x : Nat} (hx : x ≤ (keysP (fun g => isW l (kq g a a.length) f most) a.length a.length).length)
    (h2 : ModA l (someK a (keysP (fun g => isW l (kq g a a.length) f most) a.length a.length) ((x : Int) - 1) (keysP (fun g => isW l (kq g a a.length) f most) a.length a.length).length) most (some M2) 0) : decide (f ∈ M2) = decide ((x : Int) - 1 < 0) := by
  generalize hK : keysP (fun g => isW l (kq g a a.length) f most) a.length a.length = K at *
  have hw := isW_of (f := f) ho h2
  rw [Bool.eq_iff_iff, decide_eq_true_iff, decide_eq_true_iff]
  have hw' : isW l (someK a K ((x : Int) - 1) K.length) f most = true ↔ f ∈ M2 := hw.trans ⟨fun q => q.2, fun q => ⟨rfl, q⟩⟩
  rw [← hw']
  match x, hx with
  | 0, _ =>
    refine ⟨fun _ => by omega, fun _ => ?_⟩
    rw [isW_ext (gs := kq (gone (fun g => isW l (kq g a a.length) f most) a.length a.length) a a.length) (fun y => by subst hK; exact some_all rfl y)]
    exact gone_true (W := fun g => isW l (kq g a a.length) f most) (W_start ho h hf) a.length
  | i + 1, hx =>
    refine ⟨fun q => ?_, fun q => by omega⟩
    rw [show ((i + 1 : Nat) : Int) - 1 = (i : Int) by omega, isW_ext (gs := kq (upd1 (gone (fun g => isW l (kq g a a.length) f most) a.length a.length) (K[i]'(by omega))) a a.length) (fun y => by subst hK; exact some_but rfl (by omega) y)] at q
    have h3 := key_need (W_mono hp ho h) (i := K[i]'(by omega)) (keysP_mem.1 (by rw [hK]; exact List.getElem_mem _)).1 (keysP_mem.1 (by rw [hK]; exact List.getElem_mem _)).2
    rw [show isW l (kq (upd1 (gone (fun g => isW l (kq g a a.length) f most) a.length a.length) (K[i]'(by omega))) a a.length) f most = false from h3] at q
    cases q
theorem cs_at {K : List Nat} {j : Nat} (h : j < (cs K).length) : ∃ kk : Nat, (cs K)[j] = (kk : Int) ∧ K[j]? = some kk := by
  unfold cs at h ⊢
  rw [List.length_map] at h
  exact ⟨K[j], by simp, List.getElem?_eq_getElem h⟩
theorem ints_take {x : Int} {s : List Int} {j : Nat} (h : j < s.length) : decide (x ∈ s.take (j + 1)) = (decide (x ∈ s.take j) || decide (s[j] = x)) := by
  rw [List.take_succ_eq_append_getElem h, Bool.eq_iff_iff, decide_eq_true_iff, Bool.or_eq_true, decide_eq_true_iff, decide_eq_true_iff, List.mem_append, List.mem_singleton, eq_comm (a := x)]
end Go.Proofs.YtdconhalfanclaaGreat.SL
namespace Go.Proofs.YtdconhalfanclaaGreat.SL
open Go Md
set_option maxHeartbeats 16000000 in
theorem lawImpactDiff (l : List Cl) (LA : Option Addr) (lc : Nat) (gl : ∀ c ∈ l, c.ok) (zl : l.length ≤ 140737488351232) (m : List Cl) (MA : Option Addr) (mc : Nat) (gm : ∀ c ∈ m, c.ok) (zm : m.length ≤ 140737488351232) (a : List Fa) (A : Option Addr) (k : Nat) (ga : ∀ x ∈ a, x.ok) (za : a.length ≤ 140737488351232) :
    Spec Tryz.prog 4 #[.slice LA l.length lc, .slice MA m.length mc, .slice A a.length k] [sl tCl LA lc l, sl tCl MA mc m, sl tFa A k a] [] (fun v Ps' Os' => v = .bool true ∧ Ps' = [] ∧ Os' = []) := by
 refine zSp _ Tryz.func4 Tryz.ntmps4 (fun _ _ _ => ?_)
 refine zR 1 ?_
 refine go_len (xs := l) zM (fun ll ml => ?_)
 refine go_len (xs := m) zM (fun lm mm => ?_)
 refine go_len (xs := a) zM (fun la ma => ?_)
 refine zC3 8 (law14Few l LA lc a A k) ?_
 refine zG 2 31 ?_ ?_
 ·intro g1
  (try simp only [dcs, ne_eq] at g1)
  refine zE 11 [0, 1, 2, 41] ?_
  refine zDt 0 ?_
  refine zC3 2 lawWorks30 ?_
  refine zT 2 rfl ⟨rfl, rfl, rfl⟩
 intro g1
 (try simp only [dcs, ne_eq] at g1)
 refine zC3 2 (law14Few m MA mc a A k) ?_
 refine zG 3 37 ?_ ?_
 ·intro g2
  (try simp only [dcs, ne_eq] at g2)
  refine zE 5 [0, 1, 2, 41] ?_
  refine zDt 0 ?_
  refine zC3 2 lawWorks30 ?_
  refine zT 2 rfl ⟨rfl, rfl, rfl⟩
 intro g2
 (try simp only [dcs, ne_eq] at g2)
 refine zE 5 [0, 1, 2, 41] ?_
 refine zB 0 ?_ ?_
 ·intro g3
  (try simp only [dcs, ne_eq] at g3)
  refine zC3 2 lawWorks30 ?_
  refine zT 2 rfl ⟨rfl, rfl, rfl⟩
 intro g3
 (try simp only [dcs, ne_eq] at g3)
 refine zR 2 ?_
 have fp := few14_of g1
 have hlen : l.length ≤ 20 ∧ a.length ≤ 30 := ⟨fp.1, fp.2.1⟩
 have hla : ∀ x ∈ a, x.a.length ≤ 30 := (few11_of fp.2.2.1).2.2
 have hbl : ∀ c ∈ l, c.b.length ≤ 1000 := fun c hc => Nat.le_trans ((few11_of fp.2.2.1).2.1 c hc).1 (by omega)
 have hfa : ∀ x ∈ a, x.ok ∧ x.a.length ≤ 100000 := fun x hx => ⟨ga x hx, Nat.le_trans (hla x hx) (by omega)⟩
 have hfl := fof_len a
 have fp2 := few14_of g2
 have hml : m.length ≤ 20 := fp2.1
 have hbm : ∀ c ∈ m, c.b.length ≤ 1000 := fun c hc => Nat.le_trans ((few11_of fp2.2.2.1).2.1 c hc).1 (by omega)
 refine zC 4 (impDiff l LA lc gl m MA mc gm a A k 60 hfa (by omega) (by omega) (fun c hc F R N new h => big14 fp (by omega) N c hc F R new h) (fun c hc F R N new h => big14 fp2 (by omega) N c hc F R new h)) ?_
 rintro _ _ _ ⟨A1, k1, A2, k2, x1, x2, e1, hD1, rfl, rfl, rfl⟩
 refine zC 13 (impDiff m MA mc gm l LA lc gl a A k 60 hfa (by omega) (by omega) (fun c hc F R N new h => big14 fp2 (by omega) N c hc F R new h) (fun c hc F R N new h => big14 fp (by omega) N c hc F R new h)) ?_
 rintro _ _ _ ⟨A3, k3, A4, k4, y1, y2, e2, hD2, rfl, rfl, rfl⟩
 refine zE 8 [0, 1, 2, 7, 8, 9, 10, 11, 12] ?_
 refine zC 4 (modelOf l LA lc a A k 60 gl hfa (by omega) (by omega) (fun c hc F R N new h => big14 fp (by omega) N c hc F R new h)) ?_
 rintro _ _ _ ⟨A5, k5, r5, e5, hM5, rfl, rfl, rfl⟩
 refine zC 10 (modelOf m MA mc a A k 60 gm hfa (by omega) (by omega) (fun c hc F R N new h => big14 fp2 (by omega) N c hc F R new h)) ?_
 rintro _ _ _ ⟨A6, k6, r6, e6, hM6, rfl, rfl, rfl⟩
 refine zE 6 [0, 2, 7, 8, 9, 10, 11, 12, 13, 14, 15, 16] ?_
 refine zR 2 ?_
 refine zU (X := Unit) (fun _ => [(86, .bool false)]) [0, 2, 7, 8, 9, 10, 11, 13, 14, 15] (fun _ => []) ([]) (fun _ => True) ?_ ?_
 ·skip
  have h1z := hD1.zero gl gm hM5 hM6
  have h2z := hD2.zero gm gl hM6 hM5
  refine zG' 6 75 ?_ ?_
  ·intro g5
   (try simp only [dcs, ne_eq] at g5)
   refine zR 4 ?_
   refine go_re 79 (.bool false) (by show some (Value.bool _) = _; rw [h1z]; simp [g5]) ?_
   refine zR 6 ?_
   refine go_re 85 (.bool false) (by show some (Value.bool _) = _; rw [h1z, h2z, Bool.and_comm]; simp) ?_
   refine zR 2 ?_
   refine zz (()) (trivial) (by decide)
  intro g5
  (try simp only [dcs, ne_eq] at g5)
  refine zR 4 ?_
  refine go_re 79 (.bool false) (by show some (Value.bool _) = _; rw [h1z]; simp [g5]) ?_
  refine zR 6 ?_
  refine go_re 85 (.bool false) (by show some (Value.bool _) = _; rw [h1z, h2z, Bool.and_comm]; simp) ?_
  refine zR 2 ?_
  refine zz (()) (trivial) (by decide)
 intro _ _
 refine zB 0 ?_ ?_
 ·intro g6
  exfalso; cases g6
 intro g6
 refine zR 7 ?_
 refine zU (X := Unit) (fun _ => []) [7, 8, 9, 10, 11, 13, 15] (fun _ => []) ([]) (fun _ => True) ?_ ?_
 ·skip
  refine zD' 0 ?_ ?_
  ·intro g7
   refine zR 1 ?_
   refine zz (()) (trivial) (by decide)
  intro g7
  refine zR 1 ?_
  subst g7
  obtain ⟨_, _, X, rfl, hXr, hXb, _⟩ := hM5.ok gl rfl
  refine go_own_nil tCl 32 none ?_
  refine zR 9 ?_
  refine zi 91 ?_
  refine zR 2 ?_
  refine go_re 18 (.int .i64 ((l.length : Int) - 1 - ((0 : Nat) : Int))) (congrArg (fun z : Int => some (Value.int IntKind.i64 z)) (show (l.length : Int) - 1 = (l.length : Int) - 1 - ((0 : Nat) : Int) by omega)) ?_
  refine zR 1 ?_
  refine zO (X := Nat × Option Addr × Nat) (fun x => [(17, .slice x.2.1 (l.reverse.take x.1).length x.2.2), (18, .int .i64 ((l.length : Int) - 1 - (x.1 : Int)))]) [0, 2, 7, 8, 9, 10, 11, 13, 15] (fun x => [ol tCl 32 x.2.1 x.2.2 (l.reverse.take x.1)]) (fun x => x.1 ≤ l.length) (fun x => l.length - x.1) (0, none, 0) (Nat.zero_le _) ?_
  intro ⟨j, A7, c7⟩ hj
  simp only at hj ⊢
  refine zD 6 ?_ ?_
  ·intro g9
   refine zR 3 ?_
   obtain ⟨jj, hjj⟩ : ∃ jj, jj = l.length - 1 - j := ⟨_, rfl⟩
   have hjl : jj < l.length := by omega
   refine go_re 18 (.int .i64 ((jj : Int))) (congrArg (fun z : Int => some (Value.int IntKind.i64 z)) (show (l.length : Int) - 1 - (j : Int) = (jj : Int) by omega)) ?_
   refine go_elem_cl (xs := l) zM (jj) (List.getElem?_eq_getElem (by omega)) (fun b1 o1 A9 c9 B9 d9 hA => ?_); cases hA
   refine zI 4 ?_
   refine zL 0 ?_
   refine zV 0 ?_
   intro b1
   refine go_append1 (T := tCl) (xs := (l.reverse.take j)) Tk (l[jj]) rfl rfl rfl rfl rfl rfl rfl rfl rfl zM zM rfl (ent_cl zM zM) (by rw [List.length_take, List.length_reverse]; omega) zH ?_
   intro A8 c8
   refine zR 8 ?_
   refine zi 18 ?_
   refine go_re 18 (.int .i64 ((l.length : Int) - 1 - ((j + 1 : Nat) : Int))) (congrArg (fun z : Int => some (Value.int IntKind.i64 z)) (show (jj : Int) - 1 = (l.length : Int) - 1 - ((j + 1 : Nat) : Int) by omega)) ?_
   rw [rev_next (by omega) hjj hjl]
   refine zz (j + 1, A8, c8) (by show j + 1 ≤ _; omega) (by show _ - (j + 1) < _ - j; omega)
  intro g9
  refine zR 2 ?_
  rw [show j = l.length by omega, show l.reverse.take l.length = l.reverse by rw [← List.length_reverse, List.take_length]]
  refine go_freeze_ol (xs := l.reverse) zM ?_
  refine zC 4 (impDiff l LA lc gl l.reverse A7 c7 (fun c hc => gl c (List.mem_reverse.1 hc)) a A k 60 hfa (by omega) (by omega) (fun c hc F R N new h => big14 fp (by omega) N c hc F R new h) (fun c hc F R N new h => big14 fp (by omega) N c (List.mem_reverse.1 hc) F R new h)) ?_
  rintro _ _ _ ⟨A10, k10, A11, k11, u, v, e3, hD3, rfl, rfl, rfl⟩
  obtain ⟨rfl, rfl, rfl⟩ := diff_rev gl hM5 (fun c => List.mem_reverse) (by rw [List.length_reverse]; omega) hD3
  refine zE 8 [7, 8, 9, 10, 11, 13, 15, 19, 20, 21] ?_
  refine zR 4 ?_
  refine go_re 112 (.bool false) (by show some (Value.bool _) = _; simp) ?_
  refine zR 6 ?_
  refine go_re 118 (.int .i64 0) (by rfl) ?_
  refine zR 1 ?_
  refine go_re 119 (.bool false) (by show some (Value.bool _) = _; rfl) ?_
  refine zE 2 [7, 8, 9, 10, 11, 13, 15, 120] ?_
  refine zDf 0 ?_
  refine zR 1 ?_
  refine zz (()) (trivial) (by decide)
 intro _ _
 refine zN 6 ?_ ?_
 ·intro g8
  refine zC3 2 lawWorks30 ?_
  refine zT 2 rfl ⟨rfl, rfl, rfl⟩
 intro g8
 have e10 : e1 = 0 := g8
 have hz := hD1.zero gl gm hM5 hM6
 rw [decide_eq_true e10] at hz
 have he5 : e5 = 0 := by by_cases w : e5 = 0; exact w; rw [decide_eq_false w] at hz; cases hz
 have he6 : e6 = 0 := by by_cases w : e6 = 0; exact w; rw [decide_eq_false w, Bool.and_false] at hz; cases hz
 subst he5
 subst he6
 obtain ⟨_, _, X, rfl, hXr, hXb, _⟩ := hM5.ok gl rfl
 obtain ⟨_, _, Y, rfl, hYr, hYb, _⟩ := hM6.ok gm rfl
 obtain ⟨w, _⟩ | ⟨_, w, _⟩ | ⟨_, _, rfl, rfl, _⟩ := hD1.at_ gl gm hM5 hM6
 ·exact absurd rfl w
 ·exact absurd rfl w
 obtain ⟨w, _⟩ | ⟨_, w, _⟩ | ⟨_, _, rfl, rfl, _⟩ := hD2.at_ gm gl hM6 hM5
 ·exact absurd rfl w
 ·exact absurd rfl w
 refine go_re 13 (.slice A5 X.length k5) (by rfl) ?_
 refine go_sl (sl tFa A5 k5 ((some X).getD [])) (sl tFa A5 k5 X) zM (fun _ h => h) ?_
 refine go_re 15 (.slice A6 Y.length k6) (by rfl) ?_
 refine go_sl (sl tFa A6 k6 ((some Y).getD [])) (sl tFa A6 k6 Y) zM (fun _ h => h) ?_
 have hlx := less_len X Y
 have hly := less_len Y X
 refine go_re 7 (.slice A1 (less Y X).length k1) (by rfl) ?_
 refine go_re 8 (.slice A2 (less X Y).length k2) (by rfl) ?_
 refine go_re 10 (.slice A3 (less X Y).length k3) (by rfl) ?_
 refine go_re 11 (.slice A4 (less Y X).length k4) (by rfl) ?_
 refine go_sl (sl tFa A1 k1 (less ((some Y).getD []) ((some X).getD []))) (sl tFa A1 k1 (less Y X)) zM (fun _ h => h) ?_
 refine go_sl (sl tFa A2 k2 (less ((some X).getD []) ((some Y).getD []))) (sl tFa A2 k2 (less X Y)) zM (fun _ h => h) ?_
 refine go_sl (sl tFa A3 k3 (less ((some X).getD []) ((some Y).getD []))) (sl tFa A3 k3 (less X Y)) zM (fun _ h => h) ?_
 refine go_sl (sl tFa A4 k4 (less ((some Y).getD []) ((some X).getD []))) (sl tFa A4 k4 (less Y X)) zM (fun _ h => h) ?_
 refine zC3 6 (ref13Same A1 k1 (less Y X) A4 k4 (less Y X)) ?_
 refine zR 1 ?_
 refine go_re 127 (.bool false) (by show some (Value.bool _) = _; simp) ?_
 refine zC3 3 (ref13Same A2 k2 (less X Y) A3 k3 (less X Y)) ?_
 refine zR 1 ?_
 refine go_re 132 (.bool false) (by show some (Value.bool _) = _; simp) ?_
 refine zE 2 [7, 8, 13, 15, 133] ?_
 refine zDf 0 ?_
 refine zR 7 ?_
 refine go_len (xs := X) zM (fun lX mX => ?_)
 refine go_own_nil tFa 40 none ?_
 refine go_same (B := ol tFa 40 none 0 (less (X.take (0)) (less X Y))) .here (by rfl) ?_
 refine zR 4 ?_
 refine zO (X := Nat × Option Addr × Nat) (fun x => [(22, .slice x.2.1 (less (X.take (x.1)) (less X Y)).length x.2.2), (23, .int .i64 (x.1 : Int))]) [7, 8, 13, 15] (fun x => [ol tFa 40 x.2.1 x.2.2 (less (X.take (x.1)) (less X Y))]) (fun x => x.1 ≤ X.length) (fun x => X.length - x.1) (0, none, 0) (Nat.zero_le _) ?_
 intro ⟨n, A12, c12⟩ hn
 simp only at hn ⊢
 have hsl := less_take X (less X Y) n
 refine zD' 8 ?_ ?_
 ·intro hq1
  refine zR 3 ?_
  rw [show X.take n = X from List.take_of_length_le (by omega)]
  refine go_len (xs := (less Y X)) zM (fun lg mg => ?_)
  refine zR 4 ?_
  refine zO (X := Nat) (fun i => [(26, .int .i64 (i : Int))]) [7, 13, 15, 22] (fun _ => []) (fun i => i ≤ (less Y X).length) (fun i => (less Y X).length - i) 0 (by omega) ?_
  intro i hi
  refine zD 8 ?_ ?_
  ·intro hq3
   refine zR 4 ?_
   refine go_elem_fa (xs := (less Y X)) (c := k1) zM (i) (List.getElem?_eq_getElem (by omega)) (fun b5 o5 A16 c16 hA => ?_); cases hA
   refine zI 4 ?_
   refine zL 0 ?_
   refine zC3 0 (ref13Has A5 k5 X (less Y X)[i] A16 c16) ?_
   refine go_re 178 (.bool false) (by show some (Value.bool _) = _; rw [decide_eq_false (mem_less.1 (List.getElem_mem _)).2]) ?_
   refine zDf 1 ?_
   refine zR 7 ?_
   refine zi 26 ?_
   refine zz (i + 1) (by omega) (by omega)
  intro hq3
  refine zR 2 ?_
  have hlw := less_len X (less X Y)
  refine zR 3 ?_
  refine go_appendN (T := tFa) (xs := less X (less X Y)) (ys := (less Y X)) Tk rfl rfl rfl rfl rfl rfl rfl rfl rfl zM rfl zM (by omega) zH ?_
  intro A17 c17
  refine go_freeze_ol (xs := less X (less X Y) ++ less Y X) zM ?_
  refine zC 0 (ref13Sorted A17 c17 (less X (less X Y) ++ less Y X) (by rw [List.length_append]; omega)) ?_
  rintro _ _ _ ⟨A18, c18, rfl, rfl, rfl⟩
  rw [back_again hYr]
  refine zC3 1 (ref13Same A18 c18 Y A6 k6 Y) ?_
  refine go_re 184 (.bool true) (by show some (Value.bool _) = _; simp) ?_
  refine zC3 1 lawWorks30 ?_
  refine zE 3 [6] ?_
  refine zT 0 rfl ⟨rfl, rfl, rfl⟩
 intro hq1
 refine zR 4 ?_
 refine go_len (xs := (less X Y)) zM (fun ls ms => ?_)
 refine zR 5 ?_
 refine go_elem_fa (xs := X) zM (n) (List.getElem?_eq_getElem (by omega)) (fun b3 o3 A14 c14 hA => ?_); cases hA
 refine zR 4 ?_
 refine zO (X := Nat) (fun x => [(24, .bool (decide (X[n] ∈ (less X Y).take (x)))), (25, .int .i64 (x : Int))]) [7, 8, 13, 15, 22, 23] (fun _ => []) (fun x => x ≤ (less X Y).length) (fun x => (less X Y).length - x) 0 (Nat.zero_le _) ?_
 intro j hj
 refine zD' 8 ?_ ?_
 ·intro hq2
  refine zR 2 ?_
  refine go_re 24 (.bool (decide (X[n] ∈ less X Y))) (by show some (Value.bool _) = _; rw [List.take_of_length_le (show (less X Y).length ≤ j by omega)]) ?_
  refine zB' 4 ?_ ?_
  ·intro g12
   (try simp only [dcs, ne_eq] at g12)
   refine zR 7 ?_
   refine go_i64n 23 (n + 1) rfl ?_
   rw [less_no (by omega) g12]
   refine zz (n + 1, A12, c12) (by show n + 1 ≤ _; omega) (by show _ - (n + 1) < _ - n; omega)
  intro g12
  (try simp only [dcs, ne_eq] at g12)
  refine zI 4 ?_
  refine zL 0 ?_
  refine zV 0 ?_
  intro b2
  refine go_append1 (T := tFa) (xs := less (X.take (n)) (less X Y)) Tk (X[n]) rfl rfl rfl rfl rfl rfl rfl rfl rfl zM zM rfl (ent_fa zM) (by omega) zH ?_
  intro A13 c13
  refine zE 2 [7, 8, 13, 15, 22, 23] ?_
  refine zR 6 ?_
  refine go_i64n 23 (n + 1) rfl ?_
  rw [less_yes (by omega) g12]
  refine zz (n + 1, A13, c13) (by show n + 1 ≤ _; omega) (by show _ - (n + 1) < _ - n; omega)
 intro hq2
 refine zR 3 ?_
 refine go_elem_fa (xs := (less X Y)) (c := k2) zM (j) (List.getElem?_eq_getElem (by omega)) (fun b4 o4 A15 c15 hA => ?_); cases hA
 refine go_draw ([cl b3 (o3 + n * 2) [.int .u32 X[n].p, .slice A14 X[n].a.length c14], cl b4 (o4 + j * 2) [.int .u32 (less X Y)[j].p, .slice A15 (less X Y)[j].a.length c15]]) ([]) [5, 9] (SL.pre [(1, 0), (1, 1), (1, 2), (1, 3), (1, 4), (1, 6), (1, 7), (1, 8), (2, 5), (2, 9), (0, 10), (1, 11), (1, 12)] .nil) mixed rfl (by kernel_rfl) ?_
 refine zG 2 147 ?_ ?_
 ·intro g10
  (try simp only [dcs, ne_eq] at g10)
  refine zJ 6 ?_
  refine zJ 0 ?_
  refine zR 4 ?_
  refine go_re 24 (.bool (decide (X[n] ∈ (less X Y).take (j + 1)))) (by show some (Value.bool _) = _; rw [in_take_succ (by omega)]; first | (rw [decide_eq_true g10]; rfl) | (rw [decide_eq_false g10, Bool.false_or, ← decide_eq_decide.2 (cmpF_zero (x := X[n]) (q := (less X Y)[j]))])) ?_
  refine zR 6 ?_
  refine go_i64n 25 (j + 1) rfl ?_
  refine zz (j + 1) (by omega) (by omega)
 intro g10
 (try simp only [dcs, ne_eq] at g10)
 refine zI 2 ?_
 refine zI 2 ?_
 refine zK 0 ?_
 refine zK 0 ?_
 refine zC3 0 (refSameFact _ _ _ _ _ _ _ _) ?_
 refine zR 3 ?_
 refine go_re 24 (.bool (decide (X[n] ∈ (less X Y).take (j + 1)))) (by show some (Value.bool _) = _; rw [in_take_succ (by omega)]; first | (rw [decide_eq_true g10]; rfl) | (rw [decide_eq_false g10, Bool.false_or, ← decide_eq_decide.2 (cmpF_zero (x := X[n]) (q := (less X Y)[j]))])) ?_
 refine zR 6 ?_
 refine go_i64n 25 (j + 1) rfl ?_
 refine zz (j + 1) (by omega) (by omega)
end Go.Proofs.YtdconhalfanclaaGreat.SL
namespace Go.Proofs.YtdconhalfanclaaGreat.SL
open Go.RowKit Go.Deep
def Opens (P : Program) (t : TypeId) {α : Type} (T : Ty α) (G : α → Prop) : Prop :=
  ∀ {H : Type} {enc : TypeId × Value → H} {W : World} {base : Nat} {sp : Nat → Bool} {hd : Bool} {fuel : Nat} {cs : List Value} {x : DataW H × List MemPlace}, DataW.trod enc P W base sp hd fuel t cs = some x → ∃ v, T.rep (hpOf W) v cs ∧ G v
theorem wf_u32 {n : Int} (h : (Lit.int .u32 n).wf = true) : 0 ≤ n ∧ n < 4294967296 := by
  simp [Lit.wf, IntKind.min, IntKind.max, IntKind.signed, IntKind.bits] at h; omega
theorem wf_u8 {n : Int} (h : (Lit.int .u8 n).wf = true) : 0 ≤ n ∧ n < 256 := by
  simp [Lit.wf, IntKind.min, IntKind.max, IntKind.signed, IntKind.bits] at h; omega
section
variable {P : Program}
theorem opens_int {t : TypeId} {k : IntKind} (ht : P.underlying t = some (.int k)) : Opens P t (tInt k) (fun n => (Lit.int k n).wf = true) := fun h => by
  obtain ⟨n, rfl, _, hw⟩ := DataW.trod_int ht h
  exact ⟨n, rfl, hw⟩
theorem opens_bool {t : TypeId} (ht : P.underlying t = some .bool) : Opens P t tBool (fun _ => True) := fun h => by
  obtain ⟨n, rfl, _⟩ := DataW.trod_bool ht h
  exact ⟨n, rfl, trivial⟩
theorem opens_iso {t : TypeId} {α β : Type} {T : Ty β} {G : β → Prop} {G' : α → Prop} (f : α → β) (g : β → α) (o : Opens P t T G) (hg : ∀ b, f (g b) = b) (hG : ∀ b, G b → G' (g b)) : Opens P t (tIso T f) G' := fun h => by
  obtain ⟨v, r, q⟩ := o h
  exact ⟨g v, by show T.rep _ (f (g v)) _; rw [hg]; exact r, hG v q⟩
theorem opens_pair {t : TypeId} {f0 f1 : Field} {α β : Type} {T : Ty α} {U : Ty β} {G : α → Prop} {K : β → Prop} (ht : P.underlying t = some (.struct #[f0, f1])) (o0 : Opens P f0.type T G) (o1 : Opens P f1.type U K)
    (h0 : f0.offset = 0) (h1 : f1.offset = T.size) (c0 : P.cellsOf f0.type = T.size) (c1 : P.cellsOf f1.type = U.size) (ct : P.cellsOf t = T.size + U.size) : Opens P t (tPair T U) (fun x => G x.1 ∧ K x.2) := fun h => by
  obtain ⟨xs, n, _, rfl, hl, hlen, hf⟩ := DataW.trod_struct ht h
  match xs, hlen with
  | [y0, y1], _ =>
    have e0 := hf 0 f0 rfl
    have e1 := hf 1 f1 rfl
    obtain ⟨v0, r0, g0⟩ := o0 (by simpa using e0)
    obtain ⟨v1, r1, g1⟩ := o1 (by simpa using e1)
    refine ⟨(v0, v1), ⟨_, _, ?_, r0, r1⟩, g0, g1⟩
    rw [h0, h1, c0, c1, List.drop_zero]
    rw [ct] at hl
    rw [List.take_of_length_le (l := List.drop _ _) (by simp; omega), List.take_append_drop]
theorem opens_slice {t e : TypeId} {α : Type} {T : Ty α} {G : α → Prop} (ht : P.underlying t = some (.slice e)) (o : Opens P e T G) (hc : P.cellsOf e = T.size) (hp : 0 < T.size) : Opens P t (tSl T) (fun xs => ∀ x ∈ xs, G x) := fun {H enc W base sp hd fuel cs x} h => by
  rcases open_slice ht h with ⟨rfl, _⟩ | ⟨a, len, cap, m, n, D, Pl, rfl, hb, hl, hm, hmm, rfl, hx⟩
  · exact ⟨[], ⟨none, 0, rfl, by simp, by simp [maxLen], fun _ => rfl, fun j x hj => by simp at hj⟩, fun x hx => by cases hx⟩
  · have hlm : len ≤ m := by rw [hmm]; split <;> omega
    have el : ∀ i, i < len → ∃ v, (∃ cs, T.rep (hpOf W) v cs ∧ W.cells? base (a.add (i * T.size)) T.size = some cs) ∧ G v := fun i hi => by
      obtain ⟨cs', h1, h2⟩ := hx i (by omega)
      obtain ⟨v, r, g⟩ := o h2
      rw [hc] at h1
      exact ⟨v, ⟨cs', r, h1⟩, g⟩
    have ex : ∃ xs : List α, xs.length = len ∧ ∀ i x, xs[i]? = some x → (∃ cs, T.rep (hpOf W) x cs ∧ W.cells? base (a.add (i * T.size)) T.size = some cs) ∧ G x := by
      have key : ∀ k, k ≤ len → ∃ xs : List α, xs.length = k ∧ ∀ i x, xs[i]? = some x → (∃ cs, T.rep (hpOf W) x cs ∧ W.cells? base (a.add (i * T.size)) T.size = some cs) ∧ G x := by
        intro k
        induction k with
        | zero => exact fun _ => ⟨[], rfl, fun i x hx => by simp at hx⟩
        | succ k ih =>
          intro hk
          obtain ⟨xs, h1, h2⟩ := ih (by omega)
          obtain ⟨v, hv⟩ := el k (by omega)
          refine ⟨xs ++ [v], by simp [h1], fun i x hx => ?_⟩
          rw [List.getElem?_append] at hx
          split at hx
          · exact h2 i x hx
          · rename_i hlt
            have : i = k := by
              rcases Nat.eq_or_lt_of_le (show xs.length ≤ i by omega) with q | q
              · omega
              · rw [List.getElem?_eq_none (by simp; omega)] at hx; cases hx
            subst this
            simp [h1] at hx
            subst hx
            exact hv
      exact key len (Nat.le_refl _)
    obtain ⟨xs, h1, h2⟩ := ex
    refine ⟨xs, ⟨some a, cap, by rw [h1], by omega, hm, fun e => (by cases e), fun j x hj => ?_⟩, fun x hx => ?_⟩
    · obtain ⟨⟨cs, r, hcs⟩, _⟩ := h2 j x hj
      obtain ⟨_, hln, hget⟩ := World.cells?_some hcs
      have hspot : a.spot = none := by
        obtain ⟨v0, hv0⟩ : ∃ v, xs[0]? = some v := by
          cases xs with
          | nil => simp at hj
          | cons v l => exact ⟨v, rfl⟩
        obtain ⟨⟨cs0, _, hcs0⟩, _⟩ := h2 0 v0 hv0
        obtain ⟨_, hln0, hget0⟩ := World.cells?_some hcs0
        have := hget0 0 hp
        rw [List.getElem?_eq_getElem (by omega)] at this
        simp only [Nat.zero_mul, Addr.add, if_true, World.cell?] at this
        split at this
        · cases hs : a.spot with
          | none => rfl
          | some q => rw [hs] at this; simp at this
        · cases this
      obtain ⟨b, oo, sp0⟩ := a
      cases hspot
      refine ⟨b, oo, cs, rfl, r, fun i v hi => ?_⟩
      have hlt : i < T.size := by
        rw [← hln]
        rcases Nat.lt_or_ge i cs.length with q | q
        · exact q
        · simp [q] at hi
      have := hget i hlt
      rw [run_addOff, run_addOff, hi] at this
      unfold World.cell? at this
      unfold cellH hpOf
      rw [Nat.add_assoc] at this
      simp only at this ⊢
      split at this
      · rename_i e
        simp only [e]
        simpa using this
      · cases this
    · obtain ⟨j, hj, rfl⟩ := List.getElem_of_mem hx
      exact (h2 j _ (List.getElem?_eq_getElem hj)).2
theorem Spec.law {f : FuncId} {args : Array Value} {Ps : List PA} (s : Spec P f args Ps [] (fun v Ps' Os' => v = .bool true ∧ Ps' = [] ∧ Os' = [])) (W : World) (h : ∀ p, p ∈ Ps → p.p (hpOf W)) :
    Calls P f args W fun e W' => e = .returned (.bool true) ∧ Below W.heap.size W W' := by
  refine (s.calls W (hpOf W) Heap.nil Heap.nil ⟨Heap.le_refl _, Heap.nil_le _, Heap.dj_symm (Heap.nil_dj _), h, trivial⟩ (Heap.nil_le _) (Heap.nil_dj _) (Heap.nil_dj _)).mono ?_
  rintro e w' ⟨v, hp', ho', Ps', Os', rfl, ⟨rfl, _, _⟩, hs, hle, _, _, _, hr⟩
  refine ⟨rfl, hr.os, hr.tape, hr.output, hr.size, fun k hk => ?_⟩
  have h1 : hpOf W k = some W.heap[k] := by simp [hpOf, hk]
  have h2 := hs.inp _ _ (hle _ _ h1)
  unfold hpOf at h1 h2
  rw [h1, h2]
end
end Go.Proofs.YtdconhalfanclaaGreat.SL
namespace Go.Proofs.YtdconhalfanclaaGreat.SL
theorem opU : Opens Tryz.prog 26 tU (fun n => 0 ≤ n ∧ n < 4294967296) := fun h => (opens_int Tryz.underlying26 h).imp fun v q => ⟨q.1, wf_u32 q.2⟩
theorem opUs : Opens Tryz.prog 38 (tSl tU) (fun xs => ∀ x ∈ xs, (fun n : Int => 0 ≤ n ∧ n < 4294967296) x) := opens_slice Tryz.underlying38 opU (by kernel_rfl) (by decide)
theorem opFa : Opens Tryz.prog 40 tFa Fa.ok := opens_iso (fun x : Fa => (x.p, x.a)) (fun b => ⟨b.1, b.2⟩) (opens_pair Tryz.underlying40 opU opUs rfl rfl (by kernel_rfl) (by kernel_rfl) (by kernel_rfl)) (fun b => rfl) (fun b g => g)
theorem opFas : Opens Tryz.prog 23 (tSl tFa) (fun xs => ∀ x ∈ xs, Fa.ok x) := opens_slice Tryz.underlying23 opFa (by kernel_rfl) (by decide)
theorem opTm : Opens Tryz.prog 73 tTm Tm.ok := opens_iso (fun x : Tm => (x.v, x.n)) (fun b => ⟨b.1, b.2⟩) (opens_pair Tryz.underlying73 (opens_bool Tryz.underlying4) opU rfl rfl (by kernel_rfl) (by kernel_rfl) (by kernel_rfl)) (fun b => rfl) (fun b g => g.2)
theorem opTms : Opens Tryz.prog 27 (tSl tTm) (fun xs => ∀ x ∈ xs, Tm.ok x) := opens_slice Tryz.underlying27 opTm (by kernel_rfl) (by decide)
theorem opAm : Opens Tryz.prog 29 tAm Am.ok := opens_iso (fun x : Am => (x.p, x.a)) (fun b => ⟨b.1, b.2⟩) (opens_pair Tryz.underlying29 opU opTms rfl rfl (by kernel_rfl) (by kernel_rfl) (by kernel_rfl)) (fun b => rfl) (fun b g => g)
theorem opLi : Opens Tryz.prog 34 tLi (fun x : Li => x.a.ok) := opens_iso (fun x : Li => (x.no, x.a)) (fun b => ⟨b.1, b.2⟩) (opens_pair Tryz.underlying34 (opens_bool Tryz.underlying4) opAm rfl rfl (by kernel_rfl) (by kernel_rfl) (by kernel_rfl)) (fun b => rfl) (fun b g => g.2)
theorem opLis : Opens Tryz.prog 30 (tSl tLi) (fun xs => ∀ x ∈ xs, (fun x : Li => x.a.ok) x) := opens_slice Tryz.underlying30 opLi (by kernel_rfl) (by decide)
theorem opCl : Opens Tryz.prog 32 tCl Cl.ok := opens_iso (fun x : Cl => (x.h, x.b)) (fun b => ⟨b.1, b.2⟩) (opens_pair Tryz.underlying32 opAm opLis rfl rfl (by kernel_rfl) (by kernel_rfl) (by kernel_rfl)) (fun b => rfl) (fun b g => ⟨g.1, g.2⟩)
theorem opCls : Opens Tryz.prog 22 (tSl tCl) (fun xs => ∀ x ∈ xs, Cl.ok x) := opens_slice Tryz.underlying22 opCl (by kernel_rfl) (by decide)
theorem sized_len {H : Type} {enc : TypeId × Value → H} {P : Program} {W : World} {base : Nat} {sp : Nat → Bool} {hd : Bool} {fuel : Nat} {ts : List TypeId} {ds : List (DataW H)} {j : Nat} {t e : TypeId} {cs : List Value} {x : DataW H × List MemPlace} {A : Option Addr} {n c : Nat}
    (h : (DataW.weightsEach P ts ds).all (· ≤ reachBytes) = true) (ht : ts[j]? = some t) (hd' : ds[j]? = some x.1) (hu : P.underlying t = some (.slice e)) (hx : DataW.trod enc P W base sp hd fuel t cs = some x) (hc : cs = [.slice A n c]) (hb : Nat.ble 1 (P.bytesOf e) = true) : n ≤ 140737488351232 := by
  subst hc
  rcases Deep.open_slice hu hx with ⟨h1, _⟩ | ⟨a, len, cap, m, q, D, Pl, h1, _, _, _, _, rfl, _⟩
  · cases h1; omega
  · cases h1
    have := sized_slice h ht hd' hu
    have hb' := Nat.le_of_ble_eq_true hb
    have h2 : n ≤ n * P.bytesOf e := Nat.le_mul_of_pos_right _ hb'
    simp only [List.length_map, List.length_range] at this
    rw [Nat.add_mul] at this
    have h3 : reachBytes = 140737488351232 := rfl
    omega
end Go.Proofs.YtdconhalfanclaaGreat.SL
namespace Go.Proofs.YtdconhalfanclaaGreat.SL
open Go Md
set_option maxHeartbeats 16000000 in
theorem lawImpactLeast (l : List Cl) (LA : Option Addr) (lc : Nat) (gl : ∀ c ∈ l, c.ok) (zl : l.length ≤ 140737488351232) (a : List Fa) (A : Option Addr) (k : Nat) (ga : ∀ x ∈ a, x.ok) (za : a.length ≤ 140737488351232) (pk : Int) (hat : 0 ≤ pk ∧ pk < 256) :
    Spec Tryz.prog 3 #[.slice LA l.length lc, .slice A a.length k, .int .u8 pk] [sl tCl LA lc l, sl tFa A k a] [] (fun v Ps' Os' => v = .bool true ∧ Ps' = [] ∧ Os' = []) := by
 refine zSp _ Tryz.func3 Tryz.ntmps3 (fun _ _ _ => ?_)
 refine zR 1 ?_
 obtain ⟨t, rfl⟩ : ∃ t : Nat, pk = (t : Int) := ⟨pk.toNat, by omega⟩
 refine go_len (xs := l) zM (fun ll ml => ?_)
 refine go_len (xs := a) zM (fun la ma => ?_)
 refine zC3 8 (law14Few l LA lc a A k) ?_
 refine zG 2 28 ?_ ?_
 ·intro g1
  (try simp only [dcs, ne_eq] at g1)
  refine zDt 5 ?_
  refine zC3 2 lawWorks30 ?_
  refine zE 2 [6] ?_
  refine zT 0 rfl ⟨rfl, rfl, rfl⟩
 intro g1
 (try simp only [dcs, ne_eq] at g1)
 refine zB 5 ?_ ?_
 ·intro g3
  (try simp only [dcs, ne_eq] at g3)
  refine zC3 2 lawWorks30 ?_
  refine zE 2 [6] ?_
  refine zT 0 rfl ⟨rfl, rfl, rfl⟩
 intro g3
 (try simp only [dcs, ne_eq] at g3)
 refine zR 3 ?_
 have fp := few14_of g1
 have hlen : l.length ≤ 20 ∧ a.length ≤ 30 := ⟨fp.1, fp.2.1⟩
 have hla : ∀ x ∈ a, x.a.length ≤ 30 := (few11_of fp.2.2.1).2.2
 have hbl : ∀ c ∈ l, c.b.length ≤ 1000 := fun c hc => Nat.le_trans ((few11_of fp.2.2.1).2.1 c hc).1 (by omega)
 have hfa : ∀ x ∈ a, x.ok ∧ x.a.length ≤ 100000 := fun x hx => ⟨ga x hx, Nat.le_trans (hla x hx) (by omega)⟩
 have hfl := fof_len a
 refine zR 4 ?_
 refine zO (X := Nat) (fun i => [(7, .int .i64 (i : Int))]) [0, 1, 2] (fun _ => []) (fun i => i ≤ l.length ∧ ∀ c ∈ l.take i, ∀ x ∈ c.b, x.no = false) (fun i => l.length - i) 0 ⟨by omega, by simp⟩ ?_
 intro i ⟨hi, hz⟩
 refine zD 8 ?_ ?_
 ·intro hq1
  refine zR 4 ?_
  refine go_elem_cl (xs := l) zM (i) (List.getElem?_eq_getElem (by omega)) (fun b1 o1 A11 c11 B11 d11 hA => ?_); cases hA
  refine go_len (xs := l[i].b) zM (fun l1 m1 => ?_)
  refine zR 4 ?_
  refine zO (X := Nat) (fun j => [(8, .int .i64 (j : Int))]) [0, 1, 2, 7] (fun _ => []) (fun j => j ≤ l[i].b.length ∧ ∀ x ∈ l[i].b.take j, x.no = false) (fun j => l[i].b.length - j) 0 ⟨by omega, by simp⟩ ?_
  intro j ⟨hj, hy⟩
  refine zI 6 ?_
  refine zL 1 ?_
  refine zD' 3 ?_ ?_
  ·intro hq2
   refine zR 7 ?_
   refine zi 7 ?_
   refine zz (i + 1) (⟨by omega, mem_take_next (by omega) hz (by rw [List.take_of_length_le (by omega)] at hy; exact hy)⟩) (by omega)
  intro hq2
  refine zR 4 ?_
  refine go_elem_li (xs := l[i].b) zM (j) (List.getElem?_eq_getElem (by omega)) (fun b2 o2 A12 c12 hA => ?_); cases hA
  refine zI 3 ?_
  refine zL 1 ?_
  refine zI 1 ?_
  refine zL 1 ?_
  refine zE 1 [0, 1, 2, 7, 8, 58] ?_
  refine zB 0 ?_ ?_
  ·intro g5
   (try simp only [dcs, ne_eq] at g5)
   refine zC3 2 lawWorks30 ?_
   refine zT 2 rfl ⟨rfl, rfl, rfl⟩
  intro g5
  (try simp only [dcs, ne_eq] at g5)
  refine zR 7 ?_
  refine zi 8 ?_
  refine zz (j + 1) (⟨by omega, mem_take_next (by omega) hy g5⟩) (by omega)
 intro hq1
 refine zR 2 ?_
 rw [List.take_of_length_le (by omega)] at hz
 have hpos : posL l := hz
 refine zC 3 (modelOf l LA lc a A k 60 gl hfa (by omega) (by omega) (fun c hc F R N new h => big14 fp (by omega) N c hc F R new h)) ?_
 rintro _ _ _ ⟨A1, k1, r1, e1, hM1, rfl, rfl, rfl⟩
 refine zG 12 68 ?_ ?_
 ·intro g6
  (try simp only [dcs, ne_eq] at g6)
  refine zE 5 [0, 1, 2, 9, 72] ?_
  refine zDt 0 ?_
  refine zC3 2 lawWorks30 ?_
  refine zT 2 rfl ⟨rfl, rfl, rfl⟩
 intro g6
 (try simp only [dcs, ne_eq] at g6)
 subst g6
 obtain ⟨hRP, _, M, rfl, hMr, hMb, hMs⟩ := hM1.ok gl rfl
 refine go_re 9 (.slice A1 M.length k1) (by rfl) ?_
 refine go_sl (sl tFa A1 k1 ((some M).getD [])) (sl tFa A1 k1 M) zM (fun _ h => h) ?_
 refine go_len (xs := M) zM (fun lM mM => ?_)
 refine zE 5 [0, 1, 2, 9, 72] ?_
 refine zB 0 ?_ ?_
 ·intro g7
  (try simp only [dcs, ne_eq] at g7)
  refine zC3 2 lawWorks30 ?_
  refine zT 2 rfl ⟨rfl, rfl, rfl⟩
 intro g7
 (try simp only [dcs, ne_eq] at g7)
 refine zR 6 ?_
 refine go_re 76 (.int .i64 (t : Int)) (by show some (Value.int _ _) = _; rw [wrap_i64 (by omega) (by omega)]) ?_
 refine zR 2 ?_
 refine go_val0 rfl (rem_val rfl rfl rfl (by omega)) rfl ?_
 obtain ⟨qq, hqq, hql⟩ : ∃ qq, t % M.length = qq ∧ qq < M.length := ⟨_, rfl, Nat.mod_lt _ (by omega)⟩
 refine go_re 79 (.int .i64 (qq : Int)) (by rw [← hqq]; rfl) ?_
 refine go_elem_fa (xs := M) zM (qq) (List.getElem?_eq_getElem (by omega)) (fun b3 o3 A2 c2 hA => ?_); cases hA
 have hin : M[qq] ∈ M := List.getElem_mem _
 refine zI 0 ?_
 refine zL 0 ?_
 refine zW 0 ?_
 intro bx
 refine zS 0 ?_
 refine zR 1 ?_
 refine go_freeze_pt (b := bx) zM ?_
 refine zL 4 ?_
 refine zC 0 (impKeys l LA lc gl a A k M[qq] A2 c2 60 hfa (by omega) (by omega) (fun c hc F R N new h => big14 fp (by omega) N c hc F R new h)) ?_
 rintro _ _ _ ⟨A3, k3, e3, hE3, rfl, rfl, rfl⟩
 obtain rfl := ask_in gl hM1 hin hE3
 rw [if_pos rfl]
 refine zE 6 [0, 1, 11, 12, 13] ?_
 refine zL 4 ?_
 refine zC 0 (impRest l LA lc gl a A k M[qq] A2 c2 60 hfa (by omega) (by omega) (fun c hc F R N new h => big14 fp (by omega) N c hc F R new h)) ?_
 rintro _ _ _ ⟨A4, k4, e4, hE4, rfl, rfl, rfl⟩
 obtain rfl := ask_in gl hM1 hin hE4
 rw [if_pos rfl]
 refine zR 11 ?_
 refine go_re 97 (.bool false) (by show some (Value.bool _) = _; simp) ?_
 refine zR 3 ?_
 refine go_re 100 (.bool false) (by show some (Value.bool _) = _; simp) ?_
 refine zE 2 [0, 1, 11, 12, 14, 101] ?_
 refine zDf 0 ?_
 refine zR 3 ?_
 refine go_len (xs := cs (keysP (fun g => isW l (kq g a a.length) M[qq] 60) a.length a.length)) zM (fun lK mK => ?_)
 refine go_len (xs := cs (restL (fun g => isW l (kq g a a.length) M[qq] 60) a.length)) zM (fun lR mR => ?_)
 have hKl := cs_len (keysP (fun g => isW l (kq g a a.length) M[qq] 60) a.length a.length)
 have hKa : (cs (keysP (fun g => isW l (kq g a a.length) M[qq] 60) a.length a.length)).length ≤ a.length := keysP_len _ _ _
 have hRa : (cs (restL (fun g => isW l (kq g a a.length) M[qq] 60) a.length)).length ≤ a.length := restL_len _ _
 have hKm : ∀ kk : Nat, kk ∈ (keysP (fun g => isW l (kq g a a.length) M[qq] 60) a.length a.length) → kk < a.length := fun kk w => (keysP_mem.1 w).1
 refine zR 3 ?_
 refine go_re 16 (.int .i64 (((0 : Nat) : Int) - 1)) (by rfl) ?_
 refine zR 1 ?_
 refine zO (X := Nat) (fun x => [(16, .int .i64 ((x : Int) - 1))]) [0, 1, 11, 12, 14] (fun _ => []) (fun x => x ≤ (cs (keysP (fun g => isW l (kq g a a.length) M[qq] 60) a.length a.length)).length + 1) (fun x => (cs (keysP (fun g => isW l (kq g a a.length) M[qq] 60) a.length a.length)).length + 1 - x) 0 (Nat.zero_le _) ?_
 intro x hx
 refine zD' 8 ?_ ?_
 ·intro g8
  refine zR 3 ?_
  skip
  refine zR 4 ?_
  refine zO (X := Nat) (fun i => [(21, .int .i64 (i : Int))]) [12, 14] (fun _ => []) (fun i => i ≤ (cs (restL (fun g => isW l (kq g a a.length) M[qq] 60) a.length)).length) (fun i => (cs (restL (fun g => isW l (kq g a a.length) M[qq] 60) a.length)).length - i) 0 (by omega) ?_
  intro i hi
  refine zD' 8 ?_ ?_
  ·intro hq4
   refine zC3 3 lawWorks30 ?_
   refine zT 2 rfl ⟨rfl, rfl, rfl⟩
  intro hq4
  refine zR 4 ?_
  refine go_elem_int (xs := cs (restL (fun g => isW l (kq g a a.length) M[qq] 60) a.length)) zM (i) (List.getElem?_eq_getElem (by omega)) (fun b6 o6 hA => ?_); cases hA
  refine zR 9 ?_
  refine zO (X := Nat) (fun y => [(22, .bool (decide ((cs (restL (fun g => isW l (kq g a a.length) M[qq] 60) a.length))[i] ∈ (cs (keysP (fun g => isW l (kq g a a.length) M[qq] 60) a.length a.length)).take (y)))), (23, .int .i64 (y : Int))]) [12, 14, 21] (fun _ => []) (fun y => y ≤ (cs (keysP (fun g => isW l (kq g a a.length) M[qq] 60) a.length a.length)).length) (fun y => (cs (keysP (fun g => isW l (kq g a a.length) M[qq] 60) a.length a.length)).length - y) 0 (Nat.zero_le _) ?_
  intro j hj
  refine zD' 8 ?_ ?_
  ·intro hq5
   refine zR 2 ?_
   have hrk : (cs (restL (fun g => isW l (kq g a a.length) M[qq] 60) a.length))[i] ∈ cs (keysP (fun g => isW l (kq g a a.length) M[qq] 60) a.length a.length) := by
     obtain ⟨rr, hr1, hr2⟩ := cs_at (K := (restL (fun g => isW l (kq g a a.length) M[qq] 60) a.length)) (j := i) (by omega)
     rw [hr1]; exact mem_cs.2 ⟨rr, rest_key (W_start gl hM1 hin) (W_mono hpos gl hM1) (List.mem_of_getElem? hr2), rfl⟩
   refine go_re 22 (.bool true) (by show some (Value.bool _) = _; rw [List.take_of_length_le (show (cs (keysP (fun g => isW l (kq g a a.length) M[qq] 60) a.length a.length)).length ≤ j by omega), decide_eq_true hrk]) ?_
   refine zR 3 ?_
   refine go_re 182 (.bool false) (by show some (Value.bool _) = _; rfl) ?_
   refine zDf 1 ?_
   refine zR 7 ?_
   refine zi 21 ?_
   refine zz (i + 1) (by omega) (by omega)
  intro hq5
  refine zR 3 ?_
  refine go_elem_int (xs := cs (keysP (fun g => isW l (kq g a a.length) M[qq] 60) a.length a.length)) zM (j) (List.getElem?_eq_getElem (by omega)) (fun b7 o7 hA => ?_); cases hA
  refine go_draw ([cl b6 (o6 + i * 1) [.int .i64 (cs (restL (fun g => isW l (kq g a a.length) M[qq] 60) a.length))[i]], cl b7 (o7 + j * 1) [.int .i64 (cs (keysP (fun g => isW l (kq g a a.length) M[qq] 60) a.length a.length))[j]]]) ([]) [5, 9] (SL.pre [(1, 0), (1, 1), (1, 2), (1, 3), (1, 4), (1, 6), (1, 7), (1, 8), (2, 5), (2, 9), (1, 10), (1, 11), (1, 12)] .nil) mixed rfl (by kernel_rfl) ?_
  refine zG 2 170 ?_ ?_
  ·intro g10
   (try simp only [dcs, ne_eq] at g10)
   refine zJ 6 ?_
   refine zJ 0 ?_
   refine zR 4 ?_
   refine go_re 22 (.bool (decide ((cs (restL (fun g => isW l (kq g a a.length) M[qq] 60) a.length))[i] ∈ (cs (keysP (fun g => isW l (kq g a a.length) M[qq] 60) a.length a.length)).take (j + 1)))) (by show some (Value.bool _) = _; rw [ints_take (by omega)]; first | (rw [decide_eq_true g10]; rfl) | (rw [decide_eq_false g10, Bool.false_or])) ?_
   refine zR 6 ?_
   refine go_i64n 23 (j + 1) rfl ?_
   refine zz (j + 1) (by omega) (by omega)
  intro g10
  (try simp only [dcs, ne_eq] at g10)
  refine zI 2 ?_
  refine zI 2 ?_
  refine zK 0 ?_
  refine zK 0 ?_
  refine zR 4 ?_
  refine go_re 22 (.bool (decide ((cs (restL (fun g => isW l (kq g a a.length) M[qq] 60) a.length))[i] ∈ (cs (keysP (fun g => isW l (kq g a a.length) M[qq] 60) a.length a.length)).take (j + 1)))) (by show some (Value.bool _) = _; rw [ints_take (by omega)]; first | (rw [decide_eq_true g10]; rfl) | (rw [decide_eq_false g10, Bool.false_or])) ?_
  refine zR 6 ?_
  refine go_i64n 23 (j + 1) rfl ?_
  refine zz (j + 1) (by omega) (by omega)
 intro g8
 refine zR 9 ?_
 refine go_own_nil tFa 40 none ?_
 refine go_same (B := ol tFa 40 none 0 (someK a (keysP (fun g => isW l (kq g a a.length) M[qq] 60) a.length a.length) ((x : Int) - 1) (0))) .here (by rfl) ?_
 refine zR 4 ?_
 refine zO (X := Nat × Option Addr × Nat) (fun y => [(17, .slice y.2.1 (someK a (keysP (fun g => isW l (kq g a a.length) M[qq] 60) a.length a.length) ((x : Int) - 1) (y.1)).length y.2.2), (18, .int .i64 (y.1 : Int))]) [0, 1, 11, 12, 14, 16] (fun y => [ol tFa 40 y.2.1 y.2.2 (someK a (keysP (fun g => isW l (kq g a a.length) M[qq] 60) a.length a.length) ((x : Int) - 1) (y.1))]) (fun y => y.1 ≤ (cs (keysP (fun g => isW l (kq g a a.length) M[qq] 60) a.length a.length)).length) (fun y => (cs (keysP (fun g => isW l (kq g a a.length) M[qq] 60) a.length a.length)).length - y.1) (0, none, 0) (Nat.zero_le _) ?_
 intro ⟨n, A5, c5⟩ hn
 simp only at hn ⊢
 have hsl := someK_len a (keysP (fun g => isW l (kq g a a.length) M[qq] 60) a.length a.length) ((x : Int) - 1) n
 refine zD' 8 ?_ ?_
 ·intro hq3
  refine zR 2 ?_
  obtain rfl : n = ((keysP (fun g => isW l (kq g a a.length) M[qq] 60) a.length a.length)).length := by omega
  refine go_freeze_ol (xs := someK a (keysP (fun g => isW l (kq g a a.length) M[qq] 60) a.length a.length) ((x : Int) - 1) ((keysP (fun g => isW l (kq g a a.length) M[qq] 60) a.length a.length).length)) zM ?_
  have hsub : ∀ y ∈ someK a (keysP (fun g => isW l (kq g a a.length) M[qq] 60) a.length a.length) ((x : Int) - 1) ((keysP (fun g => isW l (kq g a a.length) M[qq] 60) a.length a.length).length), y ∈ a := fun y w => by obtain ⟨_, z, _, _, _, w2⟩ := mem_someK.1 w; exact List.mem_of_getElem? w2
  refine zC 3 (modelOf l LA lc (someK a (keysP (fun g => isW l (kq g a a.length) M[qq] 60) a.length a.length) ((x : Int) - 1) ((keysP (fun g => isW l (kq g a a.length) M[qq] 60) a.length a.length).length)) A5 c5 60 gl (fun y w => hfa y (hsub y w)) (by omega) (by omega) (fun c hc F R N new h => big14 fp (by omega) N c hc F R new h)) ?_
  rintro _ _ _ ⟨A8, k8, r8, e8, hM8, rfl, rfl, rfl⟩
  obtain ⟨rfl, M2, rfl, hM2s⟩ := model_mono hpos gl hM1 hsub hM8
  have hsay := keys_say hpos gl hM1 hin (x := x) (by omega) hM8
  refine zE 6 [0, 1, 11, 12, 14, 16, 19, 20] ?_
  refine zR 4 ?_
  refine go_re 148 (.bool false) (by show some (Value.bool _) = _; simp) ?_
  refine zL 2 ?_
  refine zC3 0 (ref13Has A8 k8 M2 M[qq] A2 c2) ?_
  refine zR 3 ?_
  refine go_re 155 (.bool false) (by show some (Value.bool _) = _; rw [hsay]; simp) ?_
  refine zDf 2 ?_
  refine zR 7 ?_
  refine zi 16 ?_
  refine go_re 16 (.int .i64 (((x + 1 : Nat) : Int) - 1)) (congrArg (fun z : Int => some (Value.int IntKind.i64 z)) (show (x : Int) - 1 + 1 = ((x + 1 : Nat) : Int) - 1 by omega)) ?_
  refine zz (x + 1) (by omega) (by omega)
 intro hq3
 refine zR 5 ?_
 refine go_elem_int (xs := cs (keysP (fun g => isW l (kq g a a.length) M[qq] 60) a.length a.length)) zM (n) (List.getElem?_eq_getElem (by omega)) (fun b4 o4 hA => ?_); cases hA
 obtain ⟨kk, hkk, hkk2⟩ := cs_at (K := (keysP (fun g => isW l (kq g a a.length) M[qq] 60) a.length a.length)) (j := n) (by omega)
 have hkl := hKm kk (List.mem_of_getElem? hkk2)
 have hnK : n < ((keysP (fun g => isW l (kq g a a.length) M[qq] 60) a.length a.length)).length := by omega
 have hKn : ((keysP (fun g => isW l (kq g a a.length) M[qq] 60) a.length a.length))[n] = kk := by rw [List.getElem?_eq_getElem hnK] at hkk2; exact Option.some.inj hkk2
 refine zI 3 ?_
 refine zL 0 ?_
 refine go_re 117 (.int .i64 (kk : Int)) (by show some (Value.int _ _) = _; rw [hkk]) ?_
 refine zR 1 ?_
 refine go_re 118 (.bool false) (by show some (Value.bool _) = _; rw [decide_eq_false (by omega)]) ?_
 refine zI 3 ?_
 refine zL 0 ?_
 refine go_re 123 (.int .i64 (kk : Int)) (by show some (Value.int _ _) = _; rw [hkk]) ?_
 refine zR 3 ?_
 refine go_re 126 (.bool false) (by show some (Value.bool _) = _; rw [decide_eq_false (by omega)]) ?_
 refine zDf 2 ?_
 refine zE 7 [0, 1, 11, 12, 14, 16, 17, 18, 120, 121, 122, 123, 124, 125, 126, 130] ?_
 refine zN' 0 ?_ ?_
 ·intro g9
  refine zR 7 ?_
  refine go_i64n 18 (n + 1) rfl ?_
  rw [someK_skip (a := a) (K := (keysP (fun g => isW l (kq g a a.length) M[qq] 60) a.length a.length)) g9]
  refine zz (n + 1, A5, c5) (by show n + 1 ≤ _; omega) (by show _ - (n + 1) < _ - n; omega)
 intro g9
 refine go_elem_fa (xs := a) zM (kk) (List.getElem?_eq_getElem (by omega)) (fun b5 o5 A7 c7 hA => ?_); cases hA
 refine zI 5 ?_
 refine zL 0 ?_
 refine go_re 136 (.int .i64 (kk : Int)) (by show some (Value.int _ _) = _; rw [hkk]) ?_
 refine zI 0 ?_
 refine zL 0 ?_
 refine zV 0 ?_
 intro b1
 refine go_append1 (T := tFa) (xs := someK a (keysP (fun g => isW l (kq g a a.length) M[qq] 60) a.length a.length) ((x : Int) - 1) (n)) Tk (a[kk]) rfl rfl rfl rfl rfl rfl rfl rfl rfl zM zM rfl (ent_fa zM) (by omega) zH ?_
 intro A6 c6
 refine zR 8 ?_
 refine go_i64n 18 (n + 1) rfl ?_
 rw [show someK a (keysP (fun g => isW l (kq g a a.length) M[qq] 60) a.length a.length) ((x : Int) - 1) (n) ++ [a[kk]] = someK a (keysP (fun g => isW l (kq g a a.length) M[qq] 60) a.length a.length) ((x : Int) - 1) (n + 1) from by have w := someK_in (a := a) (K := (keysP (fun g => isW l (kq g a a.length) M[qq] 60) a.length a.length)) (i := (x : Int) - 1) (n := n) g9 hnK (by rw [hKn]; omega); rw [← w]; congr 2; simp [hKn]]
 refine zz (n + 1, A6, c6) (by show n + 1 ≤ _; omega) (by show _ - (n + 1) < _ - n; omega)
end Go.Proofs.YtdconhalfanclaaGreat.SL

