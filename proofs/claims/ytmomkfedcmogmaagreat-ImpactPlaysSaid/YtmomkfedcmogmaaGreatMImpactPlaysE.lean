/- Engine, data and contracts: parts of the proof of ImpactPlays, put together (Ref13 Law13a Refcl Refg Refh Refk DY Ari DZ Fixa Fixb Modela Law13b Law14a Reffa Reffi Law13c Reffj Law14b Modelb EA EB EC Impa). -/
import Derived.Test.YtmomkfedcmogmaaGreatMImpactPlaysB
import Derived.Test.YtmomkfedcmogmaaGreatMImpactPlaysA
import Derived.Test.YtmomkfedcmogmaaGreatMImpactPlaysD
import Derived.Test.YtmomkfedcmogmaaGreatMImpactPlaysC
set_option linter.unusedVariables false
set_option linter.unusedSimpArgs false
set_option maxHeartbeats 2000000
set_option maxRecDepth 20000
namespace Go.Proofs.YtmomkfedcmogmaaGreat.SL
open Go
theorem ref13Has (L : Option Addr) (lc : Nat) (l : List Fa) (q : Fa) (QA : Option Addr) (qc : Nat) :
    Spec Tryz.prog 18 #[.slice L l.length lc, .agg #[.int .u32 q.p, .slice QA q.a.length qc]] [sl tFa L lc l, sl tU QA qc q.a] [] (fun v Ps' Os' => v = .bool (decide (q ∈ l)) ∧ Ps' = [] ∧ Os' = []) := by
 refine zSp _ Tryz.func18 Tryz.ntmps18 (fun _ _ _ => ?_)
 refine zX 2 ?_
 intro b1
 refine zR 4 ?_
 refine go_len (xs := l) zM (fun l0 m0 => ?_)
 refine zR 4 ?_
 refine zO (X := Nat) (fun k => [(5, .int .i64 (k : Int))]) [0, 3] (fun _ => []) (fun k => k ≤ l.length ∧ ¬ q ∈ l.take k) (fun k => l.length - k) 0 ⟨by omega, by simp⟩ ?_
 intro k ⟨hk, hz⟩
 refine zD' 8 ?_ ?_
 ·intro hq1
  refine zT 5 rfl ⟨by rw [List.take_of_length_le (by omega)] at hz; rw [decide_eq_false hz], rfl, rfl⟩
 intro hq1
 refine zR 4 ?_
 refine go_elem_fa (xs := l) zM (k) (List.getElem?_eq_getElem (by omega)) (fun b0 o0 A0 c0 hA => ?_); cases hA
 refine zY 0 [1, 4, 7, 11, 14, 15, 19] ?_
 refine zI 2 ?_
 refine zK 0 ?_
 refine zK 0 ?_
 refine zC3 0 (refCompare _ _ _ _ _ _ _ _) ?_
 refine zD 2 ?_ ?_
 ·intro g1
  refine zE 4 [4] ?_
  refine zT 0 rfl ⟨by rw [decide_eq_true (show q ∈ l from (cmpF_zero (x := l[k]) (q := q)).1 g1 ▸ List.getElem_mem _)], rfl, rfl⟩
 intro g1
 refine zR 7 ?_
 refine zi 5 ?_
 refine zz (k + 1) (⟨by omega, not_next (by omega) hz g1⟩) (by omega)
theorem ref13With (L : Option Addr) (lc : Nat) (l : List Fa) (q : Fa) (QA : Option Addr) (qc : Nat) (hr : rises l) (hn : l.length ≤ 50000000) :
    Spec Tryz.prog 46 #[.slice L l.length lc, .agg #[.int .u32 q.p, .slice QA q.a.length qc]] [sl tFa L lc l, sl tU QA qc q.a] [] (fun v Ps' Os' => ∃ A' c', v = .slice A' (fput l q).length c' ∧ Ps' = [sl tFa A' c' (fput l q)] ∧ Os' = []) := by
 refine zSp _ Tryz.func46 Tryz.ntmps46 (fun _ _ _ => ?_)
 refine zR 1 ?_
 refine go_len (xs := l) zM (fun l0 m0 => ?_)
 refine zX 1 ?_
 intro bq
 refine go_freeze_pt (b := bq) zM ?_
 refine zL 6 ?_
 refine zC3 0 (ref13Has L lc l q QA qc) ?_
 refine zB 1 ?_ ?_
 ·intro g1
  (try simp only [dcs, ne_eq] at g1)
  refine zR 5 ?_
  refine go_ret ⟨rfl, rfl⟩ [sl tFa L lc l] [] (res1 (by rfl) (.tmp rfl)) ⟨L, lc, by rw [fput_yes g1], by rw [fput_yes g1], rfl⟩ zM zM
 intro g1
 (try simp only [dcs, ne_eq] at g1)
 refine zR 10 ?_
 refine go_own_nil tFa 27 none ?_
 refine zR 2 ?_
 refine go_draw ([cl bq 0 [.int .u32 q.p, .slice QA q.a.length qc]]) ([]) [3] (SL.pre [(1, 0), (1, 1), (2, 3)] (.two (SL.pre [(0, 2), (0, 4), (0, 5), (1, 6)] .nil) (SL.pre [(0, 4), (0, 2), (0, 5), (1, 6)] .nil))) mixed rfl (by kernel_rfl) ?_
 refine zK 2 ?_
 refine go_two ?_ ?_
 ·skip
  refine go_appendN (T := tFa) (xs := []) (ys := l) Tk rfl rfl rfl rfl rfl rfl rfl rfl rfl zM rfl zM (by simp; omega) zH ?_
  intro A2 c2
  rw [List.nil_append]
  refine zV 0 ?_
  intro bn
  refine go_append1 (T := tFa) (xs := l) Tk (q) rfl rfl rfl rfl rfl rfl rfl rfl rfl zM zM rfl (ent_fa zM) (by omega) zH ?_
  intro A3 c3
  refine zR 2 ?_
  refine go_ol_addr (xs := l ++ [q]) zM (by simp) (fun bo hA => ?_); subst hA
  refine go_len_ol (xs := l ++ [q]) zM (fun l3 m3 => ?_)
  have hll : (l ++ [q]).length = l.length + 1 := by simp
  refine go_toY (l := l ++ [q]) zM (fun ys hy hyl => ?_)
  obtain ⟨xs, w0, rfl, hx, hw⟩ := split_last hy
  have hxl : xs.length = l.length := by rw [← hx]; simp
  rw [show xs ++ [w0] = xs.take l.length ++ w0 :: xs.drop l.length from by rw [← hxl]; simp]
  refine zE 0 [3, 5, 6] ?_
  refine zR 2 ?_
  refine zO (X := Nat × Fy) (fun x => [(5, .int .i64 (x.1 : Int))]) [3, 6] (fun x => [ol tFy 27 (some ⟨bo, 0, none⟩) c3 (xs.take x.1 ++ x.2 :: xs.drop x.1)]) (fun x => x.1 ≤ l.length ∧ ∀ y ∈ l.drop x.1, 0 < cF y q) (fun x => x.1) (l.length, w0) ⟨by omega, by simp⟩ ?_
  intro ⟨n, w⟩ ⟨hk, hz⟩
  simp only at hk hz ⊢
  have hmid := mid_len (l := xs) (n := n) (w := w) (by omega)
  refine zR 2 ?_
  by_cases hn0 : 0 < n
  ·skip
   refine go_atY (xs := (xs.take n ++ w :: xs.drop n)) zM (n - 1) (mid_get (by omega) (by omega)) ?_
   refine zY 0 [1, 4, 7, 10, 13, 16, 19, 23, 26, 27, 31, 34] ?_
   refine zR 2 ?_
   refine go_re 20 (.bool true) (by show some (Value.bool (decide _)) = _; rw [decide_eq_true (by omega)]) ?_
   refine zR 4 ?_
   refine zi 24 ?_
   refine go_re 24 (.int .i64 ((n - 1 : Nat) : Int)) (by show some (Value.int _ _) = _; rw [show ((n - 1 : Nat) : Int) = (n : Int) - 1 by omega]) ?_
   refine go_val1 rfl (idx_val Tk rfl rfl rfl rfl rfl (by simp; omega)) rfl ?_
   refine go_val2a rfl (load_val Tk rfl rfl rfl (at_olp fcY fcY_eq (xs := (xs.take n ++ w :: xs.drop n)) zM (n - 1) (mid_get (by omega) (by omega)) rfl rfl) rfl) rfl ?_
   refine zK 0 ?_
   refine zC3 0 (refCompare xs[n - 1].f.p xs[n - 1].A xs[n - 1].f.a xs[n - 1].c _ _ _ _) ?_
   refine zB' 3 ?_ ?_
   ·intro g2
    (try simp only [dcs, ne_eq] at g2)
    refine zR 2 ?_
    have hlast : ∀ (h : 0 < n), ¬ 0 < cF (l[n - 1]'(by omega)) q := by
      intro h
      first
      | omega
      | (rw [← getF hx (show n - 1 < xs.length by omega)]; unfold cF; omega)
    refine zL 3 ?_
    refine go_val0 rfl (idx_val Tk rfl rfl rfl rfl rfl (by simp; omega)) rfl ?_
    refine zSE 0 tFy (xs.take n ++ w :: xs.drop n) n (⟨q, QA, qc⟩ : Fy) (ent_Y (x := ⟨q, QA, qc⟩) zM) ?_
    rw [set_mid (by omega)]
    refine go_ofY (xs := xs.take n ++ (⟨q, QA, qc⟩ : Fy) :: xs.drop n) zM ?_
    rw [mid_map hx, fput_at g1 hr (by omega) hz hlast, show (l ++ [q]).length = (fput l q).length from by rw [fput_no g1]; simp; omega]
    refine go_freeze_ol (xs := fput l q) zM ?_
    refine zE 1 [6] ?_
    refine zT 5 rfl ⟨some ⟨bo, 0, none⟩, c3, rfl, rfl, rfl⟩
   intro g2
   (try simp only [dcs, ne_eq] at g2)
   refine zR 9 ?_
   refine zi 35 ?_
   refine go_re 35 (.int .i64 ((n - 1 : Nat) : Int)) (by show some (Value.int _ _) = _; rw [show ((n - 1 : Nat) : Int) = (n : Int) - 1 by omega]) ?_
   refine go_val0 rfl (idx_val Tk rfl rfl rfl rfl rfl (by simp; omega)) rfl ?_
   refine go_val0 rfl (load_val Tk rfl rfl rfl (at_olp fcY fcY_eq (xs := (xs.take n ++ w :: xs.drop n)) zM (n - 1) (mid_get (by omega) (by omega)) rfl rfl) rfl) rfl ?_
   refine go_val0 rfl (idx_val Tk rfl rfl rfl rfl rfl (by simp; omega)) rfl ?_
   refine zSE 0 tFy (xs.take n ++ w :: xs.drop n) n (xs[n - 1]) (ent_Y zM) ?_
   rw [set_mid (by omega), mid_back (by omega) (by omega)]
   refine zE 1 [3, 5, 6, 22, 23, 24, 25, 26, 27, 28, 29] ?_
   refine zR 3 ?_
   refine zi 40 ?_
   refine go_re 40 (.int .i64 ((n - 1 : Nat) : Int)) (by show some (Value.int _ _) = _; rw [show ((n - 1 : Nat) : Int) = (n : Int) - 1 by omega]) ?_
   refine zR 3 ?_
   refine zz (n - 1, xs[n - 1]) ⟨by show n - 1 ≤ _; omega, drop_more (by omega) (by omega) hz (by rw [← getF hx (show n - 1 < xs.length by omega)]; exact g2)⟩ (by show n - 1 < n; omega)
  ·skip
   refine zY 0 [1, 4, 7, 10, 13, 16, 19, 23, 26, 27, 31, 34] ?_
   refine zR 2 ?_
   refine go_re 20 (.bool false) (by show some (Value.bool (decide _)) = _; rw [decide_eq_false (by omega)]) ?_
   refine zJ 5 ?_
   refine zJ 0 ?_
   refine zDf 4 ?_
   refine zR 2 ?_
   have hlast : ∀ (h : 0 < n), ¬ 0 < cF (l[n - 1]'(by omega)) q := by
     intro h
     first
     | omega
     | (rw [← getF hx (show n - 1 < xs.length by omega)]; unfold cF; omega)
   refine zL 3 ?_
   refine go_val0 rfl (idx_val Tk rfl rfl rfl rfl rfl (by simp; omega)) rfl ?_
   refine zSE 0 tFy (xs.take n ++ w :: xs.drop n) n (⟨q, QA, qc⟩ : Fy) (ent_Y (x := ⟨q, QA, qc⟩) zM) ?_
   rw [set_mid (by omega)]
   refine go_ofY (xs := xs.take n ++ (⟨q, QA, qc⟩ : Fy) :: xs.drop n) zM ?_
   rw [mid_map hx, fput_at g1 hr (by omega) hz hlast, show (l ++ [q]).length = (fput l q).length from by rw [fput_no g1]; simp; omega]
   refine go_freeze_ol (xs := fput l q) zM ?_
   refine zE 1 [6] ?_
   refine zT 5 rfl ⟨some ⟨bo, 0, none⟩, c3, rfl, rfl, rfl⟩
 refine zV 0 ?_
 intro bn
 refine go_appendN (T := tFa) (xs := []) (ys := l) Tk rfl rfl rfl rfl rfl rfl rfl rfl rfl zM rfl zM (by simp; omega) zH ?_
 intro A2 c2
 rw [List.nil_append]
 refine go_append1 (T := tFa) (xs := l) Tk (q) rfl rfl rfl rfl rfl rfl rfl rfl rfl zM zM rfl (ent_fa zM) (by omega) zH ?_
 intro A3 c3
 refine zR 2 ?_
 refine go_ol_addr (xs := l ++ [q]) zM (by simp) (fun bo hA => ?_); subst hA
 refine go_len_ol (xs := l ++ [q]) zM (fun l3 m3 => ?_)
 have hll : (l ++ [q]).length = l.length + 1 := by simp
 refine go_toY (l := l ++ [q]) zM (fun ys hy hyl => ?_)
 obtain ⟨xs, w0, rfl, hx, hw⟩ := split_last hy
 have hxl : xs.length = l.length := by rw [← hx]; simp
 rw [show xs ++ [w0] = xs.take l.length ++ w0 :: xs.drop l.length from by rw [← hxl]; simp]
 refine zE 0 [3, 5, 6] ?_
 refine zR 2 ?_
 refine zO (X := Nat × Fy) (fun x => [(5, .int .i64 (x.1 : Int))]) [3, 6] (fun x => [ol tFy 27 (some ⟨bo, 0, none⟩) c3 (xs.take x.1 ++ x.2 :: xs.drop x.1)]) (fun x => x.1 ≤ l.length ∧ ∀ y ∈ l.drop x.1, 0 < cF y q) (fun x => x.1) (l.length, w0) ⟨by omega, by simp⟩ ?_
 intro ⟨n, w⟩ ⟨hk, hz⟩
 simp only at hk hz ⊢
 have hmid := mid_len (l := xs) (n := n) (w := w) (by omega)
 refine zR 2 ?_
 by_cases hn0 : 0 < n
 ·skip
  refine go_atY (xs := (xs.take n ++ w :: xs.drop n)) zM (n - 1) (mid_get (by omega) (by omega)) ?_
  refine zY 0 [1, 4, 7, 10, 13, 16, 19, 23, 26, 27, 31, 34] ?_
  refine zR 2 ?_
  refine go_re 20 (.bool true) (by show some (Value.bool (decide _)) = _; rw [decide_eq_true (by omega)]) ?_
  refine zR 4 ?_
  refine zi 24 ?_
  refine go_re 24 (.int .i64 ((n - 1 : Nat) : Int)) (by show some (Value.int _ _) = _; rw [show ((n - 1 : Nat) : Int) = (n : Int) - 1 by omega]) ?_
  refine go_val1 rfl (idx_val Tk rfl rfl rfl rfl rfl (by simp; omega)) rfl ?_
  refine go_val2a rfl (load_val Tk rfl rfl rfl (at_olp fcY fcY_eq (xs := (xs.take n ++ w :: xs.drop n)) zM (n - 1) (mid_get (by omega) (by omega)) rfl rfl) rfl) rfl ?_
  refine zK 0 ?_
  refine zC3 0 (refCompare xs[n - 1].f.p xs[n - 1].A xs[n - 1].f.a xs[n - 1].c _ _ _ _) ?_
  refine zB' 3 ?_ ?_
  ·intro g2
   (try simp only [dcs, ne_eq] at g2)
   refine zR 2 ?_
   have hlast : ∀ (h : 0 < n), ¬ 0 < cF (l[n - 1]'(by omega)) q := by
     intro h
     first
     | omega
     | (rw [← getF hx (show n - 1 < xs.length by omega)]; unfold cF; omega)
   refine zL 3 ?_
   refine go_val0 rfl (idx_val Tk rfl rfl rfl rfl rfl (by simp; omega)) rfl ?_
   refine zSE 0 tFy (xs.take n ++ w :: xs.drop n) n (⟨q, QA, qc⟩ : Fy) (ent_Y (x := ⟨q, QA, qc⟩) zM) ?_
   rw [set_mid (by omega)]
   refine go_ofY (xs := xs.take n ++ (⟨q, QA, qc⟩ : Fy) :: xs.drop n) zM ?_
   rw [mid_map hx, fput_at g1 hr (by omega) hz hlast, show (l ++ [q]).length = (fput l q).length from by rw [fput_no g1]; simp; omega]
   refine go_freeze_ol (xs := fput l q) zM ?_
   refine zE 1 [6] ?_
   refine zT 5 rfl ⟨some ⟨bo, 0, none⟩, c3, rfl, rfl, rfl⟩
  intro g2
  (try simp only [dcs, ne_eq] at g2)
  refine zR 9 ?_
  refine zi 35 ?_
  refine go_re 35 (.int .i64 ((n - 1 : Nat) : Int)) (by show some (Value.int _ _) = _; rw [show ((n - 1 : Nat) : Int) = (n : Int) - 1 by omega]) ?_
  refine go_val0 rfl (idx_val Tk rfl rfl rfl rfl rfl (by simp; omega)) rfl ?_
  refine go_val0 rfl (load_val Tk rfl rfl rfl (at_olp fcY fcY_eq (xs := (xs.take n ++ w :: xs.drop n)) zM (n - 1) (mid_get (by omega) (by omega)) rfl rfl) rfl) rfl ?_
  refine go_val0 rfl (idx_val Tk rfl rfl rfl rfl rfl (by simp; omega)) rfl ?_
  refine zSE 0 tFy (xs.take n ++ w :: xs.drop n) n (xs[n - 1]) (ent_Y zM) ?_
  rw [set_mid (by omega), mid_back (by omega) (by omega)]
  refine zE 1 [3, 5, 6, 22, 23, 24, 25, 26, 27, 28, 29] ?_
  refine zR 3 ?_
  refine zi 40 ?_
  refine go_re 40 (.int .i64 ((n - 1 : Nat) : Int)) (by show some (Value.int _ _) = _; rw [show ((n - 1 : Nat) : Int) = (n : Int) - 1 by omega]) ?_
  refine zR 3 ?_
  refine zz (n - 1, xs[n - 1]) ⟨by show n - 1 ≤ _; omega, drop_more (by omega) (by omega) hz (by rw [← getF hx (show n - 1 < xs.length by omega)]; exact g2)⟩ (by show n - 1 < n; omega)
 ·skip
  refine zY 0 [1, 4, 7, 10, 13, 16, 19, 23, 26, 27, 31, 34] ?_
  refine zR 2 ?_
  refine go_re 20 (.bool false) (by show some (Value.bool (decide _)) = _; rw [decide_eq_false (by omega)]) ?_
  refine zJ 5 ?_
  refine zJ 0 ?_
  refine zDf 4 ?_
  refine zR 2 ?_
  have hlast : ∀ (h : 0 < n), ¬ 0 < cF (l[n - 1]'(by omega)) q := by
    intro h
    first
    | omega
    | (rw [← getF hx (show n - 1 < xs.length by omega)]; unfold cF; omega)
  refine zL 3 ?_
  refine go_val0 rfl (idx_val Tk rfl rfl rfl rfl rfl (by simp; omega)) rfl ?_
  refine zSE 0 tFy (xs.take n ++ w :: xs.drop n) n (⟨q, QA, qc⟩ : Fy) (ent_Y (x := ⟨q, QA, qc⟩) zM) ?_
  rw [set_mid (by omega)]
  refine go_ofY (xs := xs.take n ++ (⟨q, QA, qc⟩ : Fy) :: xs.drop n) zM ?_
  rw [mid_map hx, fput_at g1 hr (by omega) hz hlast, show (l ++ [q]).length = (fput l q).length from by rw [fput_no g1]; simp; omega]
  refine go_freeze_ol (xs := fput l q) zM ?_
  refine zE 1 [6] ?_
  refine zT 5 rfl ⟨some ⟨bo, 0, none⟩, c3, rfl, rfl, rfl⟩
theorem ref13Sorted (L : Option Addr) (lc : Nat) (l : List Fa) (hn : l.length ≤ 50000000) :
    Spec Tryz.prog 20 #[.slice L l.length lc] [sl tFa L lc l] [] (fun v Ps' Os' => ∃ A' c', v = .slice A' (fof l).length c' ∧ Ps' = [sl tFa A' c' (fof l)] ∧ Os' = []) := by
 refine zSp _ Tryz.func20 Tryz.ntmps20 (fun _ _ _ => ?_)
 refine zR 5 ?_
 refine go_len (xs := l) zM (fun l0 m0 => ?_)
 refine zR 2 ?_
 refine go_own_nil tFa 27 none ?_
 refine go_freeze_ol (xs := ([] : List Fa)) zM ?_
 refine zR 7 ?_
 refine go_loop (X := Nat × Option Addr × Nat) (fun x => [(3, .slice x.2.1 (fof (l.take x.1)).length x.2.2), (4, .int .i64 (x.1 : Int))]) [(0, _)] (fun x => [sl tFa x.2.1 x.2.2 (fof (l.take x.1)), sl tFa L lc l]) (fun _ => []) (fun x => x.1 ≤ l.length) (fun x => l.length - x.1) ((0, none, 0)) zA zM zM (by omega) ?_
 intro ⟨k, A1, c1⟩ hk
 simp only at hk ⊢
 refine zD' 8 ?_ ?_
 ·intro hq1
  refine zR 2 ?_
  rw [List.take_of_length_le (show l.length ≤ k by omega)]
  refine zT 4 rfl ⟨A1, c1, rfl, rfl, rfl⟩
 intro hq1
 refine zR 3 ?_
 refine go_elem_fa (xs := l) zM (k) (List.getElem?_eq_getElem (by omega)) (fun b0 o0 A0 c0 hA => ?_); cases hA
 refine zI 4 ?_
 refine zL 0 ?_
 refine zC 0 (ref13With A1 c1 (fof (l.take k)) l[k] A0 c0 (rises_fof _) (by have := fof_len (l.take k); rw [List.length_take] at this; omega)) ?_
 rintro _ _ _ ⟨A2, c2, rfl, rfl, rfl⟩
 refine zR 8 ?_
 refine zi 4 ?_
 rw [← fof_next (by omega)]
 refine go_back (k + 1, _, _) zA zM zM (by show k + 1 ≤ _; omega) (by show l.length - (k + 1) < l.length - k; omega)
theorem ref13Same (A : Option Addr) (c : Nat) (l : List Fa) (B : Option Addr) (d : Nat) (m : List Fa) :
    Spec Tryz.prog 10 #[.slice A l.length c, .slice B m.length d] [sl tFa A c l, sl tFa B d m] [] (fun v Ps' Os' => v = .bool (decide (l = m)) ∧ Ps' = [] ∧ Os' = []) := by
 refine zSp _ Tryz.func10 Tryz.ntmps10 (fun _ _ _ => ?_)
 refine zR 6 ?_
 refine go_len (xs := l) zM (fun l0 m0 => ?_)
 refine go_len (xs := m) zM (fun l1 m1 => ?_)
 refine zN 7 ?_ ?_
 ·intro g1
  refine zT 4 rfl ⟨by first | rw [decide_eq_false (fun e => g1 (by rw [e]))] | rw [decide_eq_false (same_no (k := k) (by omega) (by omega) (by simpa using g2))] | rw [decide_eq_true (same_yes hl (show l.length ≤ k by omega) hz)], rfl, rfl⟩
 intro g1
 refine zR 3 ?_
 have hl : l.length = m.length := by omega
 refine zR 4 ?_
 refine zO (X := Nat) (fun k => [(5, .int .i64 (k : Int))]) [0, 1] (fun _ => []) (fun k => k ≤ l.length ∧ l.take k = m.take k) (fun k => l.length - k) 0 ⟨by omega, by simp⟩ ?_
 intro k ⟨hk, hz⟩
 refine zD' 8 ?_ ?_
 ·intro hq1
  refine zT 5 rfl ⟨by first | rw [decide_eq_false (fun e => g1 (by rw [e]))] | rw [decide_eq_false (same_no (k := k) (by omega) (by omega) (by simpa using g2))] | rw [decide_eq_true (same_yes hl (show l.length ≤ k by omega) hz)], rfl, rfl⟩
 intro hq1
 refine zR 4 ?_
 refine go_elem_fa (xs := l) (c := c) zM (k) (List.getElem?_eq_getElem (by omega)) (fun b0 o0 A0 c0 hA => ?_); cases hA
 refine go_elem_fa (xs := m) (c := d) zM (k) (List.getElem?_eq_getElem (by omega)) (fun b2 o2 A2 c2 hA => ?_); cases hA
 refine zY 0 [1, 4, 7, 13, 16, 19, 11, 23, 24, 28] ?_
 refine zI 2 ?_
 refine zI 2 ?_
 refine zK 0 ?_
 refine zK 0 ?_
 refine zC3 0 (refCompare _ _ _ _ _ _ _ _) ?_
 refine zE 2 [0, 1, 5, 26] ?_
 refine zN 0 ?_ ?_
 ·intro g2
  refine zT 4 rfl ⟨by first | rw [decide_eq_false (fun e => g1 (by rw [e]))] | rw [decide_eq_false (same_no (k := k) (by omega) (by omega) (by simpa using g2))] | rw [decide_eq_true (same_yes hl (show l.length ≤ k by omega) hz)], rfl, rfl⟩
 intro g2
 refine zR 7 ?_
 refine zi 5 ?_
 refine zz (k + 1) (⟨by omega, take_next (by omega) (by omega) hz (cmpF_zero.1 (by simpa using g2))⟩) (by omega)
theorem law13F (p : Int) (A : Option Addr) (n c : Nat) :
    Spec Tryz.prog 27 #[.int .u32 p, .slice A n c] [] [] (fun v Ps' Os' => v = .agg #[.int .u32 p, .slice A n c] ∧ Ps' = [] ∧ Os' = []) := by
 refine zSp _ Tryz.func27 Tryz.ntmps27 (fun _ _ _ => ?_)
 refine zW 2 ?_
 intro b1
 refine zq 5 ?_
 refine zS 0 ?_
 refine zR 1 ?_
 refine go_ret ⟨rfl, rfl⟩ _ _ (res1 (by rfl) (.cell rfl (rdv Tk rfl))) ⟨rfl, rfl, rfl⟩ zM zM
theorem law11A (p : Int) (A : Option Addr) (n c : Nat) :
    Spec Tryz.prog 24 #[.int .u32 p, .slice A n c] [] [] (fun v Ps' Os' => v = .agg #[.int .u32 p, .slice A n c] ∧ Ps' = [] ∧ Os' = []) := by
 refine zSp _ Tryz.func24 Tryz.ntmps24 (fun _ _ _ => ?_)
 refine zW 2 ?_
 intro b1
 refine zq 5 ?_
 refine zS 0 ?_
 refine zR 1 ?_
 refine go_ret ⟨rfl, rfl⟩ _ _ (res1 (by rfl) (.cell rfl (rdv Tk rfl))) ⟨rfl, rfl, rfl⟩ zM zM
theorem law11V (n : Int) :
    Spec Tryz.prog 25 #[.int .u32 n] [] [] (fun v Ps' Os' => v = .agg #[.bool true, .int .u32 n] ∧ Ps' = [] ∧ Os' = []) := by
 refine zSp _ Tryz.func25 Tryz.ntmps25 (fun _ _ _ => ?_)
 refine zW 2 ?_
 intro b1
 refine zq 4 ?_
 refine zS 0 ?_
 refine zR 1 ?_
 refine go_ret ⟨rfl, rfl⟩ _ _ (res1 (by rfl) (.cell rfl (rdv Tk rfl))) ⟨rfl, rfl, rfl⟩ zM zM
theorem law11Yes (p : Int) (A : Option Addr) (n c : Nat) :
    Spec Tryz.prog 26 #[.int .u32 p, .slice A n c] [] [] (fun v Ps' Os' => v = .agg #[.bool false, .int .u32 p, .slice A n c] ∧ Ps' = [] ∧ Os' = []) := by
 refine zSp _ Tryz.func26 Tryz.ntmps26 (fun _ _ _ => ?_)
 refine zW 2 ?_
 intro b1
 refine zC3 5 (law11A _ _ _ _) ?_
 refine zq 0 ?_
 refine zS 0 ?_
 refine zR 1 ?_
 refine go_ret ⟨rfl, rfl⟩ _ _ (res1 (by rfl) (.cell rfl (rdv Tk rfl))) ⟨rfl, rfl, rfl⟩ zM zM
theorem law11If (p : Int) (A : Option Addr) (n c : Nat) (B : Option Addr) (m d : Nat) :
    Spec Tryz.prog 23 #[.agg #[.int .u32 p, .slice A n c], .slice B m d] [] [] (fun v Ps' Os' => v = .agg #[.int .u32 p, .slice A n c, .slice B m d] ∧ Ps' = [] ∧ Os' = []) := by
 refine zSp _ Tryz.func23 Tryz.ntmps23 (fun _ _ _ => ?_)
 refine zX 2 ?_
 intro b1
 refine zW 0 ?_
 intro b2
 refine zL 3 ?_
 refine zq 1 ?_
 refine zS 0 ?_
 refine zR 1 ?_
 refine go_ret ⟨rfl, rfl⟩ _ _ (res1 (by rfl) (.cell rfl (rdv Tk rfl))) ⟨rfl, rfl, rfl⟩ zM zM
abbrev CLok (c : Cl) : Prop := c.b.length ≤ 30 ∧ c.h.a.length ≤ 30 ∧ ∀ x ∈ c.b, x.a.a.length ≤ 30
abbrev few11P (l : List Cl) (F : List Fa) : Prop := ((l.length ≤ 60 ∨ 400 < l.length) ∧ l.length ≤ 1000 ∧ F.length ≤ 120) ∧ (∀ c ∈ l, CLok c) ∧ ∀ x ∈ F, x.a.length ≤ 30
def few11 (l : List Cl) (F : List Fa) : Bool := decide (few11P l F)
theorem few11_no {l : List Cl} {F : List Fa} (h : ¬ few11P l F) : few11 l F = false := by unfold few11; rw [decide_eq_false_iff_not]; exact h
theorem few11_yes {l : List Cl} {F : List Fa} (h : few11P l F) : few11 l F = true := by unfold few11; rw [decide_eq_true_iff]; exact h
theorem few11_of {l : List Cl} {F : List Fa} (h : few11 l F = true) : few11P l F := by unfold few11 at h; exact of_decide_eq_true h
def pos (b : List Li) : Nat := (b.filter fun l => !l.no).length
theorem pos_yes {b : List Li} {k : Nat} (hk : k < b.length) (e : b[k].no = false) : pos (b.take (k + 1)) = pos (b.take k) + 1 := by
  unfold pos
  rw [List.take_succ_eq_append_getElem hk, List.filter_append, List.length_append, List.filter_cons_of_pos (by simpa using e)]; rfl
theorem pos_no {b : List Li} {k : Nat} (hk : k < b.length) (e : b[k].no = true) : pos (b.take (k + 1)) = pos (b.take k) := by
  unfold pos
  rw [List.take_succ_eq_append_getElem hk, List.filter_append, List.length_append, List.filter_cons_of_neg (by simp [e])]; simp
theorem pos_le (b : List Li) (k : Nat) : pos (b.take k) ≤ k := by
  unfold pos
  have := List.length_filter_le (fun l : Li => !l.no) (b.take k)
  rw [List.length_take] at this
  omega
def smallC (c : Cl) (n : Nat) : Bool := decide (c.b.length ≤ 30 ∧ (pos c.b ≤ 3 ∧ n ≤ 60 ∨ pos c.b ≤ 8 ∧ n ≤ 8))
theorem law11Few (A : Option Addr) (c : Nat) (l : List Cl) (B : Option Addr) (d : Nat) (F : List Fa) :
    Spec Tryz.prog 21 #[.slice A l.length c, .slice B F.length d] [sl tCl A c l, sl tFa B d F] [] (fun v Ps' Os' => v = .bool (few11 l F) ∧ Ps' = [] ∧ Os' = []) := by
 refine zSp _ Tryz.func21 Tryz.ntmps21 (fun _ _ _ => ?_)
 refine zR 6 ?_
 refine go_len (xs := l) zM (fun l0 m0 => ?_)
 refine go_len (xs := F) zM (fun l1 m1 => ?_)
 refine zG' 5 11 ?_ ?_
 ·intro g1
  (try simp only [dcs, ne_eq] at g1)
  refine zG 10 21 ?_ ?_
  ·intro g3
   (try simp only [dcs, ne_eq] at g3)
   refine zE 5 [0, 1, 25] ?_
   refine zDt 0 ?_
   refine zT 4 rfl ⟨by first | rw [few11_no (fun h => by have := h.1; omega)] | rw [few11_no (fun h => by have := h.2.1 l[k] (List.getElem_mem _); have h1 := this.1; omega)] | rw [few11_no (fun h => by have := h.2.1 l[k] (List.getElem_mem _); have h1 := this.2.1; omega)] | rw [few11_no (fun h => by have := (h.2.1 l[k] (List.getElem_mem _)).2.2 l[k].b[m] (List.getElem_mem _); omega)] | rw [few11_no (fun h => by have := h.2.2 F[j] (List.getElem_mem _); omega)] | rw [few11_yes ⟨⟨by omega, by omega, by omega⟩, hz, by rw [List.take_of_length_le (by omega)] at hx; exact hx⟩], rfl, rfl⟩
  intro g3
  (try simp only [dcs, ne_eq] at g3)
  refine zE 5 [0, 1, 25] ?_
  refine zB 0 ?_ ?_
  ·intro g4
   (try simp only [dcs, ne_eq] at g4)
   refine zT 4 rfl ⟨by first | rw [few11_no (fun h => by have := h.1; omega)] | rw [few11_no (fun h => by have := h.2.1 l[k] (List.getElem_mem _); have h1 := this.1; omega)] | rw [few11_no (fun h => by have := h.2.1 l[k] (List.getElem_mem _); have h1 := this.2.1; omega)] | rw [few11_no (fun h => by have := (h.2.1 l[k] (List.getElem_mem _)).2.2 l[k].b[m] (List.getElem_mem _); omega)] | rw [few11_no (fun h => by have := h.2.2 F[j] (List.getElem_mem _); omega)] | rw [few11_yes ⟨⟨by omega, by omega, by omega⟩, hz, by rw [List.take_of_length_le (by omega)] at hx; exact hx⟩], rfl, rfl⟩
  intro g4
  (try simp only [dcs, ne_eq] at g4)
  refine zR 7 ?_
  refine zO (X := Nat) (fun k => [(5, .int .i64 (k : Int))]) [0, 1] (fun _ => []) (fun k => k ≤ l.length ∧ ∀ x ∈ l.take k, CLok x) (fun k => l.length - k) 0 ⟨by omega, by simp⟩ ?_
  intro k ⟨hk, hz⟩
  refine zD' 8 ?_ ?_
  ·intro hq4
   refine zR 3 ?_
   rw [List.take_of_length_le (by omega)] at hz
   refine zR 4 ?_
   refine zO (X := Nat) (fun j => [(7, .int .i64 (j : Int))]) [1] (fun _ => []) (fun j => j ≤ F.length ∧ ∀ x ∈ F.take j, x.a.length ≤ 30) (fun j => F.length - j) 0 ⟨by omega, by simp⟩ ?_
   intro j ⟨hj, hx⟩
   refine zD' 8 ?_ ?_
   ·intro hq6
    refine zT 5 rfl ⟨by first | rw [few11_no (fun h => by have := h.1; omega)] | rw [few11_no (fun h => by have := h.2.1 l[k] (List.getElem_mem _); have h1 := this.1; omega)] | rw [few11_no (fun h => by have := h.2.1 l[k] (List.getElem_mem _); have h1 := this.2.1; omega)] | rw [few11_no (fun h => by have := (h.2.1 l[k] (List.getElem_mem _)).2.2 l[k].b[m] (List.getElem_mem _); omega)] | rw [few11_no (fun h => by have := h.2.2 F[j] (List.getElem_mem _); omega)] | rw [few11_yes ⟨⟨by omega, by omega, by omega⟩, hz, by rw [List.take_of_length_le (by omega)] at hx; exact hx⟩], rfl, rfl⟩
   intro hq6
   refine zR 4 ?_
   refine go_elem_fa (xs := F) zM (j) (List.getElem?_eq_getElem (by omega)) (fun b3 o3 A3 c3 hA => ?_); cases hA
   refine zI 3 ?_
   refine zL 1 ?_
   refine zD' 3 ?_ ?_
   ·intro g8
    refine zR 7 ?_
    refine zi 7 ?_
    refine zz (j + 1) (⟨by omega, mem_take_next (by omega) hx (by omega)⟩) (by omega)
   intro g8
   refine zE 4 [4] ?_
   refine zT 0 rfl ⟨by first | rw [few11_no (fun h => by have := h.1; omega)] | rw [few11_no (fun h => by have := h.2.1 l[k] (List.getElem_mem _); have h1 := this.1; omega)] | rw [few11_no (fun h => by have := h.2.1 l[k] (List.getElem_mem _); have h1 := this.2.1; omega)] | rw [few11_no (fun h => by have := (h.2.1 l[k] (List.getElem_mem _)).2.2 l[k].b[m] (List.getElem_mem _); omega)] | rw [few11_no (fun h => by have := h.2.2 F[j] (List.getElem_mem _); omega)] | rw [few11_yes ⟨⟨by omega, by omega, by omega⟩, hz, by rw [List.take_of_length_le (by omega)] at hx; exact hx⟩], rfl, rfl⟩
  intro hq4
  refine zR 5 ?_
  refine go_elem_cl (xs := l) zM (k) (List.getElem?_eq_getElem (by omega)) (fun b0 o0 A0 c0 B0 d0 hA => ?_); cases hA
  refine go_len (xs := l[k].b) zM (fun l2 m2 => ?_)
  refine zI 3 ?_
  refine zL 1 ?_
  refine zG 3 39 ?_ ?_
  ·intro g5
   (try simp only [dcs, ne_eq] at g5)
   refine zE 10 [0, 1, 5, 40, 41, 42, 43, 44, 45, 46, 47, 48] ?_
   refine zDt 0 ?_
   refine zE 4 [4] ?_
   refine zT 0 rfl ⟨by first | rw [few11_no (fun h => by have := h.1; omega)] | rw [few11_no (fun h => by have := h.2.1 l[k] (List.getElem_mem _); have h1 := this.1; omega)] | rw [few11_no (fun h => by have := h.2.1 l[k] (List.getElem_mem _); have h1 := this.2.1; omega)] | rw [few11_no (fun h => by have := (h.2.1 l[k] (List.getElem_mem _)).2.2 l[k].b[m] (List.getElem_mem _); omega)] | rw [few11_no (fun h => by have := h.2.2 F[j] (List.getElem_mem _); omega)] | rw [few11_yes ⟨⟨by omega, by omega, by omega⟩, hz, by rw [List.take_of_length_le (by omega)] at hx; exact hx⟩], rfl, rfl⟩
  intro g5
  (try simp only [dcs, ne_eq] at g5)
  refine zI 2 ?_
  refine zL 2 ?_
  refine zE 4 [0, 1, 5, 40, 41, 42, 43, 44, 45, 46, 47, 48] ?_
  refine zB 0 ?_ ?_
  ·intro g6
   (try simp only [dcs, ne_eq] at g6)
   refine zE 4 [4] ?_
   refine zT 0 rfl ⟨by first | rw [few11_no (fun h => by have := h.1; omega)] | rw [few11_no (fun h => by have := h.2.1 l[k] (List.getElem_mem _); have h1 := this.1; omega)] | rw [few11_no (fun h => by have := h.2.1 l[k] (List.getElem_mem _); have h1 := this.2.1; omega)] | rw [few11_no (fun h => by have := (h.2.1 l[k] (List.getElem_mem _)).2.2 l[k].b[m] (List.getElem_mem _); omega)] | rw [few11_no (fun h => by have := h.2.2 F[j] (List.getElem_mem _); omega)] | rw [few11_yes ⟨⟨by omega, by omega, by omega⟩, hz, by rw [List.take_of_length_le (by omega)] at hx; exact hx⟩], rfl, rfl⟩
  intro g6
  (try simp only [dcs, ne_eq] at g6)
  refine zR 6 ?_
  refine zO (X := Nat) (fun m => [(6, .int .i64 (m : Int))]) [0, 1, 5, 40, 41, 42, 43, 44, 45, 46, 47] (fun _ => []) (fun m => m ≤ l[k].b.length ∧ ∀ x ∈ l[k].b.take m, x.a.a.length ≤ 30) (fun m => l[k].b.length - m) 0 ⟨by omega, by simp⟩ ?_
  intro m ⟨hm, hy⟩
  refine zI 6 ?_
  refine zL 1 ?_
  refine zD' 3 ?_ ?_
  ·intro hq5
   refine zR 7 ?_
   refine zi 5 ?_
   refine zz (k + 1) (⟨by omega, mem_take_next (by omega) hz ⟨by omega, by omega, by rw [List.take_of_length_le (by omega)] at hy; exact hy⟩⟩) (by omega)
  intro hq5
  refine zR 4 ?_
  refine go_elem_li (xs := l[k].b) zM (m) (List.getElem?_eq_getElem (by omega)) (fun b1 o1 A1 c1 hA => ?_); cases hA
  refine zI 3 ?_
  refine zL 1 ?_
  refine zI 1 ?_
  refine zL 2 ?_
  refine zE 3 [0, 1, 5, 6, 40, 41, 42, 43, 44, 45, 46, 47, 70] ?_
  refine zD' 0 ?_ ?_
  ·intro g7
   refine zR 7 ?_
   refine zi 6 ?_
   refine zz (m + 1) (⟨by omega, mem_take_next (by omega) hy (by omega)⟩) (by omega)
  intro g7
  refine zE 4 [4] ?_
  refine zT 0 rfl ⟨by first | rw [few11_no (fun h => by have := h.1; omega)] | rw [few11_no (fun h => by have := h.2.1 l[k] (List.getElem_mem _); have h1 := this.1; omega)] | rw [few11_no (fun h => by have := h.2.1 l[k] (List.getElem_mem _); have h1 := this.2.1; omega)] | rw [few11_no (fun h => by have := (h.2.1 l[k] (List.getElem_mem _)).2.2 l[k].b[m] (List.getElem_mem _); omega)] | rw [few11_no (fun h => by have := h.2.2 F[j] (List.getElem_mem _); omega)] | rw [few11_yes ⟨⟨by omega, by omega, by omega⟩, hz, by rw [List.take_of_length_le (by omega)] at hx; exact hx⟩], rfl, rfl⟩
 intro g1
 (try simp only [dcs, ne_eq] at g1)
 refine zG 5 16 ?_ ?_
 ·intro g2
  (try simp only [dcs, ne_eq] at g2)
  refine zE 10 [0, 1, 25] ?_
  refine zDt 0 ?_
  refine zT 4 rfl ⟨by first | rw [few11_no (fun h => by have := h.1; omega)] | rw [few11_no (fun h => by have := h.2.1 l[k] (List.getElem_mem _); have h1 := this.1; omega)] | rw [few11_no (fun h => by have := h.2.1 l[k] (List.getElem_mem _); have h1 := this.2.1; omega)] | rw [few11_no (fun h => by have := (h.2.1 l[k] (List.getElem_mem _)).2.2 l[k].b[m] (List.getElem_mem _); omega)] | rw [few11_no (fun h => by have := h.2.2 F[j] (List.getElem_mem _); omega)] | rw [few11_yes ⟨⟨by omega, by omega, by omega⟩, hz, by rw [List.take_of_length_le (by omega)] at hx; exact hx⟩], rfl, rfl⟩
 intro g2
 (try simp only [dcs, ne_eq] at g2)
 refine zG 5 21 ?_ ?_
 ·intro g3
  (try simp only [dcs, ne_eq] at g3)
  refine zE 5 [0, 1, 25] ?_
  refine zDt 0 ?_
  refine zT 4 rfl ⟨by first | rw [few11_no (fun h => by have := h.1; omega)] | rw [few11_no (fun h => by have := h.2.1 l[k] (List.getElem_mem _); have h1 := this.1; omega)] | rw [few11_no (fun h => by have := h.2.1 l[k] (List.getElem_mem _); have h1 := this.2.1; omega)] | rw [few11_no (fun h => by have := (h.2.1 l[k] (List.getElem_mem _)).2.2 l[k].b[m] (List.getElem_mem _); omega)] | rw [few11_no (fun h => by have := h.2.2 F[j] (List.getElem_mem _); omega)] | rw [few11_yes ⟨⟨by omega, by omega, by omega⟩, hz, by rw [List.take_of_length_le (by omega)] at hx; exact hx⟩], rfl, rfl⟩
 intro g3
 (try simp only [dcs, ne_eq] at g3)
 refine zE 5 [0, 1, 25] ?_
 refine zB 0 ?_ ?_
 ·intro g4
  (try simp only [dcs, ne_eq] at g4)
  refine zT 4 rfl ⟨by first | rw [few11_no (fun h => by have := h.1; omega)] | rw [few11_no (fun h => by have := h.2.1 l[k] (List.getElem_mem _); have h1 := this.1; omega)] | rw [few11_no (fun h => by have := h.2.1 l[k] (List.getElem_mem _); have h1 := this.2.1; omega)] | rw [few11_no (fun h => by have := (h.2.1 l[k] (List.getElem_mem _)).2.2 l[k].b[m] (List.getElem_mem _); omega)] | rw [few11_no (fun h => by have := h.2.2 F[j] (List.getElem_mem _); omega)] | rw [few11_yes ⟨⟨by omega, by omega, by omega⟩, hz, by rw [List.take_of_length_le (by omega)] at hx; exact hx⟩], rfl, rfl⟩
 intro g4
 (try simp only [dcs, ne_eq] at g4)
 refine zR 7 ?_
 refine zO (X := Nat) (fun k => [(5, .int .i64 (k : Int))]) [0, 1] (fun _ => []) (fun k => k ≤ l.length ∧ ∀ x ∈ l.take k, CLok x) (fun k => l.length - k) 0 ⟨by omega, by simp⟩ ?_
 intro k ⟨hk, hz⟩
 refine zD' 8 ?_ ?_
 ·intro hq1
  refine zR 3 ?_
  rw [List.take_of_length_le (by omega)] at hz
  refine zR 4 ?_
  refine zO (X := Nat) (fun j => [(7, .int .i64 (j : Int))]) [1] (fun _ => []) (fun j => j ≤ F.length ∧ ∀ x ∈ F.take j, x.a.length ≤ 30) (fun j => F.length - j) 0 ⟨by omega, by simp⟩ ?_
  intro j ⟨hj, hx⟩
  refine zD' 8 ?_ ?_
  ·intro hq3
   refine zT 5 rfl ⟨by first | rw [few11_no (fun h => by have := h.1; omega)] | rw [few11_no (fun h => by have := h.2.1 l[k] (List.getElem_mem _); have h1 := this.1; omega)] | rw [few11_no (fun h => by have := h.2.1 l[k] (List.getElem_mem _); have h1 := this.2.1; omega)] | rw [few11_no (fun h => by have := (h.2.1 l[k] (List.getElem_mem _)).2.2 l[k].b[m] (List.getElem_mem _); omega)] | rw [few11_no (fun h => by have := h.2.2 F[j] (List.getElem_mem _); omega)] | rw [few11_yes ⟨⟨by omega, by omega, by omega⟩, hz, by rw [List.take_of_length_le (by omega)] at hx; exact hx⟩], rfl, rfl⟩
  intro hq3
  refine zR 4 ?_
  refine go_elem_fa (xs := F) zM (j) (List.getElem?_eq_getElem (by omega)) (fun b3 o3 A3 c3 hA => ?_); cases hA
  refine zI 3 ?_
  refine zL 1 ?_
  refine zD' 3 ?_ ?_
  ·intro g8
   refine zR 7 ?_
   refine zi 7 ?_
   refine zz (j + 1) (⟨by omega, mem_take_next (by omega) hx (by omega)⟩) (by omega)
  intro g8
  refine zE 4 [4] ?_
  refine zT 0 rfl ⟨by first | rw [few11_no (fun h => by have := h.1; omega)] | rw [few11_no (fun h => by have := h.2.1 l[k] (List.getElem_mem _); have h1 := this.1; omega)] | rw [few11_no (fun h => by have := h.2.1 l[k] (List.getElem_mem _); have h1 := this.2.1; omega)] | rw [few11_no (fun h => by have := (h.2.1 l[k] (List.getElem_mem _)).2.2 l[k].b[m] (List.getElem_mem _); omega)] | rw [few11_no (fun h => by have := h.2.2 F[j] (List.getElem_mem _); omega)] | rw [few11_yes ⟨⟨by omega, by omega, by omega⟩, hz, by rw [List.take_of_length_le (by omega)] at hx; exact hx⟩], rfl, rfl⟩
 intro hq1
 refine zR 5 ?_
 refine go_elem_cl (xs := l) zM (k) (List.getElem?_eq_getElem (by omega)) (fun b0 o0 A0 c0 B0 d0 hA => ?_); cases hA
 refine go_len (xs := l[k].b) zM (fun l2 m2 => ?_)
 refine zI 3 ?_
 refine zL 1 ?_
 refine zG 3 39 ?_ ?_
 ·intro g5
  (try simp only [dcs, ne_eq] at g5)
  refine zE 10 [0, 1, 5, 40, 41, 42, 43, 44, 45, 46, 47, 48] ?_
  refine zDt 0 ?_
  refine zE 4 [4] ?_
  refine zT 0 rfl ⟨by first | rw [few11_no (fun h => by have := h.1; omega)] | rw [few11_no (fun h => by have := h.2.1 l[k] (List.getElem_mem _); have h1 := this.1; omega)] | rw [few11_no (fun h => by have := h.2.1 l[k] (List.getElem_mem _); have h1 := this.2.1; omega)] | rw [few11_no (fun h => by have := (h.2.1 l[k] (List.getElem_mem _)).2.2 l[k].b[m] (List.getElem_mem _); omega)] | rw [few11_no (fun h => by have := h.2.2 F[j] (List.getElem_mem _); omega)] | rw [few11_yes ⟨⟨by omega, by omega, by omega⟩, hz, by rw [List.take_of_length_le (by omega)] at hx; exact hx⟩], rfl, rfl⟩
 intro g5
 (try simp only [dcs, ne_eq] at g5)
 refine zI 2 ?_
 refine zL 2 ?_
 refine zE 4 [0, 1, 5, 40, 41, 42, 43, 44, 45, 46, 47, 48] ?_
 refine zB 0 ?_ ?_
 ·intro g6
  (try simp only [dcs, ne_eq] at g6)
  refine zE 4 [4] ?_
  refine zT 0 rfl ⟨by first | rw [few11_no (fun h => by have := h.1; omega)] | rw [few11_no (fun h => by have := h.2.1 l[k] (List.getElem_mem _); have h1 := this.1; omega)] | rw [few11_no (fun h => by have := h.2.1 l[k] (List.getElem_mem _); have h1 := this.2.1; omega)] | rw [few11_no (fun h => by have := (h.2.1 l[k] (List.getElem_mem _)).2.2 l[k].b[m] (List.getElem_mem _); omega)] | rw [few11_no (fun h => by have := h.2.2 F[j] (List.getElem_mem _); omega)] | rw [few11_yes ⟨⟨by omega, by omega, by omega⟩, hz, by rw [List.take_of_length_le (by omega)] at hx; exact hx⟩], rfl, rfl⟩
 intro g6
 (try simp only [dcs, ne_eq] at g6)
 refine zR 6 ?_
 refine zO (X := Nat) (fun m => [(6, .int .i64 (m : Int))]) [0, 1, 5, 40, 41, 42, 43, 44, 45, 46, 47] (fun _ => []) (fun m => m ≤ l[k].b.length ∧ ∀ x ∈ l[k].b.take m, x.a.a.length ≤ 30) (fun m => l[k].b.length - m) 0 ⟨by omega, by simp⟩ ?_
 intro m ⟨hm, hy⟩
 refine zI 6 ?_
 refine zL 1 ?_
 refine zD' 3 ?_ ?_
 ·intro hq2
  refine zR 7 ?_
  refine zi 5 ?_
  refine zz (k + 1) (⟨by omega, mem_take_next (by omega) hz ⟨by omega, by omega, by rw [List.take_of_length_le (by omega)] at hy; exact hy⟩⟩) (by omega)
 intro hq2
 refine zR 4 ?_
 refine go_elem_li (xs := l[k].b) zM (m) (List.getElem?_eq_getElem (by omega)) (fun b1 o1 A1 c1 hA => ?_); cases hA
 refine zI 3 ?_
 refine zL 1 ?_
 refine zI 1 ?_
 refine zL 2 ?_
 refine zE 3 [0, 1, 5, 6, 40, 41, 42, 43, 44, 45, 46, 47, 70] ?_
 refine zD' 0 ?_ ?_
 ·intro g7
  refine zR 7 ?_
  refine zi 6 ?_
  refine zz (m + 1) (⟨by omega, mem_take_next (by omega) hy (by omega)⟩) (by omega)
 intro g7
 refine zE 4 [4] ?_
 refine zT 0 rfl ⟨by first | rw [few11_no (fun h => by have := h.1; omega)] | rw [few11_no (fun h => by have := h.2.1 l[k] (List.getElem_mem _); have h1 := this.1; omega)] | rw [few11_no (fun h => by have := h.2.1 l[k] (List.getElem_mem _); have h1 := this.2.1; omega)] | rw [few11_no (fun h => by have := (h.2.1 l[k] (List.getElem_mem _)).2.2 l[k].b[m] (List.getElem_mem _); omega)] | rw [few11_no (fun h => by have := h.2.2 F[j] (List.getElem_mem _); omega)] | rw [few11_yes ⟨⟨by omega, by omega, by omega⟩, hz, by rw [List.take_of_length_le (by omega)] at hx; exact hx⟩], rfl, rfl⟩
theorem law13Small (c : Cl) (CA : Option Addr) (cc : Nat) (CB : Option Addr) (cd : Nat) (n : Nat) :
    Spec Tryz.prog 22 #[.agg #[.int .u32 c.h.p, .slice CA c.h.a.length cc, .slice CB c.b.length cd], .int .i64 (n : Int)] [sl tTm CA cc c.h.a, sl tLi CB cd c.b] [] (fun v Ps' Os' => v = .bool (smallC c n) ∧ Ps' = [] ∧ Os' = []) := by
 refine zSp _ Tryz.func22 Tryz.ntmps22 (fun _ _ _ => ?_)
 refine zX 2 ?_
 intro bC
 refine zR 2 ?_
 refine go_freeze_pt (b := bC) zM ?_
 refine zR 1 ?_
 refine go_len (xs := c.b) zM (fun l0 m0 => ?_)
 refine zR 9 ?_
 refine zO (X := Nat) (fun k => [(5, .int .i64 (pos (c.b.take k) : Int)), (6, .int .i64 (k : Int))]) [1, 2] (fun _ => []) (fun k => k ≤ c.b.length) (fun k => c.b.length - k) 0 (by omega) ?_
 intro k hk
 have hpk := pos_le c.b k
 refine zL 5 ?_
 refine zD 3 ?_ ?_
 ·intro hq1
  refine zR 4 ?_
  refine go_elem_li (xs := c.b) zM (k) (List.getElem?_eq_getElem (by omega)) (fun b0 o0 A0 c0 hA => ?_); cases hA
  refine zL 2 ?_
  refine zI 1 ?_
  refine zL 1 ?_
  refine zB' 2 ?_ ?_
  ·intro g1
   (try simp only [dcs, ne_eq] at g1)
   refine zR 7 ?_
   refine zi 6 ?_
   refine go_re 5 (.int .i64 (pos (c.b.take (k + 1)) : Int)) (by show some (Value.int _ _) = _; rw [pos_no (by omega) g1]; skip) ?_
   refine zz (k + 1) (by omega) (by omega)
  intro g1
  (try simp only [dcs, ne_eq] at g1)
  refine zE 5 [1, 2, 5, 6] ?_
  refine zR 6 ?_
  refine zi 6 ?_
  refine go_re 5 (.int .i64 (pos (c.b.take (k + 1)) : Int)) (by show some (Value.int _ _) = _; rw [pos_yes (by omega) g1]; rw [wrap_i64 (by omega) (by omega)]; rfl) ?_
  refine zz (k + 1) (by omega) (by omega)
 intro hq1
 refine zR 2 ?_
 rw [List.take_of_length_le (show c.b.length ≤ k by omega)]
 have hpb := pos_le c.b c.b.length
 rw [List.take_of_length_le (Nat.le_refl _)] at hpb
 refine zL 2 ?_
 refine zG' 3 27 ?_ ?_
 ·intro g2
  (try simp only [dcs, ne_eq] at g2)
  refine zE 17 [4] ?_
  refine zT 0 rfl ⟨by show Value.bool _ = Value.bool _; congr 1; unfold smallC; first | (rw [decide_eq_decide]; constructor <;> intro _ <;> omega) | (symm; rw [decide_eq_true_eq]; omega) | (symm; rw [decide_eq_false_iff_not]; omega), rfl, rfl⟩
 intro g2
 (try simp only [dcs, ne_eq] at g2)
 refine zG' 3 30 ?_ ?_
 ·intro g3
  (try simp only [dcs, ne_eq] at g3)
  refine zG' 7 37 ?_ ?_
  ·intro g5
   (try simp only [dcs, ne_eq] at g5)
   refine zE 7 [4] ?_
   refine zT 0 rfl ⟨by show Value.bool _ = Value.bool _; congr 1; unfold smallC; first | (rw [decide_eq_decide]; constructor <;> intro _ <;> omega) | (symm; rw [decide_eq_true_eq]; omega) | (symm; rw [decide_eq_false_iff_not]; omega), rfl, rfl⟩
  intro g5
  (try simp only [dcs, ne_eq] at g5)
  refine zE 7 [4] ?_
  refine zT 0 rfl ⟨by show Value.bool _ = Value.bool _; congr 1; unfold smallC; first | (rw [decide_eq_decide]; constructor <;> intro _ <;> omega) | (symm; rw [decide_eq_true_eq]; omega) | (symm; rw [decide_eq_false_iff_not]; omega), rfl, rfl⟩
 intro g3
 (try simp only [dcs, ne_eq] at g3)
 refine zG 4 34 ?_ ?_
 ·intro g4
  (try simp only [dcs, ne_eq] at g4)
  refine zE 10 [4] ?_
  refine zT 0 rfl ⟨by show Value.bool _ = Value.bool _; congr 1; unfold smallC; first | (rw [decide_eq_decide]; constructor <;> intro _ <;> omega) | (symm; rw [decide_eq_true_eq]; omega) | (symm; rw [decide_eq_false_iff_not]; omega), rfl, rfl⟩
 intro g4
 (try simp only [dcs, ne_eq] at g4)
 refine zG' 3 37 ?_ ?_
 ·intro g5
  (try simp only [dcs, ne_eq] at g5)
  refine zE 7 [4] ?_
  refine zT 0 rfl ⟨by show Value.bool _ = Value.bool _; congr 1; unfold smallC; first | (rw [decide_eq_decide]; constructor <;> intro _ <;> omega) | (symm; rw [decide_eq_true_eq]; omega) | (symm; rw [decide_eq_false_iff_not]; omega), rfl, rfl⟩
 intro g5
 (try simp only [dcs, ne_eq] at g5)
 refine zE 7 [4] ?_
 refine zT 0 rfl ⟨by show Value.bool _ = Value.bool _; congr 1; unfold smallC; first | (rw [decide_eq_decide]; constructor <;> intro _ <;> omega) | (symm; rw [decide_eq_true_eq]; omega) | (symm; rw [decide_eq_false_iff_not]; omega), rfl, rfl⟩
theorem ref05MayAtom (a : Am) (AA : Option Addr) (ac : Nat) :
    Spec Tryz.prog 116 #[.agg #[.int .u32 a.p, .slice AA a.a.length ac]] [sl tTm AA ac a.a] [] (fun v Ps' Os' => v = .bool (mayA a) ∧ Ps' = [] ∧ Os' = []) := by
 refine zSp _ Tryz.func116 Tryz.ntmps116 (fun _ _ _ => ?_)
 refine zX 2 ?_
 intro b0
 refine zR 2 ?_
 refine go_freeze_pt (b := b0) zM ?_
 refine zR 2 ?_
 refine go_len (xs := a.a) zM (fun l0 m0 => ?_)
 refine zR 4 ?_
 refine zO (X := Nat) (fun k => [(3, .int .i64 (k : Int))]) [1] (fun _ => []) (fun k => k ≤ a.a.length ∧ ∀ t ∈ a.a.take k, t.v = true → t.n < 16) (fun k => a.a.length - k) 0 ⟨by omega, by simp⟩ ?_
 intro k ⟨hk, hz⟩
 refine zL 5 ?_
 refine zD' 3 ?_ ?_
 ·intro hq1
  refine zL 4 ?_
  refine zT 4 rfl ⟨congrArg Value.bool (Bool.eq_iff_iff.2 (by rw [decide_eq_true_eq, mayA_iff]; rw [List.take_of_length_le (by omega)] at hz; exact ⟨fun h => ⟨by omega, hz⟩, fun h => by omega⟩)), rfl, rfl⟩
 intro hq1
 refine zR 4 ?_
 refine go_elem_tm (xs := a.a) zM (k) (List.getElem?_eq_getElem (by omega)) (fun b1 o1 hA => ?_); cases hA
 refine zL 2 ?_
 refine zI 1 ?_
 refine zL 1 ?_
 refine zG' 1 17 ?_ ?_
 ·intro g1
  (try simp only [dcs, ne_eq] at g1)
  refine zE 9 [1, 3, 18, 19, 20, 21, 22, 23, 24, 25] ?_
  refine zDf 0 ?_
  refine zR 7 ?_
  refine zi 3 ?_
  refine zz (k + 1) (⟨by omega, mem_take_next (by omega) hz (fun q => by first | exact absurd (g1.symm.trans q) (by decide) | omega)⟩) (by omega)
 intro g1
 (try simp only [dcs, ne_eq] at g1)
 refine zL 1 ?_
 refine zI 1 ?_
 refine zL 1 ?_
 refine zE 3 [1, 3, 18, 19, 20, 21, 22, 23, 24, 25] ?_
 refine zB 0 ?_ ?_
 ·intro g2
  (try simp only [dcs, ne_eq] at g2)
  refine zT 4 rfl ⟨by rw [show mayA a = false from Bool.eq_false_iff.2 (fun e => by have := (mayA_iff.1 e).2 a.a[k] (List.getElem_mem _) g1; omega)], rfl, rfl⟩
 intro g2
 (try simp only [dcs, ne_eq] at g2)
 refine zR 7 ?_
 refine zi 3 ?_
 refine zz (k + 1) (⟨by omega, mem_take_next (by omega) hz (fun q => by first | exact absurd (g1.symm.trans q) (by decide) | omega)⟩) (by omega)
theorem ref05May (c : Cl) (CA : Option Addr) (cc : Nat) (CB : Option Addr) (cd : Nat) :
    Spec Tryz.prog 93 #[.agg #[.int .u32 c.h.p, .slice CA c.h.a.length cc, .slice CB c.b.length cd]] [sl tTm CA cc c.h.a, sl tLi CB cd c.b] [] (fun v Ps' Os' => v = .bool (mayC c) ∧ Ps' = [] ∧ Os' = []) := by
 refine zSp _ Tryz.func93 Tryz.ntmps93 (fun _ _ _ => ?_)
 refine zX 2 ?_
 intro bC
 refine zR 2 ?_
 refine go_freeze_pt (b := bC) zM ?_
 refine zR 2 ?_
 refine go_len (xs := c.b) zM (fun l0 m0 => ?_)
 refine zR 4 ?_
 refine zO (X := Nat) (fun k => [(3, .int .i64 (k : Int))]) [1] (fun _ => []) (fun k => k ≤ c.b.length ∧ ∀ l ∈ c.b.take k, mayA l.a = true) (fun k => c.b.length - k) 0 ⟨by omega, by simp⟩ ?_
 intro k ⟨hk, hz⟩
 refine zL 5 ?_
 refine zD 3 ?_ ?_
 ·intro hq1
  refine zR 4 ?_
  refine go_elem_li (xs := c.b) zM (k) (List.getElem?_eq_getElem (by omega)) (fun b1 o1 A1 c1 hA => ?_); cases hA
  refine zL 2 ?_
  refine zI 1 ?_
  refine zL 1 ?_
  refine zC3 0 (ref05MayAtom c.b[k].a A1 c1) ?_
  refine zE 2 [1, 3, 18] ?_
  refine zB 0 ?_ ?_
  ·intro g1
   (try simp only [dcs, ne_eq] at g1)
   refine zT 4 rfl ⟨by rw [show mayC c = false from Bool.eq_false_iff.2 (fun e => by have := (mayC_iff.1 e).2.2 c.b[k] (List.getElem_mem _); exact absurd (g1.symm.trans this) (by decide))], rfl, rfl⟩
  intro g1
  (try simp only [dcs, ne_eq] at g1)
  refine zR 7 ?_
  refine zi 3 ?_
  refine zz (k + 1) (⟨by omega, mem_take_next (by omega) hz g1⟩) (by omega)
 intro hq1
 refine zL 4 ?_
 refine zC3 0 (ref05MayAtom c.h CA cc) ?_
 refine zG' 1 22 ?_ ?_
 ·intro g2
  (try simp only [dcs, ne_eq] at g2)
  refine zE 7 [2] ?_
  refine zT 0 rfl ⟨by first | exact congrArg Value.bool (Bool.eq_iff_iff.2 (by rw [decide_eq_true_eq, mayC_iff]; rw [List.take_of_length_le (by omega)] at hz; exact ⟨fun h => ⟨by omega, g2, hz⟩, fun h => by omega⟩)) | rw [show mayC c = false from Bool.eq_false_iff.2 (fun e => absurd (g2.symm.trans (mayC_iff.1 e).2.1) (by decide))], rfl, rfl⟩
 intro g2
 (try simp only [dcs, ne_eq] at g2)
 refine zL 1 ?_
 refine zE 5 [2] ?_
 refine zT 0 rfl ⟨by first | exact congrArg Value.bool (Bool.eq_iff_iff.2 (by rw [decide_eq_true_eq, mayC_iff]; rw [List.take_of_length_le (by omega)] at hz; exact ⟨fun h => ⟨by omega, g2, hz⟩, fun h => by omega⟩)) | rw [show mayC c = false from Bool.eq_false_iff.2 (fun e => absurd (g2.symm.trans (mayC_iff.1 e).2.1) (by decide))], rfl, rfl⟩
theorem ref11in (a : Am) (AA : Option Addr) (ac : Nat) (n : Int) :
    Spec Tryz.prog 140 #[.agg #[.int .u32 a.p, .slice AA a.a.length ac], .int .u32 n] [sl tTm AA ac a.a] [] (fun v Ps' Os' => v = .bool (decide (n ∈ vars a)) ∧ Ps' = [] ∧ Os' = []) := by
 refine zSp _ Tryz.func140 Tryz.ntmps140 (fun _ _ _ => ?_)
 refine zX 2 ?_
 intro b0
 refine zR 2 ?_
 refine go_freeze_pt (b := b0) zM ?_
 refine zR 2 ?_
 refine go_len (xs := a.a) zM (fun l0 m0 => ?_)
 refine zR 4 ?_
 refine zO (X := Nat) (fun k => [(5, .int .i64 (k : Int))]) [1, 2] (fun _ => []) (fun k => k ≤ a.a.length ∧ ∀ t ∈ a.a.take k, ¬ (t.v = true ∧ t.n = n)) (fun k => a.a.length - k) 0 ⟨by omega, by simp⟩ ?_
 intro k ⟨hk, hz⟩
 refine zL 5 ?_
 refine zD' 3 ?_ ?_
 ·intro hq1
  refine zT 5 rfl ⟨by first | rw [decide_eq_true (mem_vars.2 ⟨a.a[k], List.getElem_mem _, g1, g2⟩)] | (rw [decide_eq_false]; intro q; obtain ⟨t, ht, q1, q2⟩ := mem_vars.1 q; rw [List.take_of_length_le (by omega)] at hz; exact hz t ht ⟨q1, q2⟩), rfl, rfl⟩
 intro hq1
 refine zR 4 ?_
 refine go_elem_tm (xs := a.a) zM (k) (List.getElem?_eq_getElem (by omega)) (fun b1 o1 hA => ?_); cases hA
 refine zL 2 ?_
 refine zI 1 ?_
 refine zL 1 ?_
 refine zG' 1 19 ?_ ?_
 ·intro g1
  (try simp only [dcs, ne_eq] at g1)
  refine zE 10 [1, 2, 5, 20, 21, 22, 23, 24, 25, 26, 27, 28] ?_
  refine zDf 0 ?_
  refine zR 7 ?_
  refine zi 5 ?_
  refine zz (k + 1) (⟨by omega, mem_take_next (by omega) hz (fun q => by first | exact absurd (g1.symm.trans q.1) (by decide) | exact g2 q.2)⟩) (by omega)
 intro g1
 (try simp only [dcs, ne_eq] at g1)
 refine zL 1 ?_
 refine zI 1 ?_
 refine zL 1 ?_
 refine zE 4 [1, 2, 5, 20, 21, 22, 23, 24, 25, 26, 27, 28] ?_
 refine zB' 0 ?_ ?_
 ·intro g2
  (try simp only [dcs, ne_eq] at g2)
  refine zR 7 ?_
  refine zi 5 ?_
  refine zz (k + 1) (⟨by omega, mem_take_next (by omega) hz (fun q => by first | exact absurd (g1.symm.trans q.1) (by decide) | exact g2 q.2)⟩) (by omega)
 intro g2
 (try simp only [dcs, ne_eq] at g2)
 refine zE 4 [4] ?_
 refine zT 0 rfl ⟨by first | rw [decide_eq_true (mem_vars.2 ⟨a.a[k], List.getElem_mem _, g1, g2⟩)] | (rw [decide_eq_false]; intro q; obtain ⟨t, ht, q1, q2⟩ := mem_vars.1 q; rw [List.take_of_length_le (by omega)] at hz; exact hz t ht ⟨q1, q2⟩), rfl, rfl⟩
theorem ref11held (c : Cl) (CA : Option Addr) (cc : Nat) (CB : Option Addr) (cd : Nat) (a : Am) (AA : Option Addr) (ac : Nat) :
    Spec Tryz.prog 117 #[.agg #[.int .u32 c.h.p, .slice CA c.h.a.length cc, .slice CB c.b.length cd], .agg #[.int .u32 a.p, .slice AA a.a.length ac]] [sl tTm CA cc c.h.a, sl tLi CB cd c.b, sl tTm AA ac a.a] [] (fun v Ps' Os' => v = .bool (heldIn c a) ∧ Ps' = [] ∧ Os' = []) := by
 refine zSp _ Tryz.func117 Tryz.ntmps117 (fun _ _ _ => ?_)
 refine zX 2 ?_
 intro bC
 refine zX 0 ?_
 intro bA
 refine zR 2 ?_
 refine go_freeze_pt (b := bC) zM ?_
 refine go_freeze_pt (b := bA) zM ?_
 refine zR 2 ?_
 refine go_len (xs := a.a) zM (fun l0 m0 => ?_)
 refine go_len (xs := c.b) zM (fun l1 m1 => ?_)
 refine zR 4 ?_
 refine zO (X := Nat) (fun k => [(5, .int .i64 (k : Int))]) [2, 3] (fun _ => []) (fun k => k ≤ a.a.length ∧ ∀ t ∈ a.a.take k, t.v = true → t.n ∈ heldBy c) (fun k => a.a.length - k) 0 ⟨by omega, by simp⟩ ?_
 intro k ⟨hk, hz⟩
 refine zL 5 ?_
 refine zD' 3 ?_ ?_
 ·intro hq1
  refine zT 5 rfl ⟨by rw [heldIn_yes (by rw [List.take_of_length_le (by omega)] at hz; exact hz)], rfl, rfl⟩
 intro hq1
 refine zR 5 ?_
 refine go_elem_tm (xs := a.a) zM (k) (List.getElem?_eq_getElem (by omega)) (fun b1 o1 hA => ?_); cases hA
 refine zL 2 ?_
 refine zI 1 ?_
 refine zL 1 ?_
 refine zB 2 ?_ ?_
 ·intro g1
  (try simp only [dcs, ne_eq] at g1)
  refine zR 6 ?_
  refine zi 5 ?_
  refine zz (k + 1) (⟨by omega, mem_take_next (by omega) hz (fun q => by first | exact absurd (g1.symm.trans q) (by decide) | exact held_full (m := m) (by omega) (by first | exact g4 | simpa using g4))⟩) (by omega)
 intro g1
 (try simp only [dcs, ne_eq] at g1)
 refine zE 5 [2, 3, 5, 6] ?_
 refine zR 6 ?_
 refine zO (X := Nat) (fun m => [(6, .bool (decide (a.a[k].n ∈ heldBy ⟨c.h, c.b.take m⟩))), (7, .int .i64 (m : Int))]) [2, 3, 5] (fun _ => []) (fun m => m ≤ c.b.length) (fun m => c.b.length - m) 0 (by omega) ?_
 intro m hm
 refine zL 5 ?_
 refine zD' 3 ?_ ?_
 ·intro hq2
  refine zB 6 ?_ ?_
  ·intro g4
   (try simp only [dcs, ne_eq] at g4)
   refine zE 4 [4] ?_
   refine zT 0 rfl ⟨by rw [heldIn_no (List.getElem_mem _) g1 (fun q => by rw [List.take_of_length_le (by omega)] at g4; exact g4 q)], rfl, rfl⟩
  intro g4
  (try simp only [dcs, ne_eq] at g4)
  refine zR 7 ?_
  refine zi 5 ?_
  refine zz (k + 1) (⟨by omega, mem_take_next (by omega) hz (fun q => by first | exact absurd (g1.symm.trans q) (by decide) | exact held_full (m := m) (by omega) (by first | exact g4 | simpa using g4))⟩) (by omega)
 intro hq2
 refine zR 3 ?_
 refine go_elem_li (xs := c.b) zM (m) (List.getElem?_eq_getElem (by omega)) (fun b2 o2 A2 c2 hA => ?_); cases hA
 refine go_draw ([cl bC 0 [.int .u32 c.h.p, .slice CA c.h.a.length cc, .slice (some ⟨b2, o2, none⟩) c.b.length cd], cl b2 (o2 + m * 3) [.bool c.b[m].no, .int .u32 c.b[m].a.p, .slice A2 c.b[m].a.a.length c2], cl bA 0 [.int .u32 a.p, .slice (some ⟨b1, o1, none⟩) a.a.length ac], cl b1 (o1 + k * 2) [.bool a.a[k].v, .int .u32 a.a[k].n]]) ([]) [3, 7, 11, 15, 17, 21] (SL.pre [(1, 0), (1, 1), (1, 2), (1, 4), (2, 3), (1, 5), (1, 6), (2, 7), (1, 8), (1, 9), (1, 10), (1, 12), (1, 16), (1, 18), (2, 11), (1, 13), (1, 14), (2, 15), (2, 17), (1, 19), (1, 20), (2, 21), (0, 22), (1, 23), (1, 24), (1, 25)] .nil) mixed rfl (by kernel_rfl) ?_
 refine zG 2 30 ?_ ?_
 ·intro g2
  (try simp only [dcs, ne_eq] at g2)
  refine zJ 2 ?_
  refine zJ 2 ?_
  refine zJ 6 ?_
  refine zJ 2 ?_
  refine zJ 0 ?_
  refine zJ 2 ?_
  refine zR 4 ?_
  refine go_re 6 (.bool (decide (a.a[k].n ∈ heldBy ⟨c.h, c.b.take (m + 1)⟩))) (by show some (Value.bool _) = _; first | rw [held_a (by omega) g2] | rw [held_b (by omega) g2 g3] | rw [held_c (by omega) g2 g3]) ?_
  refine zR 7 ?_
  refine zi 7 ?_
  refine zz (m + 1) (by omega) (by omega)
 intro g2
 (try simp only [dcs, ne_eq] at g2)
 refine zK 2 ?_
 refine zI 0 ?_
 refine zK 1 ?_
 refine zG' 2 38 ?_ ?_
 ·intro g3
  (try simp only [dcs, ne_eq] at g3)
  refine zJ 4 ?_
  refine zJ 2 ?_
  refine zJ 0 ?_
  refine zJ 2 ?_
  refine zR 4 ?_
  refine go_re 6 (.bool (decide (a.a[k].n ∈ heldBy ⟨c.h, c.b.take (m + 1)⟩))) (by show some (Value.bool _) = _; first | rw [held_a (by omega) g2] | rw [held_b (by omega) g2 g3] | rw [held_c (by omega) g2 g3]) ?_
  refine zR 7 ?_
  refine zi 7 ?_
  refine zz (m + 1) (by omega) (by omega)
 intro g3
 (try simp only [dcs, ne_eq] at g3)
 refine zK 4 ?_
 refine zI 0 ?_
 refine zK 1 ?_
 refine zK 0 ?_
 refine zI 0 ?_
 refine zK 1 ?_
 refine zC3 0 (ref11in c.b[m].a A2 c2 a.a[k].n) ?_
 refine zR 3 ?_
 refine go_re 6 (.bool (decide (a.a[k].n ∈ heldBy ⟨c.h, c.b.take (m + 1)⟩))) (by show some (Value.bool _) = _; first | rw [held_a (by omega) g2] | rw [held_b (by omega) g2 g3] | rw [held_c (by omega) g2 g3]) ?_
 refine zR 7 ?_
 refine zi 7 ?_
 refine zz (m + 1) (by omega) (by omega)
theorem ref11Safe (c : Cl) (CA : Option Addr) (cc : Nat) (CB : Option Addr) (cd : Nat) :
    Spec Tryz.prog 94 #[.agg #[.int .u32 c.h.p, .slice CA c.h.a.length cc, .slice CB c.b.length cd]] [sl tTm CA cc c.h.a, sl tLi CB cd c.b] [] (fun v Ps' Os' => v = .bool (heldC c) ∧ Ps' = [] ∧ Os' = []) := by
 refine zSp _ Tryz.func94 Tryz.ntmps94 (fun _ _ _ => ?_)
 refine zX 2 ?_
 intro bC
 refine zR 2 ?_
 refine go_freeze_pt (b := bC) zM ?_
 refine zR 2 ?_
 refine go_len (xs := c.b) zM (fun l0 m0 => ?_)
 refine zL 1 ?_
 refine zL 1 ?_
 refine zC3 0 (ref11held c CA cc CB cd c.h CA cc) ?_
 refine zB 2 ?_ ?_
 ·intro g1
  (try simp only [dcs, ne_eq] at g1)
  refine zT 4 rfl ⟨by rw [heldC_no (fun q => absurd (g1.symm.trans (heldIn_yes q.1)) (by decide))], rfl, rfl⟩
 intro g1
 (try simp only [dcs, ne_eq] at g1)
 refine zR 7 ?_
 refine zO (X := Nat) (fun k => [(3, .int .i64 (k : Int))]) [1] (fun _ => []) (fun k => k ≤ c.b.length ∧ ∀ l ∈ c.b.take k, l.no = true → heldIn c l.a = true) (fun k => c.b.length - k) 0 ⟨by omega, by simp⟩ ?_
 intro k ⟨hk, hz⟩
 refine zL 5 ?_
 refine zD' 3 ?_ ?_
 ·intro hq1
  refine zT 5 rfl ⟨by rw [heldC_iff.2 ⟨heldIn_iff.1 g1, fun l hl e => heldIn_iff.1 (by rw [List.take_of_length_le (by omega)] at hz; exact hz l hl e)⟩], rfl, rfl⟩
 intro hq1
 refine zR 4 ?_
 refine go_elem_li (xs := c.b) zM (k) (List.getElem?_eq_getElem (by omega)) (fun b1 o1 A1 c1 hA => ?_); cases hA
 refine go_draw ([cl bC 0 [.int .u32 c.h.p, .slice CA c.h.a.length cc, .slice (some ⟨b1, o1, none⟩) c.b.length cd], cl b1 (o1 + k * 3) [.bool c.b[k].no, .int .u32 c.b[k].a.p, .slice A1 c.b[k].a.a.length c1]]) ([]) [1, 5, 7, 9, 13] (SL.pre [(1, 0), (1, 2), (2, 1), (1, 3), (1, 4), (2, 5), (1, 6), (1, 8), (1, 10), (2, 7), (2, 9), (1, 11), (1, 12), (2, 13), (0, 14), (1, 15), (1, 16)] .nil) mixed rfl (by kernel_rfl) ?_
 refine zK 2 ?_
 refine zI 0 ?_
 refine zK 1 ?_
 refine zG' 1 22 ?_ ?_
 ·intro g2
  (try simp only [dcs, ne_eq] at g2)
  refine zJ 2 ?_
  refine zJ 0 ?_
  refine zJ 2 ?_
  refine zE 4 [1, 3, 23, 24, 25, 26, 27, 28, 29, 30, 31, 32] ?_
  refine zDf 0 ?_
  refine zR 7 ?_
  refine zi 3 ?_
  refine zz (k + 1) (⟨by omega, mem_take_next (by omega) hz (fun q => by first | exact absurd (g2.symm.trans q) (by decide) | exact g3)⟩) (by omega)
 intro g2
 (try simp only [dcs, ne_eq] at g2)
 refine zK 2 ?_
 refine zK 0 ?_
 refine zI 0 ?_
 refine zK 1 ?_
 refine zC3 0 (ref11held c CA cc (some ⟨b1, o1, none⟩) cd c.b[k].a A1 c1) ?_
 refine zE 3 [1, 3, 23, 24, 25, 26, 27, 28, 29, 30, 31, 32] ?_
 refine zB 0 ?_ ?_
 ·intro g3
  (try simp only [dcs, ne_eq] at g3)
  refine zE 4 [2] ?_
  refine zT 0 rfl ⟨by rw [heldC_no (fun q => absurd (g3.symm.trans (heldIn_yes (q.2 _ (List.getElem_mem _) g2))) (by decide))], rfl, rfl⟩
 intro g3
 (try simp only [dcs, ne_eq] at g3)
 refine zR 7 ?_
 refine zi 3 ?_
 refine zz (k + 1) (⟨by omega, mem_take_next (by omega) hz (fun q => by first | exact absurd (g2.symm.trans q) (by decide) | exact g3)⟩) (by omega)
theorem ref11Atoms (c : Cl) (CA : Option Addr) (cc : Nat) (CB : Option Addr) (cd : Nat) (hn : c.b.length ≤ 1000) :
    Spec Tryz.prog 55 #[.agg #[.int .u32 c.h.p, .slice CA c.h.a.length cc, .slice CB c.b.length cd]] [sl tTm CA cc c.h.a, sl tLi CB cd c.b] [] (fun v Ps' Os' => ∃ A k, v = .slice A (atomsC c).length k ∧ Ps' = [sl tAm A k (atomsC c)] ∧ Os' = []) := by
 refine zSp _ Tryz.func55 Tryz.ntmps55 (fun _ _ _ => ?_)
 refine zX 2 ?_
 intro bC
 refine zR 2 ?_
 refine go_freeze_pt (b := bC) zM ?_
 refine zR 1 ?_
 refine go_len (xs := c.b) zM (fun l0 m0 => ?_)
 refine zL 2 ?_
 refine zV 0 ?_
 intro bl
 refine go_lit_ol (b := bl) tAm [c.h] zM (fun hp a => ⟨[_, _], [], rfl, tAm_mk (a (sl tTm CA cc c.h.a) zM), rfl⟩) (by simp) ?_
 refine go_same (A := ol tAm 43 _ _ [c.h]) (B := ol tAm 43 (some ⟨bl, 0, none⟩) 1 (atomsC ⟨c.h, c.b.take 0⟩)) zM rfl ?_
 refine zR 8 ?_
 refine zO (X := Nat × Option Addr × Nat) (fun x => [(3, .slice x.2.1 (atomsC ⟨c.h, c.b.take x.1⟩).length x.2.2), (4, .int .i64 (x.1 : Int))]) [1] (fun x => [ol tAm 43 x.2.1 x.2.2 (atomsC ⟨c.h, c.b.take x.1⟩)]) (fun x => x.1 ≤ c.b.length) (fun x => c.b.length - x.1) (0, some ⟨bl, 0, none⟩, 1) (by omega) ?_
 intro ⟨k, A1, k1⟩ hk
 simp only at hk ⊢
 have hal : (atomsC ⟨c.h, c.b.take k⟩).length ≤ 1001 := by rw [atomsC_len]; simp only [List.length_take]; omega
 refine zL 5 ?_
 refine zD' 3 ?_ ?_
 ·intro hq1
  refine zR 2 ?_
  refine go_same (A := ol tAm 43 A1 k1 (atomsC ⟨c.h, c.b.take k⟩)) (B := ol tAm 43 A1 k1 (atomsC c)) zM (by rw [List.take_of_length_le (by omega)]) ?_
  refine go_freeze_ol (xs := atomsC c) zM ?_
  refine zT 4 rfl ⟨A1, k1, by rw [List.take_of_length_le (by omega)], rfl, rfl⟩
 intro hq1
 refine zR 3 ?_
 refine go_elem_li (xs := c.b) zM (k) (List.getElem?_eq_getElem (by omega)) (fun b1 o1 A2 c2 hA => ?_); cases hA
 refine zL 3 ?_
 refine zI 1 ?_
 refine zL 1 ?_
 refine zV 0 ?_
 intro b1
 refine go_append1 (T := tAm) (xs := atomsC ⟨c.h, c.b.take k⟩) Tk (c.b[k].a) rfl rfl rfl rfl rfl rfl rfl rfl rfl zM zM rfl (ent_am zM) (by omega) zH ?_
 intro A3 c3
 refine zR 2 ?_
 rw [atomsC_next (by omega)]
 refine zE 0 [1, 3, 4] ?_
 refine zR 6 ?_
 refine zi 4 ?_
 refine zz (k + 1, A3, c3) (by show k + 1 ≤ _; omega) (by show c.b.length - (k + 1) < c.b.length - k; omega)
theorem ref11lengths (A : Option Addr) (c : Nat) (l : List Cl) (hn : l.length ≤ 1000) (hb : ∀ x ∈ l, x.b.length ≤ 1000) :
    Spec Tryz.prog 95 #[.slice A l.length c] [sl tCl A c l] [] (fun v Ps' Os' => ∃ r, v = .bool r ∧ (r = true ↔ sameLen (atomsL l)) ∧ Ps' = [] ∧ Os' = []) := by
 refine zSp _ Tryz.func95 Tryz.ntmps95 (fun _ _ _ => ?_)
 refine zR 5 ?_
 refine go_len (xs := l) zM (fun l0 m0 => ?_)
 refine zR 2 ?_
 refine go_own_nil tAm 43 none ?_
 refine go_same (A := ol tAm 43 none 0 []) (B := ol tAm 43 none 0 (atomsL (l.take 0))) zM rfl ?_
 refine zR 7 ?_
 refine zO (X := Nat × Option Addr × Nat) (fun x => [(3, .slice x.2.1 (atomsL (l.take x.1)).length x.2.2), (4, .int .i64 (x.1 : Int))]) [0] (fun x => [ol tAm 43 x.2.1 x.2.2 (atomsL (l.take x.1))]) (fun x => x.1 ≤ l.length ∧ (atomsL (l.take x.1)).length ≤ x.1 * 1001) (fun x => l.length - x.1) (0, none, 0) ⟨by omega, by simp [atomsL]⟩ ?_
 intro ⟨k, A1, c1⟩ ⟨hk, hal⟩
 simp only at hk hal ⊢
 refine zD 8 ?_ ?_
 ·intro hq1
  refine zR 3 ?_
  refine go_elem_cl (xs := l) zM (k) (List.getElem?_eq_getElem (by omega)) (fun b1 o1 A2 c2 B2 d2 hA => ?_); cases hA
  have hbk := hb l[k] (List.getElem_mem _)
  have hacl := atomsC_len l[k]
  refine zI 4 ?_
  refine zL 0 ?_
  refine zC 0 (ref11Atoms l[k] A2 c2 B2 d2 hbk) ?_
  rintro _ _ _ ⟨A4, k4, rfl, rfl, rfl⟩
  refine go_appendN (T := tAm) (xs := atomsL (l.take k)) (ys := atomsC l[k]) Tk rfl rfl rfl rfl rfl rfl rfl rfl rfl zM rfl zM (by omega) zH ?_
  intro A3 c3
  refine zR 8 ?_
  refine zi 4 ?_
  rw [← atomsL_next (by omega)]
  refine zz (k + 1, A3, c3) ⟨by show k + 1 ≤ _; omega, by show (atomsL (l.take (k + 1))).length ≤ (k + 1) * 1001; rw [atomsL_next (by omega), List.length_append, atomsC_len]; omega⟩ (by show l.length - (k + 1) < l.length - k; omega)
 intro hq1
 refine zR 3 ?_
 rw [List.take_of_length_le (by omega)]
 rw [List.take_of_length_le (by omega)] at hal
 refine go_freeze_ol (xs := atomsL l) zM ?_
 refine go_len (xs := atomsL l) zM (fun l9 m9 => ?_)
 refine zR 4 ?_
 refine zO (X := Nat) (fun i => [(5, .int .i64 (i : Int))]) [3] (fun _ => []) (fun i => i ≤ (atomsL l).length ∧ sameLen ((atomsL l).take i)) (fun i => (atomsL l).length - i) 0 ⟨by omega, by simp [sameLen]⟩ ?_
 intro i ⟨hi, hz⟩
 refine zD' 8 ?_ ?_
 ·intro hq2
  refine zT 5 rfl ⟨_, rfl, by first | exact ⟨fun h => (nomatch h), fun h => absurd (h _ (List.getElem_mem (by omega)) _ (List.getElem_mem (by omega)) g1) (by omega)⟩ | exact ⟨fun _ => by rw [List.take_of_length_le (by omega)] at hz; exact hz, fun _ => rfl⟩, rfl, rfl⟩
 intro hq2
 refine zR 8 ?_
 refine zO (X := Nat) (fun j => [(6, .int .i64 (j : Int))]) [3, 5] (fun _ => []) (fun j => j ≤ i ∧ ∀ b ∈ (atomsL l).take j, (atomsL l)[i].p = b.p → (atomsL l)[i].a.length = b.a.length) (fun j => i - j) 0 ⟨by omega, by simp⟩ ?_
 intro j ⟨hj, hy⟩
 refine zR 2 ?_
 have hil : i < (atomsL l).length := by omega
 refine zD' 5 ?_ ?_
 ·intro hq3
  refine zR 7 ?_
  refine zi 5 ?_
  refine zz (i + 1) (⟨by omega, sameLen_next (by omega) hz (by rw [show j = i from by omega] at hy; exact hy)⟩) (by omega)
 intro hq3
 refine zR 4 ?_
 refine go_elem_am (xs := atomsL l) (c := c1) zM (i) (List.getElem?_eq_getElem (by omega)) (fun b5 o5 A5 c5 hA => ?_); cases hA
 refine go_elem_am (xs := atomsL l) (c := c1) zM (j) (List.getElem?_eq_getElem (by omega)) (fun b6 o6 A6 c6 hA => ?_); cases hA
 refine go_draw ([cl b5 (o5 + i * 2) [.int .u32 (atomsL l)[i].p, .slice A5 (atomsL l)[i].a.length c5], cl b5 (o5 + j * 2) [.int .u32 (atomsL l)[j].p, .slice A6 (atomsL l)[j].a.length c6]]) ([]) [4, 9, 16, 22] (SL.pre [(1, 0), (1, 1), (1, 2), (1, 3), (1, 5), (1, 6), (1, 7), (1, 8), (2, 4), (2, 9), (1, 10), (1, 11), (1, 12), (1, 13), (1, 14), (1, 15), (1, 18), (1, 19), (1, 20), (1, 21), (2, 16), (1, 17), (2, 22), (1, 23), (1, 24), (1, 25)] .nil) mixed rfl (by kernel_rfl) ?_
 refine zI 2 ?_
 refine zI 3 ?_
 refine zK 1 ?_
 refine zK 0 ?_
 refine zG' 2 42 ?_ ?_
 ·intro g1
  (try simp only [dcs, ne_eq] at g1)
  refine zJ 8 ?_
  refine zJ 1 ?_
  refine zE 4 [3, 5, 6, 43, 44, 45, 46, 47, 48, 49, 50, 51, 52, 53, 54, 55, 56] ?_
  refine zDf 0 ?_
  refine zR 7 ?_
  refine zi 6 ?_
  refine zz (j + 1) (⟨by omega, mem_take_next (by omega) hy (fun q => by first | exact absurd q g1 | omega)⟩) (by omega)
 intro g1
 (try simp only [dcs, ne_eq] at g1)
 refine zI 2 ?_
 refine zI 3 ?_
 refine zK 1 ?_
 refine zK 1 ?_
 refine zE 4 [3, 5, 6, 43, 44, 45, 46, 47, 48, 49, 50, 51, 52, 53, 54, 55, 56] ?_
 refine zB' 0 ?_ ?_
 ·intro g2
  (try simp only [dcs, ne_eq] at g2)
  refine zR 7 ?_
  refine zi 6 ?_
  refine zz (j + 1) (⟨by omega, mem_take_next (by omega) hy (fun q => by first | exact absurd q g1 | omega)⟩) (by omega)
 intro g2
 (try simp only [dcs, ne_eq] at g2)
 refine zE 4 [2] ?_
 refine zT 0 rfl ⟨_, rfl, by first | exact ⟨fun h => (nomatch h), fun h => absurd (h _ (List.getElem_mem (by omega)) _ (List.getElem_mem (by omega)) g1) (by omega)⟩ | exact ⟨fun _ => by rw [List.take_of_length_le (by omega)] at hz; exact hz, fun _ => rfl⟩, rfl, rfl⟩
theorem ref11Right (A : Option Addr) (c : Nat) (l : List Cl) (hb : ∀ x ∈ l, x.b.length ≤ 1000) :
    Spec Tryz.prog 75 #[.slice A l.length c] [sl tCl A c l] [] (fun v Ps' Os' => v = .tuple #[.int .i64 (rightC l).1, .int .i64 (rightC l).2] ∧ Ps' = [] ∧ Os' = []) := by
 refine zSp _ Tryz.func75 Tryz.ntmps75 (fun _ _ _ => ?_)
 refine zR 7 ?_
 refine go_len (xs := l) zM (fun l0 m0 => ?_)
 refine zD 5 ?_ ?_
 ·intro h1
  refine zT 5 rfl ⟨by unfold rightC; rw [if_pos (by omega)], rfl, rfl⟩
 intro h1
 refine zR 7 ?_
 refine zO (X := Nat) (fun k => [(4, .int .i64 (k : Int))]) [0] (fun _ => []) (fun k => k ≤ l.length ∧ sameLen (atomsL (l.take k)) ∧ LensOf ((l.take k).foldl (fun L c => (clauseL L c).2) (fun _ => none)) (atomsL (l.take k)) ∧ rightF (fun _ => none) l 0 = rightF ((l.take k).foldl (fun L c => (clauseL L c).2) (fun _ => none)) (l.drop k) k) (fun k => l.length - k) 0 ⟨by omega, by simp [sameLen, atomsL], LensOf.nil, rfl⟩ ?_
 intro k ⟨hk, hs, hL, hz⟩
 refine zD' 8 ?_ ?_
 ·intro hq1
  refine zT 6 rfl ⟨by unfold rightC; rw [if_neg (by omega), hz, List.drop_eq_nil_of_le (by omega)]; rfl, rfl, rfl⟩
 intro hq1
 refine zR 5 ?_
 refine go_elem_cl (xs := l) zM (k) (List.getElem?_eq_getElem (by omega)) (fun b1 o1 A1 c1 B1 d1 hA => ?_); cases hA
 refine zI 3 ?_
 refine zL 0 ?_
 refine zC3 0 (ref05May l[k] A1 c1 B1 d1) ?_
 refine zB 2 ?_ ?_
 ·intro g1
  (try simp only [dcs, ne_eq] at g1)
  refine zE 6 [2, 3] ?_
  refine zT 0 rfl ⟨by unfold rightC; rw [if_neg (by omega), hz, right_bad (by omega) (by rw [show badC ((l.take k).foldl (fun L c => (clauseL L c).2) (fun _ => none)) l[k] = 8 by unfold badC; rw [if_pos g1]]; decide), show badC ((l.take k).foldl (fun L c => (clauseL L c).2) (fun _ => none)) l[k] = 8 by unfold badC; rw [if_pos g1]], rfl, rfl⟩
 intro g1
 (try simp only [dcs, ne_eq] at g1)
 refine zI 6 ?_
 refine zL 0 ?_
 refine zC3 0 (ref11Safe l[k] A1 c1 B1 d1) ?_
 refine zE 2 [0, 4, 26] ?_
 refine zB 0 ?_ ?_
 ·intro g2
  (try simp only [dcs, ne_eq] at g2)
  refine zT 6 rfl ⟨by unfold rightC; rw [if_neg (by omega), hz, right_bad (by omega) (by rw [show badC ((l.take k).foldl (fun L c => (clauseL L c).2) (fun _ => none)) l[k] = 10 by unfold badC; rw [if_neg (by rw [g1]; decide), if_pos g2]]; decide), show badC ((l.take k).foldl (fun L c => (clauseL L c).2) (fun _ => none)) l[k] = 10 by unfold badC; rw [if_neg (by rw [g1]; decide), if_pos g2]], rfl, rfl⟩
 intro g2
 (try simp only [dcs, ne_eq] at g2)
 refine zR 2 ?_
 refine go_sl (sl tCl (some ⟨b1, o1, none⟩) c l) (sl tCl (some ⟨b1, o1, none⟩) c (l.take (k + 1))) zM (fun _ hs => Sl.pre hs (k + 1)) ?_
 have htl : (l.take (k + 1)).length = k + 1 := by rw [List.length_take]; omega
 refine zR 4 ?_
 refine zi 30 ?_
 refine go_re 30 (.int .i64 ((k + 1 : Nat) : Int)) (by rfl) ?_
 refine go_val0 rfl (slice_val' Tk rfl rfl rfl rfl 0 (k + 1) c (.slice (some ⟨b1, o1, none⟩) (l.take (k + 1)).length c) (by first | rfl | exact ⟨_, rfl⟩ | exact ⟨rfl, rfl⟩) (by first | rfl | exact ⟨_, rfl⟩ | exact ⟨rfl, rfl⟩) (by first | rfl | exact ⟨_, rfl⟩ | exact ⟨rfl, rfl⟩) (by omega) (by omega) (by omega) (by rw [sub0, htl]; rfl)) rfl ?_
 refine zC 0 (ref11lengths (some ⟨b1, o1, none⟩) c (l.take (k + 1)) (by omega) (fun x hx => hb x (List.mem_of_mem_take hx))) ?_
 rintro _ _ _ ⟨r, rfl, hr, rfl, rfl⟩
 refine zB' 2 ?_ ?_
 ·intro g3
  (try simp only [dcs, ne_eq] at g3)
  have g4 : (clauseL ((l.take k).foldl (fun L c => (clauseL L c).2) (fun _ => none)) l[k]).1 = true := (lens_all hL hs l[k]).2 (by rw [← atomsL_next (by omega)]; exact hr.1 g3)
  refine zR 7 ?_
  refine zi 4 ?_
  refine zz (k + 1) ⟨by omega, by rw [atomsL_next (by omega)]; exact (lens_all hL hs l[k]).1 g4, by rw [fold_next (by omega), atomsL_next (by omega)]; exact hL.clause l[k], by rw [fold_next (by omega)]; exact hz.trans (right_ok (by omega) (by unfold badC; rw [if_neg (by rw [g1]; decide), if_neg (by rw [g2]; decide), if_neg (by rw [g4]; decide)]))⟩ (by omega)
 intro g3
 (try simp only [dcs, ne_eq] at g3)
 have g4 : (clauseL ((l.take k).foldl (fun L c => (clauseL L c).2) (fun _ => none)) l[k]).1 = false := Bool.eq_false_iff.2 (fun e => absurd (g3.symm.trans (hr.2 (by rw [atomsL_next (by omega)]; exact (lens_all hL hs l[k]).1 e))) (by decide))
 refine zT 6 rfl ⟨by unfold rightC; rw [if_neg (by omega), hz, right_bad (by omega) (by rw [show badC ((l.take k).foldl (fun L c => (clauseL L c).2) (fun _ => none)) l[k] = 9 by unfold badC; rw [if_neg (by rw [g1]; decide), if_neg (by rw [g2]; decide), if_pos g4]]; decide), show badC ((l.take k).foldl (fun L c => (clauseL L c).2) (fun _ => none)) l[k] = 9 by unfold badC; rw [if_neg (by rw [g1]; decide), if_neg (by rw [g2]; decide), if_pos g4]], rfl, rfl⟩
end Go.Proofs.YtmomkfedcmogmaaGreat.SL
namespace Go.Proofs.YtmomkfedcmogmaaGreat.SL
open Go Md
theorem keys_next {out : List (Int × Nat)} {j : Nat} (hj : j < out.length) : keys (out.take (j + 1)) = keys (out.take j) ++ [out[j].1] := by
  unfold keys; rw [List.take_succ_eq_append_getElem hj, List.map_append]; rfl
theorem ref12Of (out : List (Int × Nat)) (A : Option Addr) (c : Nat) (p : Int) :
    Spec Tryz.prog 54 #[.slice A out.length c, .int .u32 p] [sl tLv A c out] [] (fun v Ps' Os' => v = .int .i64 (ofI out p) ∧ Ps' = [] ∧ Os' = []) := by
 refine zSp _ Tryz.func54 Tryz.ntmps54 (fun _ _ _ => ?_)
 refine zR 1 ?_
 refine go_len (xs := out) zM (fun l0 m0 => ?_)
 refine zR 9 ?_
 refine zO (X := Nat) (fun k => [(5, .int .i64 (k : Int))]) [0, 1] (fun _ => []) (fun k => k ≤ out.length ∧ ∀ x ∈ out.take k, ¬ x.1 = p) (fun k => out.length - k) 0 ⟨by omega, (fun x h => (nomatch h))⟩ ?_
 intro k ⟨hk, hz⟩
 refine zD' 8 ?_ ?_
 ·intro hq1
  refine zT 5 rfl ⟨by rw [ofI_no (by rw [List.take_of_length_le (by omega)] at hz; exact hz)], rfl, rfl⟩
 intro hq1
 refine zR 4 ?_
 refine go_elem_Lv (R := out) zM k (List.getElem?_eq_getElem (by omega)) (fun b0 o0 hA0 => ?_); cases hA0
 refine zI 3 ?_
 refine zL 1 ?_
 refine zD' 3 ?_ ?_
 ·intro g1
  refine zR 7 ?_
  refine zi 5 ?_
  refine zz (k + 1) (⟨by omega, mem_take_next (by omega) hz g1⟩) (by omega)
 intro g1
 refine zI 4 ?_
 refine zL 1 ?_
 refine zE 2 [4] ?_
 refine zT 0 rfl ⟨by rw [ofI_at (by omega) hz g1], rfl, rfl⟩
set_option maxHeartbeats 8000000 in
theorem ref12preds (l : List Cl) (LA : Option Addr) (lc : Nat) (hl : l.length ≤ 400) (hb : ∀ c ∈ l, c.b.length ≤ 8) :
    Spec Tryz.prog 76 #[.slice LA l.length lc] [sl tCl LA lc l] [] (fun v Ps' Os' => ∃ A c out, PI (predL l) out ∧ v = .slice A out.length c ∧ Ps' = [] ∧ Os' = [ol tLv 108 A c (out)]) := by
 refine zSp _ Tryz.func76 Tryz.ntmps76 (fun _ _ _ => ?_)
 refine zR 1 ?_
 have hpl := predL_len hb
 refine go_len (xs := l) zM (fun l0 m0 => ?_)
 refine zR 9 ?_
 refine go_own_nil tLv 108 none ?_
 refine zR 4 ?_
 refine zO (X := Nat × Option Addr × Nat × List (Int × Nat)) (fun x => [(3, .slice x.2.1 x.2.2.2.length x.2.2.1), (4, .int .i64 (x.1 : Int))]) [0] (fun x => [ol tLv 108 x.2.1 x.2.2.1 (x.2.2.2)]) (fun x => x.1 ≤ l.length ∧ PI (predL (l.take (x.1))) x.2.2.2) (fun x => l.length - x.1) (0, none, 0, []) ⟨Nat.zero_le _, PI.start⟩ ?_
 intro ⟨i, A1, c1, out⟩ ⟨hi, hI⟩
 simp only at hi hI ⊢
 have hpk := predL_len (l := l.take i) (fun c hc => hb c (List.mem_of_mem_take hc))
 rw [List.length_take] at hpk
 refine zD' 8 ?_ ?_
 ·intro hq1
  refine zR 2 ?_
  rw [List.take_of_length_le (show l.length ≤ i by omega)] at hI
  refine zT 4 rfl ⟨A1, c1, out, hI, rfl, rfl, rfl⟩
 intro hq1
 refine zR 4 ?_
 refine go_elem_cl (xs := l) zM (i) (List.getElem?_eq_getElem (by omega)) (fun b0 o0 A0 c0 B0 d0 hA => ?_); cases hA
 have hbk := hb l[i] (List.getElem_mem _)
 have hacl := atomsC_len l[i]
 refine zI 3 ?_
 refine zL 0 ?_
 refine zC 0 (ref11Atoms l[i] A0 c0 B0 d0 (by omega)) ?_
 rintro _ _ _ ⟨A4, k4, rfl, rfl, rfl⟩
 refine go_len (xs := (atomsC l[i])) zM (fun l4 m4 => ?_)
 refine zR 7 ?_
 refine zO (X := Nat × Option Addr × Nat × List (Int × Nat)) (fun x => [(3, .slice x.2.1 x.2.2.2.length x.2.2.1), (6, .int .i64 (x.1 : Int))]) [0, 4, 5] (fun x => [ol tLv 108 x.2.1 x.2.2.1 (x.2.2.2)]) (fun x => x.1 ≤ (atomsC l[i]).length ∧ PI (predL (l.take i) ++ ((atomsC l[i]).take (x.1)).map (·.p)) x.2.2.2) (fun x => (atomsC l[i]).length - x.1) (0, A1, c1, out) ⟨Nat.zero_le _, by simpa using hI⟩ ?_
 intro ⟨k, A2, c2, out2⟩ ⟨hk, hI2⟩
 simp only at hk hI2 ⊢
 have hol := hI2.len
 rw [List.length_append, List.length_map, List.length_take] at hol
 refine go_len_ol (xs := out2) zM (fun l2 m2 => ?_)
 refine zD' 8 ?_ ?_
 ·intro g0
  refine zR 7 ?_
  refine go_i64n 4 (i + 1) rfl ?_
  rw [List.take_of_length_le (show (atomsC l[i]).length ≤ k by omega)] at hI2
  have hI3 : PI (predL (l.take (i + 1))) out2 := by rw [predL_next (by omega)]; simpa [atomsC, Function.comp_def] using hI2
  refine zz (i + 1, A2, c2, out2) (⟨by show i + 1 ≤ _; omega, hI3⟩) (by show _ - (i + 1) < _ - i; omega)
 intro g0
 have hpnext : predL (l.take i) ++ ((atomsC l[i]).take (k + 1)).map (·.p) = (predL (l.take i) ++ ((atomsC l[i]).take (k)).map (·.p)) ++ [(atomsC l[i])[k].p] := by rw [List.take_succ_eq_append_getElem (by omega), List.map_append, List.append_assoc]; rfl
 refine go_elem_am (xs := (atomsC l[i])) (c := k4) zM k (List.getElem?_eq_getElem (by omega)) (fun b2 o2 A5 c5 hA => ?_); cases hA
 refine zR 19 ?_
 refine zO (X := Nat × Bool) (fun x => [(8, .bool x.2), (9, .int .i64 (x.1 : Int))]) [0, 3, 4, 5, 6, 7] (fun _ => []) (fun x => x.1 ≤ out2.length ∧ (x.2 = true ↔ (atomsC l[i])[k].p ∈ keys (out2.take x.1))) (fun x => out2.length - x.1) (0, false) ⟨Nat.zero_le _, by simp [keys]⟩ ?_
 intro ⟨j, is⟩ ⟨hj, his⟩
 simp only at hj his ⊢
 refine zD 8 ?_ ?_
 ·intro hq2
  refine zR 3 ?_
  refine go_ol_addr (xs := out2) zM (by omega) (fun b8 hA8 => ?_); cases hA8
  refine go_draw ([cl b2 (o2 + k * 2) [.int .u32 (atomsC l[i])[k].p, .slice A5 (atomsC l[i])[k].a.length c5]]) ([ol tLv 108 (some ⟨b8, 0, none⟩) c2 (out2)]) [6, 11] (SL.pre [(1, 0), (1, 1), (1, 2), (1, 3), (1, 4), (1, 5), (1, 7), (1, 8), (1, 9), (1, 10), (2, 6), (2, 11), (1, 12), (1, 13), (1, 14)] .nil) mixed rfl (by kernel_rfl) ?_
  refine zG 2 36 ?_ ?_
  ·intro g1
   (try simp only [dcs, ne_eq] at g1)
   refine zJ 8 ?_
   refine zJ 0 ?_
   refine zR 10 ?_
   refine go_i64n 9 (j + 1) rfl ?_
   refine zz (j + 1, true) (⟨by show j + 1 ≤ _; omega, by rw [keys_next (by omega), List.mem_append]; exact ⟨fun _ => .inl (his.1 g1), fun _ => rfl⟩⟩) (by show _ - (j + 1) < _ - j; omega)
  intro g1
  (try simp only [dcs, ne_eq] at g1)
  refine zI 2 ?_
  refine zI 3 ?_
  refine zR 1 ?_
  refine go_val2a rfl (load_val (cs := [.int .u32 out2[j].1]) Tk rfl rfl rfl (at_ol fcLv tLv_fc 0 (xs := out2) (j := j) zM (List.getElem?_eq_getElem (by omega)) rfl) rfl) rfl ?_
  refine zK 0 ?_
  refine zR 10 ?_
  refine go_i64n 9 (j + 1) rfl ?_
  refine zz (j + 1, decide (out2[j].1 = (atomsC l[i])[k].p)) (⟨by show j + 1 ≤ _; omega, by rw [keys_next (by omega), List.mem_append, List.mem_singleton, decide_eq_true_eq]; exact ⟨fun h => .inr h.symm, fun h => h.elim (fun q => by rw [his.2 q] at g1; cases g1) Eq.symm⟩⟩) (by show _ - (j + 1) < _ - j; omega)
 intro hq2
 refine zB 6 ?_ ?_
 ·intro g2
  (try simp only [dcs, ne_eq] at g2)
  rw [List.take_of_length_le (show out2.length ≤ j by omega)] at his
  refine zR 6 ?_
  refine go_i64n 6 (k + 1) rfl ?_
  refine zz (k + 1, A2, c2, out2) (⟨by show k + 1 ≤ _; omega, by rw [hpnext]; exact hI2.is (his.1 g2)⟩) (by show _ - (k + 1) < _ - k; omega)
 intro g2
 (try simp only [dcs, ne_eq] at g2)
 refine zq 4 ?_
 refine zV 0 ?_
 intro b1
 refine go_append1 (T := tLv) (xs := out2) Tk (((0, 0) : Int × Nat)) rfl rfl rfl rfl rfl rfl rfl rfl rfl zM zM rfl ent_Lv (by omega) zH ?_
 intro A3 c3
 refine go_ol_addr (xs := out2 ++ [(0, 0)]) zM (by simp) (fun b9 hA9 => ?_); cases hA9
 refine go_same (B := ol tLv 108 (some ⟨b9, 0, none⟩) c3 (out2.take out2.length ++ (0, 0) :: out2.drop out2.length)) .here (by rw [List.take_length, List.drop_length]) ?_
 have hlen3 : (out2 ++ [((0, 0) : Int × Nat)]).length = out2.length + 1 := by simp
 refine zR 4 ?_
 refine zO (X := Nat × (Int × Nat)) (fun x => [(7, .int .i64 (x.1 : Int))]) [0, 3, 4, 5, 6] (fun x => [ol tLv 108 (some ⟨b9, 0, none⟩) c3 (out2.take x.1 ++ x.2 :: out2.drop x.1)]) (fun x => x.1 ≤ out2.length) (fun x => x.1) (out2.length, (0, 0)) (Nat.le_refl _) ?_
 intro ⟨m, y⟩ hm
 simp only at hm ⊢
 have hml := mid_len (w := y) hm
 refine zR 2 ?_
 refine go_draw ([cl b2 (o2 + k * 2) [.int .u32 (atomsC l[i])[k].p, .slice A5 (atomsC l[i])[k].a.length c5]]) ([ol tLv 108 (some ⟨b9, 0, none⟩) c3 (out2.take m ++ y :: out2.drop m)]) [8, 13] (SL.pre [(1, 0), (1, 1), (1, 2), (1, 3), (1, 4), (1, 5), (1, 6), (1, 7), (1, 9), (1, 10), (1, 11), (1, 12), (2, 8), (2, 13), (1, 14), (1, 15)] .nil) mixed rfl (by kernel_rfl) ?_
 refine zG' 3 56 ?_ ?_
 ·intro g3
  (try simp only [dcs, ne_eq] at g3)
  refine zJ 9 ?_
  refine zJ 0 ?_
  refine zDf 3 ?_
  refine zI 6 ?_
  refine zL 1 ?_
  refine zq 0 ?_
  refine zI 0 ?_
  refine zSE 0 tLv (out2.take m ++ y :: out2.drop m) m ((atomsC l[i])[k].p, 0) ent_Lv ?_
  refine go_same (B := ol tLv 108 (some ⟨b9, 0, none⟩) c3 (out2.take m ++ ((atomsC l[i])[k].p, 0) :: out2.drop m)) .here (by rw [set_mid hm]) ?_
  refine zE 1 [0, 3, 4, 5, 6, 57, 58, 59, 60, 61, 62, 63, 64, 65, 66, 67, 68] ?_
  refine zR 6 ?_
  refine go_i64n 6 (k + 1) rfl ?_
  refine go_re 3 (.slice (some ⟨b9, 0, none⟩) (out2.take m ++ ((atomsC l[i])[k].p, 0) :: out2.drop m).length c3) (by rw [mid_len hm, ← hlen3]; rfl) ?_
  refine go_back (k + 1, some ⟨b9, 0, none⟩, c3, _) zA zM zM (⟨by show k + 1 ≤ _; omega, by rw [hpnext]; exact hI2.put _ m⟩) (by show _ - (k + 1) < _ - k; omega)
 intro g3
 (try simp only [dcs, ne_eq] at g3)
 refine zR 3 ?_
 refine zi 59 ?_
 refine go_re 59 (.int .i64 ((m - 1 : Nat) : Int)) (congrArg (fun z : Int => some (Value.int IntKind.i64 z)) (show (m : Int) - 1 = ((m - 1 : Nat) : Int) by omega)) ?_
 refine zI 0 ?_
 refine zI 3 ?_
 refine zR 1 ?_
 refine go_val2a rfl (load_val (cs := [.int .u32 out2[m - 1].1]) Tk rfl rfl rfl (at_ol fcLv tLv_fc 0 (xs := out2.take m ++ y :: out2.drop m) (j := (m - 1)) zM (mid_get hm (by omega)) rfl) rfl) rfl ?_
 refine zK 0 ?_
 refine zB' 3 ?_ ?_
 ·intro g4
  (try simp only [dcs, ne_eq] at g4)
  refine zI 6 ?_
  refine zL 1 ?_
  refine zq 0 ?_
  refine zI 0 ?_
  refine zSE 0 tLv (out2.take m ++ y :: out2.drop m) m ((atomsC l[i])[k].p, 0) ent_Lv ?_
  refine go_same (B := ol tLv 108 (some ⟨b9, 0, none⟩) c3 (out2.take m ++ ((atomsC l[i])[k].p, 0) :: out2.drop m)) .here (by rw [set_mid hm]) ?_
  refine zE 1 [0, 3, 4, 5, 6, 57, 58, 59, 60, 61, 62, 63, 64, 65, 66, 67, 68] ?_
  refine zR 6 ?_
  refine go_i64n 6 (k + 1) rfl ?_
  refine go_re 3 (.slice (some ⟨b9, 0, none⟩) (out2.take m ++ ((atomsC l[i])[k].p, 0) :: out2.drop m).length c3) (by rw [mid_len hm, ← hlen3]; rfl) ?_
  refine go_back (k + 1, some ⟨b9, 0, none⟩, c3, _) zA zM zM (⟨by show k + 1 ≤ _; omega, by rw [hpnext]; exact hI2.put _ m⟩) (by show _ - (k + 1) < _ - k; omega)
 intro g4
 (try simp only [dcs, ne_eq] at g4)
 refine zR 3 ?_
 have hm0 : 0 < m := by omega
 refine zR 6 ?_
 refine zi 74 ?_
 refine go_re 74 (.int .i64 ((m - 1 : Nat) : Int)) (congrArg (fun z : Int => some (Value.int IntKind.i64 z)) (show (m : Int) - 1 = ((m - 1 : Nat) : Int) by omega)) ?_
 refine zI 0 ?_
 refine go_val0 rfl (load_val (cs := fcLv out2[m - 1]) Tk rfl rfl rfl (at_ol fcLv tLv_fc 0 (xs := out2.take m ++ y :: out2.drop m) (j := (m - 1)) zM (mid_get hm (by omega)) rfl) rfl) rfl ?_
 refine zI 0 ?_
 refine go_store_el (T := tLv) (xs := out2.take m ++ y :: out2.drop m) (j := m) Tk out2[m - 1] rfl rfl rfl rfl rfl rfl zM (by omega) rfl rfl ent_Lv zQ ?_
 refine zE 1 [0, 3, 4, 5, 6, 7, 57, 58, 59, 60, 61, 62, 63, 64, 65, 66, 67, 68] ?_
 refine zR 6 ?_
 refine zi 7 ?_
 refine go_re 7 (.int .i64 ((m - 1 : Nat) : Int)) (congrArg (fun z : Int => some (Value.int IntKind.i64 z)) (show (m : Int) - 1 = ((m - 1 : Nat) : Int) by omega)) ?_
 refine go_same (B := ol tLv 108 (some ⟨b9, 0, none⟩) c3 (out2.take (m - 1) ++ out2[m - 1] :: out2.drop (m - 1))) .here (by rw [set_mid hm, mid_back (by omega) (by omega)]) ?_
 refine zz (m - 1, out2[m - 1]) (by show m - 1 ≤ _; omega) (by show m - 1 < m; omega)
set_option maxHeartbeats 8000000 in
theorem ref12Levels (l : List Cl) (LA : Option Addr) (lc : Nat) (hb0 : ∀ x ∈ l, x.b.length ≤ 1000) :
    Spec Tryz.prog 53 #[.slice LA l.length lc] [sl tCl LA lc l] [] (fun v Ps' Os' => ∃ A c out e, LvQ l out e ∧ v = .tuple #[.slice A out.length c, .int .i64 e] ∧ Ps' = [sl tLv A c out] ∧ Os' = []) := by
 refine zSp _ Tryz.func53 Tryz.ntmps53 (fun _ _ _ => ?_)
 refine zR 1 ?_
 refine go_len (xs := l) zM (fun l0 m0 => ?_)
 refine zC3 7 (ref11Right LA lc l hb0) ?_
 refine zN 12 ?_ ?_
 ·intro g1
  refine go_sl_nil tLv ?_
  refine zT 6 rfl ⟨none, 0, [], _, .bad g1, rfl, rfl, rfl⟩
 intro g1
 have hri := rightC_iff.1 g1
 have hl := hri.1
 have hb : ∀ c ∈ l, c.b.length ≤ 8 := fun c hc => may_body (hri.2.1 c hc).1
 have hpl := predL_len hb
 refine zC 4 (ref12preds l LA lc hl hb) ?_
 rintro _ _ _ ⟨OA, oc, ini, hP, rfl, rfl, rfl⟩
 obtain ⟨ks, hks⟩ : ∃ ks, keys ini = ks := ⟨_, rfl⟩
 have hpr : Preds ks l := fun p => by rw [← hks, hP.mem p]; unfold predL; rw [List.mem_map]
 have hRI0 : RI l ks ini := hks ▸ RI.start hP
 have hkl : ks.length ≤ 3600 := by rw [← hRI0.len]; have := hP.len; omega
 have hin := hRI0.len
 refine zE 2 [0, 6] ?_
 refine zR 1 ?_
 refine zO (X := List (Int × Nat)) (fun _ => []) [0, 6] (fun x => [ol tLv 108 OA oc (x)]) (fun x => RI l ks x) (fun x => ks.length * ks.length - sumL x) ini hRI0 ?_
 intro out0 hR0
 refine zR 11 ?_
 refine zO (X := Nat × Bool × List (Int × Nat)) (fun x => [(7, .bool x.2.1), (8, .int .i64 (x.1 : Int))]) [0, 6] (fun x => [ol tLv 108 OA oc (x.2.2)]) (fun x => x.1 ≤ l.length ∧ RI l ks x.2.2 ∧ RT out0 x.2.2 x.2.1 (edP (l.take x.1))) (fun x => l.length - x.1) (0, false, out0) ⟨Nat.zero_le _, hR0, RT.start _⟩ ?_
 intro ⟨i, tu, out⟩ ⟨hi, hR, hT⟩
 simp only at hi hR hT ⊢
 refine zD' 8 ?_ ?_
 ·intro hq1
  refine zB' 6 ?_ ?_
  ·intro g9
   (try simp only [dcs, ne_eq] at g9)
   have htu : tu = true := by simpa using g9
   subst htu
   refine zR 2 ?_
   refine zz (out) (hR) (by have h1 := hT.more g9; have h2 := hR.sum; show ks.length * ks.length - sumL out < ks.length * ks.length - sumL out0; omega)
  intro g9
  (try simp only [dcs, ne_eq] at g9)
  rw [show i = l.length by omega, List.take_length] at hT
  have htu : tu = false := by simpa using g9
  subst htu
  obtain rfl : out = out0 := (hT.same rfl).1
  refine go_re 6 (.slice OA out.length oc) (by rw [hR.len, ← hin]; rfl) ?_
  refine go_freeze_ol (xs := out) zM ?_
  refine zT 6 rfl ⟨OA, oc, out, 0, LvQ.done g1 hpr hR hT (by omega), rfl, rfl, rfl⟩
 intro hq1
 refine zR 4 ?_
 refine go_elem_cl (xs := l) zM (i) (List.getElem?_eq_getElem (by omega)) (fun b0 o0 A0 c0 B0 d0 hA => ?_); cases hA
 have hbk := hb l[i] (List.getElem_mem _)
 have hbk9 : l[i].b.length ≤ 8 := hbk
 refine go_len (xs := l[i].b) zM (fun l1 m1 => ?_)
 refine zR 4 ?_
 refine zO (X := Nat × Bool × List (Int × Nat)) (fun x => [(7, .bool x.2.1), (9, .int .i64 (x.1 : Int))]) [0, 6, 8] (fun x => [ol tLv 108 OA oc (x.2.2)]) (fun x => x.1 ≤ l[i].b.length ∧ RI l ks x.2.2 ∧ RT out0 x.2.2 x.2.1 (edP (l.take i) ++ edC l[i] x.1)) (fun x => l[i].b.length - x.1) (0, tu, out) ⟨Nat.zero_le _, hR, hT.cong (by simp [edC])⟩ ?_
 intro ⟨k, tu1, out1⟩ ⟨hk, hR1, hT1⟩
 simp only at hk hR1 hT1 ⊢
 refine zI 6 ?_
 refine zL 1 ?_
 refine zD' 3 ?_ ?_
 ·intro hq2
  refine zR 7 ?_
  refine go_i64n 8 (i + 1) rfl ?_
  refine zz (i + 1, tu1, out1) (⟨by show i + 1 ≤ _; omega, hR1, hT1.cong (by rw [edP_next (by omega), show k = l[i].b.length by omega])⟩) (by show _ - (i + 1) < _ - i; omega)
 intro hq2
 refine zR 4 ?_
 refine go_elem_li (xs := l[i].b) zM (k) (List.getElem?_eq_getElem (by omega)) (fun b1 o1 A1 c1 hA => ?_); cases hA
 have hxk : l[i].b[k].a.p ∈ ks := hpr.body (List.getElem_mem _) (List.getElem_mem _)
 have hofi : ofI out1 l[i].b[k].a.p = (lvl out1 l[i].b[k].a.p : Int) := ofI_mem (by rw [hR1.eq]; exact hxk)
 have hlb : lvl out1 l[i].b[k].a.p ≤ 3600 := lvl_le (fun x hx => by have := hR1.lt x hx; omega) _
 have hwant := hR1.want (List.getElem_mem (show i < l.length by omega)) (List.getElem_mem (show k < l[i].b.length by omega)) hxk
 have hOf := (ref12Of out1 OA oc l[i].b[k].a.p).ownl (e := 108)
 rw [hR1.len, ← hin, hofi] at hOf
 refine zI 4 ?_
 refine zL 1 ?_
 refine zI 1 ?_
 refine zL 2 ?_
 refine zC3 0 hOf ?_
 refine zE 2 [0, 6, 7, 8, 9, 10] ?_
 refine zI 5 ?_
 refine zL 1 ?_
 refine zI 1 ?_
 refine zL 1 ?_
 refine zR 1 ?_
 refine zU (X := Nat) (fun y => [(10, .int .i64 (y : Int))]) [0, 6, 7, 8, 9] (fun _ => []) ([]) (fun y => y = lvl out1 l[i].b[k].a.p + l[i].b[k].no.toNat) ?_ ?_
 ·skip
  refine zB' 0 ?_ ?_
  ·intro g5
   refine zR 1 ?_
   refine zz (lvl out1 l[i].b[k].a.p) (by rw [g5]; rfl) (by decide)
  intro g5
  refine zR 3 ?_
  refine go_i64n 60 (lvl out1 l[i].b[k].a.p + 1) rfl ?_
  refine zR 2 ?_
  refine zz (lvl out1 l[i].b[k].a.p + 1) (by rw [g5]; rfl) (by decide)
 intro w hw
 refine zR 4 ?_
 rw [← hw] at hwant
 have hno := toNat_le1 l[i].b[k].no
 have hJ0 := hT1.enter (l[i].h.p, l[i].b[k].a.p, l[i].b[k].no)
 rw [show lvl out1 (l[i].h.p, l[i].b[k].a.p, l[i].b[k].no).2.1 + (l[i].h.p, l[i].b[k].a.p, l[i].b[k].no).2.2.toNat = w from hw.symm] at hJ0
 refine zR 1 ?_
 refine zO (X := Nat × Bool × List (Int × Nat)) (fun x => [(7, .bool x.2.1), (11, .int .i64 (x.1 : Int))]) [0, 6, 8, 9, 10] (fun x => [ol tLv 108 OA oc (x.2.2)]) (fun x => x.1 ≤ ks.length ∧ RI l ks x.2.2 ∧ RJ out0 x.2.2 x.2.1 (edP (l.take i) ++ edC l[i] k) (l[i].h.p, l[i].b[k].a.p, l[i].b[k].no) w x.1) (fun x => ks.length - x.1) (0, tu1, out1) ⟨Nat.zero_le _, hR1, hJ0⟩ ?_
 intro ⟨j, tu2, out2⟩ ⟨hj, hR2, hJ2⟩
 simp only at hj hR2 hJ2 ⊢
 have hl2 := hR2.len
 have hl0 := hR0.len
 refine zD' 8 ?_ ?_
 ·intro hq3
  refine zR 7 ?_
  refine go_i64n 9 (k + 1) rfl ?_
  refine zz (k + 1, tu2, out2) (⟨by show k + 1 ≤ _; omega, hR2, (hJ2.leave (by omega)).cong (by rw [edC_next (by omega), List.append_assoc])⟩) (by show _ - (k + 1) < _ - k; omega)
 intro hq3
 refine zR 4 ?_
 refine go_ol_addr (xs := out2) zM (by omega) (fun b8 hA8 => ?_); subst hA8
 refine go_draw ([cl b0 (o0 + i * 3) [.int .u32 l[i].h.p, .slice A0 l[i].h.a.length c0, .slice (some ⟨b1, o1, none⟩) l[i].b.length d0]]) ([ol tLv 108 (some ⟨b8, 0, none⟩) oc (out2)]) [4, 10, 17] (SL.pre [(1, 0), (1, 1), (1, 2), (1, 3), (1, 5), (1, 6), (1, 7), (1, 8), (1, 9), (2, 4), (2, 10), (1, 11), (1, 12), (1, 13), (1, 14), (1, 15), (1, 16), (1, 18), (2, 17), (1, 19), (1, 20)] .nil) mixed rfl (by kernel_rfl) ?_
 refine zI 2 ?_
 refine zI 3 ?_
 refine zR 2 ?_
 refine go_val2a rfl (load_val (cs := [.int .u32 out2[j].1]) Tk rfl rfl rfl (at_ol fcLv tLv_fc 0 (xs := out2) (j := j) zM (List.getElem?_eq_getElem (by omega)) rfl) rfl) rfl ?_
 refine zK 0 ?_
 refine zG' 2 79 ?_ ?_
 ·intro g6
  (try simp only [dcs, ne_eq] at g6)
  refine zJ 5 ?_
  refine zE 3 [0, 6, 7, 8, 9, 10, 11, 80, 81, 82, 83, 84, 85, 86, 87] ?_
  refine zDf 0 ?_
  refine zR 7 ?_
  refine go_i64n 11 (j + 1) rfl ?_
  refine zz (j + 1, tu2, out2) (⟨by show j + 1 ≤ _; omega, hR2, hJ2.skip (by omega) (fun q => by first | exact g6 q.1 | omega)⟩) (by show _ - (j + 1) < _ - j; omega)
 intro g6
 (try simp only [dcs, ne_eq] at g6)
 refine zI 2 ?_
 refine zR 2 ?_
 refine go_val2a rfl (load_val (cs := [.int .i64 (out2[j].2 : Int)]) Tk rfl rfl rfl (at_ol fcLv tLv_fc 1 (xs := out2) (j := j) zM (List.getElem?_eq_getElem (by omega)) rfl) rfl) rfl ?_
 refine zE 3 [0, 6, 7, 8, 9, 10, 11, 80, 81, 82, 83, 84, 85, 86, 87] ?_
 refine zB' 0 ?_ ?_
 ·intro g7
  (try simp only [dcs, ne_eq] at g7)
  refine zR 7 ?_
  refine go_i64n 11 (j + 1) rfl ?_
  refine zz (j + 1, tu2, out2) (⟨by show j + 1 ≤ _; omega, hR2, hJ2.skip (by omega) (fun q => by first | exact g6 q.1 | omega)⟩) (by show _ - (j + 1) < _ - j; omega)
 intro g7
 (try simp only [dcs, ne_eq] at g7)
 refine zI 5 ?_
 refine zR 1 ?_
 refine go_store_fd (T := tLv) (xs := out2) (j := j) (x0 := out2[j]) Tk 1 (out2[j].1, w) rfl rfl rfl rfl rfl rfl zM (List.getElem?_eq_getElem (by omega)) rfl rfl (show 2 ≤ 2 from Nat.le_refl 2) Lv_fd1 zQ ?_
 refine zR 6 ?_
 refine go_len_ol (xs := out2.set j (out2[j].1, w)) zM (fun l9 m9 => ?_)
 rw [List.length_set] at l9
 refine zD 6 ?_ ?_
 ·intro g8
  refine go_sl_nil tLv ?_
  refine zE 5 [2, 3] ?_
  refine zT 0 rfl ⟨none, 0, [], 11, .round g1 (want_none hpr (List.getElem_mem _) hwant (by omega)), rfl, rfl, rfl⟩
 intro g8
 refine zR 7 ?_
 refine go_i64n 11 (j + 1) rfl ?_
 refine zz (j + 1, true, out2.set j (out2[j].1, w)) (⟨by show j + 1 ≤ _; omega, hR2.put (by omega) g6 hwant (by omega), hJ2.put (by omega) (by omega) _⟩) (by show _ - (j + 1) < _ - j; omega)
theorem max_top (a b : Nat) : (if ((a : Int) - 1) < (b : Int) then (b : Int) else ((a : Int) - 1)) = ((max a (b + 1) : Nat) : Int) - 1 := by split <;> omega
set_option maxHeartbeats 8000000 in
theorem ref12Strata (l : List Cl) (LA : Option Addr) (lc : Nat) (hb0 : ∀ x ∈ l, x.b.length ≤ 1000) :
    Spec Tryz.prog 33 #[.slice LA l.length lc] [sl tCl LA lc l] [] (fun v Ps' Os' => ∃ A c ss e, StrR l ss e ∧ v = .tuple #[.slice A ss.length c, .int .i64 e] ∧ Ps' = [sl (tSl (tInt .i64)) A c (ss.map cs)] ∧ Os' = []) := by
 refine zSp _ Tryz.func33 Tryz.ntmps33 (fun _ _ _ => ?_)
 refine zR 1 ?_
 refine go_len (xs := l) zM (fun l0 m0 => ?_)
 refine zC 7 (ref12Levels l LA lc hb0) ?_
 rintro _ _ _ ⟨VA, vc, out, e, hL, rfl, rfl, rfl⟩
 refine go_len (xs := out) zM (fun l1 m1 => ?_)
 refine zN 12 ?_ ?_
 ·intro g1
  refine go_sl_nil (tSl (tInt .i64)) ?_
  refine zT 6 rfl ⟨none, 0, [], _, hL.bad_inv g1, rfl, rfl, rfl⟩
 intro g1
 obtain ⟨hr, hpr, hlv, hle, h4, hol⟩ := hL.ok_inv g1
 have hl := (rightC_iff.1 hr).1
 have htp : top (l.map fun c => lvl out c.h.p) ≤ 4001 := top_le (fun h hm => by obtain ⟨c, _, rfl⟩ := List.mem_map.1 hm; exact lvl_le h4 _)
 refine zR 11 ?_
 refine zO (X := Nat) (fun i => [(6, .int .i64 ((top ((l.take (i)).map fun c => lvl out c.h.p) : Int) - 1)), (7, .int .i64 (i : Int))]) [0, 4] (fun _ => []) (fun i => i ≤ l.length) (fun i => l.length - i) 0 (Nat.zero_le _) ?_
 intro i hi
 have htk : top ((l.take (i)).map fun c => lvl out c.h.p) ≤ 4001 := top_le (fun h hm => by obtain ⟨c, _, rfl⟩ := List.mem_map.1 hm; exact lvl_le h4 _)
 refine zD 8 ?_ ?_
 ·intro hq1
  refine zR 3 ?_
  refine go_elem_cl (xs := l) zM (i) (List.getElem?_eq_getElem (by omega)) (fun b0 o0 A0 c0 B0 d0 hA => ?_); cases hA
  have hOf := ref12Of out VA vc l[i].h.p
  rw [ofI_mem (hpr.head (List.getElem_mem _))] at hOf
  obtain ⟨kk, hkk⟩ : ∃ kk, lvl out l[i].h.p = kk := ⟨_, rfl⟩
  have hkb : kk ≤ 4000 := by rw [← hkk]; exact lvl_le h4 _
  rw [hkk] at hOf
  have hnx : ((l.take (i + 1)).map fun c => lvl out c.h.p) = ((l.take (i)).map fun c => lvl out c.h.p) ++ [kk] := by rw [List.take_succ_eq_append_getElem (show i < l.length by omega), List.map_append, ← hkk]; rfl
  refine zI 5 ?_
  refine zL 2 ?_
  refine zC3 0 hOf ?_
  refine go_val0 rfl (max_val rfl rfl rfl) rfl ?_
  refine zR 1 ?_
  refine go_re 6 (.int .i64 ((top ((l.take (i + 1)).map fun c => lvl out c.h.p) : Int) - 1)) (by show some (Value.int _ (if _ then _ else _)) = _; rw [hnx, top_snoc]; exact congrArg (fun z : Int => some (Value.int IntKind.i64 z)) (max_top _ _)) ?_
  refine zE 1 [0, 4, 6, 7] ?_
  refine zR 6 ?_
  refine go_i64n 7 (i + 1) rfl ?_
  refine zz (i + 1) (by show i + 1 ≤ _; omega) (by show _ - (i + 1) < _ - i; omega)
 intro hq1
 refine zR 2 ?_
 rw [show ((l.take (i)).map fun c => lvl out c.h.p) = (l.map fun c => lvl out c.h.p) by rw [List.take_of_length_le (by omega)]]
 refine zR 3 ?_
 refine go_i64n 36 (top (l.map fun c => lvl out c.h.p)) (by show some (Value.int _ (IntKind.i64.wrap _)) = _; rw [Int.sub_add_cancel]) ?_
 refine go_make (tRw Int) ⟨none, 0, []⟩ (top (l.map fun c => lvl out c.h.p)) Tk rfl rfl rfl rfl rfl rfl rfl rfl rfl (fun _ => rfl) (by omega) zH ?_
 intro bY
 refine go_inn_reps (tInt .i64) 3 (top (l.map fun c => lvl out c.h.p)) ?_
 refine zR 8 ?_
 refine go_loop' (X := Nat × List (Rw Int)) (fun x => [(9, .int .i64 (x.1 : Int))]) [(0, _), (4, _), (8, _)] (fun x => [ol (tRw Int) 36 (some ⟨bY, 0, none⟩) (top (l.map fun c => lvl out c.h.p)) (x.2), inn (tInt .i64) 3 (x.2)]) (fun x => x.1 ≤ l.length ∧ x.2.length = top (l.map fun c => lvl out c.h.p) ∧ ∀ v, rowG x.2 v = cs (strI ((l.take (x.1)).map fun c => lvl out c.h.p) v)) (fun x => l.length - x.1) ((0, _)) zA zM ⟨Nat.zero_le _, List.length_replicate .., fun v => by rw [rowG, List.getElem?_replicate]; split <;> rfl⟩ ?_
 intro ⟨i, R⟩ ⟨hi, hRl, hRr⟩
 simp only at hi hRl hRr ⊢
 refine zD' 8 ?_ ?_
 ·intro hq2
  refine zR 2 ?_
  rw [List.take_of_length_le (show l.length ≤ i by omega)] at hRr
  refine go_freeze_oo (T := tInt .i64) (R := R) zM ?_
  rw [StI.rows ⟨hRl, hRr⟩]
  refine go_re 8 (.slice (some ⟨bY, 0, none⟩) (strata (l.map fun c => lvl out c.h.p)).length (top (l.map fun c => lvl out c.h.p))) (by rw [show (strata (l.map fun c => lvl out c.h.p)).length = top (l.map fun c => lvl out c.h.p) by simp [strata]]; rfl) ?_
  refine zT 5 rfl ⟨some ⟨bY, 0, none⟩, top (l.map fun c => lvl out c.h.p), _, 0, .ok (lvl out) hr hlv (fun lw h c hc => hle lw h _ (lvl_mem (hpr.head hc))) (fun p => lvl_le h4 p), rfl, rfl, rfl⟩
 intro hq2
 refine zR 4 ?_
 refine go_elem_cl (xs := l) zM (i) (List.getElem?_eq_getElem (by omega)) (fun b0 o0 A0 c0 B0 d0 hA => ?_); cases hA
 have hOf := ref12Of out VA vc l[i].h.p
 rw [ofI_mem (hpr.head (List.getElem_mem _))] at hOf
 obtain ⟨kk, hkk⟩ : ∃ kk, lvl out l[i].h.p = kk := ⟨_, rfl⟩
 have hkb : kk ≤ 4000 := by rw [← hkk]; exact lvl_le h4 _
 rw [hkk] at hOf
 have hnx : ((l.take (i + 1)).map fun c => lvl out c.h.p) = ((l.take (i)).map fun c => lvl out c.h.p) ++ [kk] := by rw [List.take_succ_eq_append_getElem (show i < l.length by omega), List.map_append, ← hkk]; rfl
 have hHl : ((l.take (i)).map fun c => lvl out c.h.p).length = i := by rw [List.length_map, List.length_take]; omega
 have hkt : kk < top (l.map fun c => lvl out c.h.p) := lt_top (List.mem_map.2 ⟨l[i], List.getElem_mem _, hkk⟩)
 refine zI 4 ?_
 refine zL 2 ?_
 refine zC3 0 hOf ?_
 refine zE 2 [0, 4, 8, 9, 10] ?_
 obtain ⟨⟨yA, yc, yl⟩, hy⟩ : ∃ y, R[kk]? = some y := ⟨_, List.getElem?_eq_getElem (by omega)⟩
 have hly : rowG R kk = yl := rowG_at hy
 have hyl : yl.length ≤ i := by rw [← hly, hRr kk, cs_len]; have := strI_len ((l.take (i)).map fun c => lvl out c.h.p) kk; rwa [hHl] at this
 refine go_inn_out kk hy zM ?_
 refine zI 5 ?_
 refine go_val0 rfl (load_val (cs := fcRw ⟨yA, yc, yl⟩) Tk rfl rfl rfl (at_ol fcRw tRw_fc 0 (xs := R) (j := kk) zM hy rfl) rfl) rfl ?_
 refine zV 1 ?_
 intro b1
 refine go_append1 (T := tInt .i64) (xs := yl) Tk ((i : Int)) rfl rfl rfl rfl rfl rfl rfl rfl rfl zM zM rfl ent_int (by omega) zH ?_
 intro A4 c4
 refine zI 0 ?_
 refine zSE 0 (tRw Int) R kk (⟨A4, c4, yl ++ [(i : Int)]⟩ : Rw Int) ent_Rw ?_
 refine go_inn_in (R := R) ⟨A4, c4, yl ++ [(i : Int)]⟩ kk (by omega) zM ?_
 refine zR 7 ?_
 refine go_i64n 9 (i + 1) rfl ?_
 refine zz (i + 1, R.set kk ⟨A4, c4, yl ++ [(i : Int)]⟩) (⟨by show i + 1 ≤ _; omega, by rw [List.length_set]; exact hRl, fun v => by
   rw [rowG_set _ (by omega), hnx, strI_snoc]
   by_cases e : v = kk
   · subst e; rw [if_pos rfl, if_pos rfl, cs_app, ← hRr v, hly, hHl]; rfl
   · rw [if_neg e, if_neg (fun q => e q.symm), List.append_nil]; exact hRr v⟩) (by show _ - (i + 1) < _ - i; omega)
end Go.Proofs.YtmomkfedcmogmaaGreat.SL
namespace Go.Proofs.YtmomkfedcmogmaaGreat.SL
open Md
theorem sameLen_snoc {Y : List Am} {a : Am} : sameLen (Y ++ [a]) ↔ sameLen Y ∧ ∀ b ∈ Y, b.p = a.p → b.a.length = a.a.length := by
  constructor
  · intro h
    exact ⟨sameLen_sub h fun b hb => List.mem_append_left _ hb, fun b hb e => h b (List.mem_append_left _ hb) a (List.mem_append_right _ (.head _)) e⟩
  · rintro ⟨h, g⟩ x hx y hy e
    rw [List.mem_append, List.mem_singleton] at hx hy
    rcases hx with hx | rfl <;> rcases hy with hy | rfl
    · exact h x hx y hy e
    · exact g x hx e
    · exact (g y hy e.symm).symm
    · rfl
def ArOK (X : List Am) (fs : List Fa) : Prop := (∀ f ∈ fs, f.a.length ≤ 6) ∧ sameLen (X ++ fs.map lift)
theorem ArOK.nil {X : List Am} (h : sameLen X) : ArOK X [] := ⟨(fun f h => (nomatch h)), by simpa using h⟩
theorem ArOK.snoc {X : List Am} {fs : List Fa} {f : Fa} : ArOK X (fs ++ [f]) ↔ ArOK X fs ∧ f.a.length ≤ 6 ∧ (∀ a ∈ X, a.p = f.p → a.a.length = f.a.length) ∧ ∀ g ∈ fs, g.p = f.p → g.a.length = f.a.length := by
  unfold ArOK
  rw [List.map_append, ← List.append_assoc, List.map_singleton, sameLen_snoc]
  constructor
  · rintro ⟨h1, h2, h3⟩
    refine ⟨⟨fun g hg => h1 g (List.mem_append_left _ hg), h2⟩, h1 f (List.mem_append_right _ (.head _)), fun a ha e => ?_, fun g hg e => ?_⟩
    · have := h3 a (List.mem_append_left _ ha) e; rwa [lift_len] at this
    · have := h3 (lift g) (List.mem_append_right _ (List.mem_map.2 ⟨g, hg, rfl⟩)) e; rwa [lift_len, lift_len] at this
  · rintro ⟨⟨h1, h2⟩, h3, h4, h5⟩
    refine ⟨fun g hg => ?_, h2, fun b hb e => ?_⟩
    · rcases List.mem_append.1 hg with h | h
      · exact h1 g h
      · rw [List.mem_singleton.1 h]; exact h3
    · rw [lift_len]
      rcases List.mem_append.1 hb with h | h
      · exact h4 b h e
      · obtain ⟨g, hg, rfl⟩ := List.mem_map.1 h
        rw [lift_len]; exact h5 g hg e
theorem ArOK.sub {X : List Am} {fs : List Fa} (h : ArOK X fs) (k : Nat) : ArOK X (fs.take k) := ⟨fun f hf => h.1 f (List.mem_of_mem_take hf), sameLen_sub h.2 fun a ha => by
  rcases List.mem_append.1 ha with h | h
  · exact List.mem_append_left _ h
  · obtain ⟨g, hg, rfl⟩ := List.mem_map.1 h
    exact List.mem_append_right _ (List.mem_map.2 ⟨g, List.mem_of_mem_take hg, rfl⟩)⟩
theorem fit_iff {L : Lens} {Y : List Am} (h : LensOf L Y) (hs : sameLen Y) (p : Int) (n : Nat) : fitB L p n = true ↔ ∀ b ∈ Y, b.p = p → b.a.length = n := by
  unfold fitB
  cases e : L p with
  | none =>
    refine ⟨fun _ b hb q => ?_, fun _ => rfl⟩
    obtain ⟨k, hk⟩ := h.2 b hb
    rw [q, e] at hk; cases hk
  | some k =>
    obtain ⟨z, hz, g1, g2⟩ := h.1 _ _ e
    simp only [decide_eq_true_eq]
    constructor
    · intro q b hb qb
      have := hs b hb z hz (by rw [qb, g1])
      omega
    · intro q
      have := q z hz g1
      omega
theorem ArOK.fit {X : List Am} {fs : List Fa} {L : Lens} (h : ArOK X fs) (hL : LensOf L (X ++ fs.map lift)) (f : Fa) (hf : f.a.length ≤ 6) : fitB L f.p f.a.length = true ↔ ArOK X (fs ++ [f]) := by
  rw [fit_iff hL h.2, ArOK.snoc]
  constructor
  · intro q
    refine ⟨h, hf, fun a ha e => q a (List.mem_append_left _ ha) e, fun g hg e => ?_⟩
    have := q (lift g) (List.mem_append_right _ (List.mem_map.2 ⟨g, hg, rfl⟩)) e; rwa [lift_len] at this
  · rintro ⟨_, _, h4, h5⟩ b hb e
    rcases List.mem_append.1 hb with h | h
    · exact h4 b h e
    · obtain ⟨g, hg, rfl⟩ := List.mem_map.1 h
      rw [lift_len]; exact h5 g hg e
theorem LensOf.fact {L : Lens} {X : List Am} {fs : List Fa} (hL : LensOf L (X ++ fs.map lift)) (f : Fa) : LensOf (learn L f.p f.a.length) (X ++ (fs ++ [f]).map lift) := by
  have := hL.step (lift f)
  rw [lift_len] at this
  rw [List.map_append, ← List.append_assoc]; exact this
theorem ArOK.bad {X : List Am} {fs : List Fa} {k : Nat} (hk : k < fs.length) (h : ¬ ArOK X (fs.take k ++ [fs[k]])) : ¬ ArOK X fs := fun q => h (by
  have := q.sub (k + 1)
  rwa [List.take_succ_eq_append_getElem hk] at this)
end Go.Proofs.YtmomkfedcmogmaaGreat.SL
namespace Go.Proofs.YtmomkfedcmogmaaGreat.SL
open Go Md
theorem safeArities (l : List Cl) (LA : Option Addr) (lc : Nat) (fs : List Fa) (FA : Option Addr) (fc : Nat) (hr : (rightC l).2 = 0) :
    Spec Tryz.prog 42 #[.slice LA l.length lc, .slice FA fs.length fc] [sl tCl LA lc l, sl tFa FA fc fs] [] (fun v Ps' Os' => ∃ (i e : Int), v = .tuple #[.int .i64 i, .int .i64 e] ∧ ((e = 0 ∧ ArOK (atomsL l) fs) ∨ (e = 9 ∧ ¬ ArOK (atomsL l) fs)) ∧ Ps' = [] ∧ Os' = []) := by
 refine zSp _ Tryz.func42 Tryz.ntmps42 (fun _ _ _ => ?_)
 refine zR 1 ?_
 have hri := rightC_iff.1 hr
 have hl := hri.1
 have hb : ∀ c ∈ l, c.b.length ≤ 8 := fun c hc => may_body (hri.2.1 c hc).1
 have hsl := hri.2.2
 refine go_len (xs := l) zM (fun l0 m0 => ?_)
 refine go_len (xs := fs) zM (fun l1 m1 => ?_)
 refine zR 6 ?_
 refine go_makemap (kk := .u32) rfl rfl rfl zH ?_
 intro bm
 refine zR 10 ?_
 refine zO (X := Nat × List (Int × Value)) (fun x => [(14, .int .i64 (x.1 : Int))]) [1, 6, 12, 13] (fun x => [mapO bm .u32 x.2]) (fun x => x.1 ≤ l.length ∧ Lens.Is x.2 ((l.take (x.1)).foldl (fun L c => (clauseL L c).2) (fun _ => none)) ∧ LensOf ((l.take (x.1)).foldl (fun L c => (clauseL L c).2) (fun _ => none)) (atomsL (l.take x.1))) (fun x => l.length - x.1) (0, []) ⟨Nat.zero_le _, Lens.Is.nil, LensOf.nil⟩ ?_
 intro ⟨k, m⟩ ⟨hk, hm, hL⟩
 simp only at hk hm hL ⊢
 refine zD 5 ?_ ?_
 ·intro hq1
  refine zR 4 ?_
  refine go_elem_cl (xs := l) zM (k) (List.getElem?_eq_getElem (by omega)) (fun b0 o0 A0 c0 B0 d0 hA => ?_); cases hA
  refine zI 1 ?_
  refine zL 0 ?_
  refine zW 0 ?_
  intro bt
  refine zS 0 ?_
  refine zR 1 ?_
  refine go_freeze_pt (b := bt) zM ?_
  refine zL 2 ?_
  refine zC 0 (safeClause bm m _ hm l[k] A0 c0 B0 d0) ?_
  rintro _ _ _ ⟨m1, hm1, rfl, rfl, rfl⟩
  refine zR 6 ?_
  refine go_i64n 14 (k + 1) rfl ?_
  refine zz (k + 1, m1) (⟨by show k + 1 ≤ _; omega, by show Lens.Is m1 ((l.take (k + 1)).foldl (fun L c => (clauseL L c).2) (fun _ => none)); rw [fold_next (by omega)]; exact hm1, by show LensOf ((l.take (k + 1)).foldl (fun L c => (clauseL L c).2) (fun _ => none)) (atomsL (l.take (k + 1))); rw [fold_next (by omega), atomsL_next (by omega)]; exact hL.clause l[k]⟩) (by show _ - (k + 1) < _ - k; omega)
 intro hq1
 refine zR 3 ?_
 rw [List.take_of_length_le (show l.length ≤ k by omega)] at hm hL
 have hL0 : LensOf (l.foldl (fun L c => (clauseL L c).2) (fun _ => none)) (atomsL l ++ (fs.take 0).map lift) := by rw [List.take_zero, List.map_nil, List.append_nil]; exact hL
 refine zR 6 ?_
 refine go_loop' (X := Nat × List (Int × Value) × Lens) (fun x => [(24, .int .i64 (x.1 : Int))]) [(6, _), (22, _), (23, _)] (fun x => [mapO bm .u32 x.2.1]) (fun x => x.1 ≤ fs.length ∧ Lens.Is x.2.1 x.2.2 ∧ LensOf x.2.2 (atomsL l ++ (fs.take x.1).map lift) ∧ ArOK (atomsL l) (fs.take x.1)) (fun x => fs.length - x.1) ((0, m, _)) zA zM ⟨Nat.zero_le _, hm, hL0, ArOK.nil hsl⟩ ?_
 intro ⟨j, m2, L⟩ ⟨hj, hm2, hL2, hA⟩
 simp only at hj hm2 hL2 hA ⊢
 refine zD' 5 ?_ ?_
 ·intro hq2
  refine zT 6 rfl ⟨0, 0, rfl, .inl ⟨rfl, by rw [List.take_of_length_le (by omega)] at hA; exact hA⟩, rfl, rfl⟩
 intro hq2
 refine zR 4 ?_
 refine go_elem_fa (xs := fs) zM (j) (List.getElem?_eq_getElem (by omega)) (fun b1 o1 A1 c1 hA => ?_); cases hA
 refine go_len (xs := fs[j].a) zM (fun lf mf => ?_)
 refine zI 2 ?_
 refine zL 0 ?_
 refine zW 0 ?_
 intro bf
 refine zS 1 ?_
 refine zR 1 ?_
 refine go_freeze_pt (b := bf) zM ?_
 refine zL 3 ?_
 refine zG 3 33 ?_ ?_
 ·intro g1
  (try simp only [dcs, ne_eq] at g1)
  refine zDt 10 ?_
  refine zE 6 [4, 5] ?_
  refine zT 0 rfl ⟨_, 9, rfl, .inr ⟨rfl, ArOK.bad (k := j) (by omega) (fun q => by have := (ArOK.snoc.1 q).2.1; omega)⟩, rfl, rfl⟩
 intro g1
 (try simp only [dcs, ne_eq] at g1)
 refine zL 2 ?_
 refine zL 1 ?_
 refine zC 1 (safeFits bm m2 L hm2 fs[j].p fs[j].a.length) ?_
 rintro _ _ _ ⟨m3, hm3, rfl, rfl, rfl⟩
 refine zB 3 ?_ ?_
 ·intro g2
  (try simp only [dcs, ne_eq] at g2)
  refine zE 6 [4, 5] ?_
  refine zT 0 rfl ⟨_, 9, rfl, .inr ⟨rfl, ArOK.bad (k := j) (by omega) (fun q => by have := (hA.fit hL2 fs[j] (by omega)).2 q; rw [this] at g2; simp at g2)⟩, rfl, rfl⟩
 intro g2
 (try simp only [dcs, ne_eq] at g2)
 refine zR 6 ?_
 refine go_i64n 24 (j + 1) rfl ?_
 refine zz (j + 1, m3, learn L fs[j].p fs[j].a.length) (⟨by show j + 1 ≤ _; omega, hm3, by show LensOf _ (atomsL l ++ (fs.take (j + 1)).map lift); rw [List.take_succ_eq_append_getElem (show j < fs.length by omega)]; exact hL2.fact fs[j], by show ArOK _ (fs.take (j + 1)); rw [List.take_succ_eq_append_getElem (show j < fs.length by omega)]; exact (hA.fit hL2 fs[j] (by omega)).1 (by first | exact g2 | simpa using g2)⟩) (by show _ - (j + 1) < _ - j; omega)
theorem ref11Arities (l : List Cl) (LA : Option Addr) (lc : Nat) (fs : List Fa) (FA : Option Addr) (fc : Nat) (hr : (rightC l).2 = 0) :
    Spec Tryz.prog 34 #[.slice LA l.length lc, .slice FA fs.length fc] [sl tCl LA lc l, sl tFa FA fc fs] [] (fun v Ps' Os' => ∃ (i e : Int), v = .tuple #[.int .i64 i, .int .i64 e] ∧ ((e = 0 ∧ ArOK (atomsL l) fs) ∨ (e = 9 ∧ ¬ ArOK (atomsL l) fs)) ∧ Ps' = [] ∧ Os' = []) := by
 refine zSp _ Tryz.func34 Tryz.ntmps34 (fun _ _ _ => ?_)
 refine zR 1 ?_
 have hri := rightC_iff.1 hr
 have hl := hri.1
 have hb : ∀ c ∈ l, c.b.length ≤ 8 := fun c hc => may_body (hri.2.1 c hc).1
 have hsl := hri.2.2
 refine go_len (xs := l) zM (fun l0 m0 => ?_)
 refine go_len (xs := fs) zM (fun l1 m1 => ?_)
 refine zR 10 ?_
 refine go_own_nil tAm 43 none ?_
 refine zR 4 ?_
 refine zO (X := Nat × Option Addr × Nat) (fun x => [(6, .slice x.2.1 (atomsL (l.take (x.1))).length x.2.2), (7, .int .i64 (x.1 : Int))]) [0, 1] (fun x => [ol tAm 43 x.2.1 x.2.2 (atomsL (l.take (x.1)))]) (fun x => x.1 ≤ l.length ∧ (atomsL (l.take (x.1))).length ≤ x.1 * 1001) (fun x => l.length - x.1) (0, none, 0) ⟨by omega, by simp [atomsL]⟩ ?_
 intro ⟨k, A1, c1⟩ ⟨hk, hal⟩
 simp only at hk hal ⊢
 refine zD 8 ?_ ?_
 ·intro hq1
  refine zR 3 ?_
  refine go_elem_cl (xs := l) zM (k) (List.getElem?_eq_getElem (by omega)) (fun b1 o1 A2 c2 B2 d2 hA => ?_); cases hA
  have hbk := hb l[k] (List.getElem_mem _)
  have hacl := atomsC_len l[k]
  refine zI 4 ?_
  refine zL 0 ?_
  refine zC 0 (ref11Atoms l[k] A2 c2 B2 d2 (by omega)) ?_
  rintro _ _ _ ⟨A4, k4, rfl, rfl, rfl⟩
  refine go_appendN (T := tAm) (xs := atomsL (l.take (k))) (ys := atomsC l[k]) Tk rfl rfl rfl rfl rfl rfl rfl rfl rfl zM rfl zM (by omega) zH ?_
  intro A3 c3
  refine zR 8 ?_
  refine go_i64n 7 (k + 1) rfl ?_
  rw [← atomsL_next (by omega)]
  refine zz (k + 1, A3, c3) (⟨by show k + 1 ≤ _; omega, by show (atomsL (l.take (k + 1))).length ≤ (k + 1) * 1001; rw [atomsL_next (by omega), List.length_append, atomsC_len]; omega⟩) (by show _ - (k + 1) < _ - k; omega)
 intro hq1
 refine zR 3 ?_
 rw [List.take_of_length_le (show l.length ≤ k by omega)]
 rw [List.take_of_length_le (show l.length ≤ k by omega)] at hal
 refine go_freeze_ol (xs := atomsL l) zM ?_
 refine go_len (xs := atomsL l) zM (fun l9 m9 => ?_)
 refine zR 4 ?_
 refine zO (X := Nat) (fun x => [(8, .int .i64 (x : Int))]) [1, 6] (fun _ => []) (fun x => x ≤ fs.length ∧ ArOK (atomsL l) (fs.take x)) (fun x => fs.length - x) 0 ⟨Nat.zero_le _, ArOK.nil hsl⟩ ?_
 intro j ⟨hj, hA⟩
 refine zD' 8 ?_ ?_
 ·intro hq2
  refine zT 6 rfl ⟨0, 0, rfl, .inl ⟨rfl, by rw [List.take_of_length_le (by omega)] at hA; exact hA⟩, rfl, rfl⟩
 intro hq2
 refine zR 4 ?_
 refine go_elem_fa (xs := fs) zM (j) (List.getElem?_eq_getElem (by omega)) (fun b1 o1 A2 c2 hA => ?_); cases hA
 refine go_len (xs := fs[j].a) zM (fun lf mf => ?_)
 refine zI 3 ?_
 refine zL 0 ?_
 refine zW 0 ?_
 intro bf
 refine zS 0 ?_
 refine zR 1 ?_
 refine go_freeze_pt (b := bf) zM ?_
 refine zL 4 ?_
 refine zD 3 ?_ ?_
 ·intro g1
  refine zE 6 [4, 5] ?_
  refine zT 0 rfl ⟨_, 9, rfl, .inr ⟨rfl, ArOK.bad (k := j) (by omega) (fun q => by have := (ArOK.snoc.1 q).2.1; omega)⟩, rfl, rfl⟩
 intro g1
 refine zE 6 [1, 6, 8, 9, 10] ?_
 refine zR 1 ?_
 refine zO (X := Nat) (fun x => [(10, .int .i64 (x : Int))]) [1, 6, 8, 9] (fun _ => []) (fun x => x ≤ (atomsL l).length ∧ ∀ a ∈ (atomsL l).take x, a.p = fs[j].p → a.a.length = fs[j].a.length) (fun x => (atomsL l).length - x) 0 ⟨Nat.zero_le _, (fun a h => (nomatch h))⟩ ?_
 intro p ⟨hp, hX⟩
 refine zD 8 ?_ ?_
 ·intro hq3
  refine zR 4 ?_
  refine go_elem_am (xs := atomsL l) (c := c1) zM p (List.getElem?_eq_getElem (by omega)) (fun b5 o5 A5 c5 hA5 => ?_); cases hA5
  refine go_draw ([cl b5 (o5 + p * 2) [.int .u32 (atomsL l)[p].p, .slice A5 (atomsL l)[p].a.length c5], cl bf 0 [.int .u32 fs[j].p, .slice A2 fs[j].a.length c2]]) ([]) [4, 6, 13, 16] (SL.pre [(1, 0), (1, 1), (1, 2), (1, 3), (1, 5), (2, 4), (2, 6), (1, 7), (1, 8), (1, 9), (1, 10), (1, 11), (1, 12), (1, 15), (2, 13), (1, 14), (2, 16), (1, 17), (1, 18), (1, 19)] .nil) mixed rfl (by kernel_rfl) ?_
  refine zI 2 ?_
  refine zK 2 ?_
  refine zK 0 ?_
  refine zG' 2 54 ?_ ?_
  ·intro g2
   (try simp only [dcs, ne_eq] at g2)
   refine zJ 5 ?_
   refine zJ 1 ?_
   refine zE 4 [1, 6, 8, 9, 10, 55, 56, 57, 58, 59, 60, 61, 62, 63, 64, 65] ?_
   refine zDf 0 ?_
   refine zR 7 ?_
   refine go_i64n 10 (p + 1) rfl ?_
   refine zz (p + 1) (⟨by omega, mem_take_next (by omega) hX (fun q => by first | exact absurd q g2 | omega)⟩) (by omega)
  intro g2
  (try simp only [dcs, ne_eq] at g2)
  refine zI 2 ?_
  refine zK 2 ?_
  refine zK 1 ?_
  refine zE 4 [1, 6, 8, 9, 10, 55, 56, 57, 58, 59, 60, 61, 62, 63, 64, 65] ?_
  refine zB' 0 ?_ ?_
  ·intro g3
   (try simp only [dcs, ne_eq] at g3)
   refine zR 7 ?_
   refine go_i64n 10 (p + 1) rfl ?_
   refine zz (p + 1) (⟨by omega, mem_take_next (by omega) hX (fun q => by first | exact absurd q g2 | omega)⟩) (by omega)
  intro g3
  (try simp only [dcs, ne_eq] at g3)
  refine zE 6 [4, 5] ?_
  refine zT 0 rfl ⟨_, 9, rfl, .inr ⟨rfl, ArOK.bad (k := j) (by omega) (fun q => by have := (ArOK.snoc.1 q).2.2.1 _ (List.getElem_mem (show p < (atomsL l).length by omega)) g2; omega)⟩, rfl, rfl⟩
 intro hq3
 refine zR 2 ?_
 rw [List.take_of_length_le (show (atomsL l).length ≤ p by omega)] at hX
 refine zR 4 ?_
 refine zO (X := Nat) (fun x => [(11, .int .i64 (x : Int))]) [1, 6, 8, 9] (fun _ => []) (fun x => x ≤ j ∧ ∀ g ∈ fs.take x, g.p = fs[j].p → g.a.length = fs[j].a.length) (fun x => j - x) 0 ⟨Nat.zero_le _, (fun a h => (nomatch h))⟩ ?_
 intro q ⟨hq0, hF⟩
 refine zD' 7 ?_ ?_
 ·intro hq4
  refine zR 7 ?_
  refine go_i64n 8 (j + 1) rfl ?_
  refine zz (j + 1) (⟨by omega, by rw [List.take_succ_eq_append_getElem (show j < fs.length by omega)]; exact ArOK.snoc.2 ⟨hA, by omega, hX, fun g hg e => hF g (by rw [show q = j by omega]; exact hg) e⟩⟩) (by omega)
 intro hq4
 refine zR 4 ?_
 refine go_elem_fa (xs := fs) zM (q) (List.getElem?_eq_getElem (by omega)) (fun b6 o6 A6 c6 hA => ?_); cases hA
 refine go_draw ([cl b1 (o1 + q * 2) [.int .u32 fs[q].p, .slice A6 fs[q].a.length c6], cl bf 0 [.int .u32 fs[j].p, .slice A2 fs[j].a.length c2]]) ([]) [4, 6, 13, 16] (SL.pre [(1, 0), (1, 1), (1, 2), (1, 3), (1, 5), (2, 4), (2, 6), (1, 7), (1, 8), (1, 9), (1, 10), (1, 11), (1, 12), (1, 15), (2, 13), (1, 14), (2, 16), (1, 17), (1, 18), (1, 19)] .nil) mixed rfl (by kernel_rfl) ?_
 refine zI 2 ?_
 refine zK 2 ?_
 refine zK 0 ?_
 refine zG' 2 80 ?_ ?_
 ·intro g4
  (try simp only [dcs, ne_eq] at g4)
  refine zJ 5 ?_
  refine zJ 1 ?_
  refine zE 4 [1, 6, 8, 9, 11, 81, 82, 83, 84, 85, 86, 87, 88, 89, 90, 91] ?_
  refine zDf 0 ?_
  refine zR 7 ?_
  refine go_i64n 11 (q + 1) rfl ?_
  refine zz (q + 1) (⟨by omega, mem_take_next (by omega) hF (fun q => by first | exact absurd q g4 | omega)⟩) (by omega)
 intro g4
 (try simp only [dcs, ne_eq] at g4)
 refine zI 2 ?_
 refine zK 2 ?_
 refine zK 1 ?_
 refine zE 4 [1, 6, 8, 9, 11, 81, 82, 83, 84, 85, 86, 87, 88, 89, 90, 91] ?_
 refine zB' 0 ?_ ?_
 ·intro g5
  (try simp only [dcs, ne_eq] at g5)
  refine zR 7 ?_
  refine go_i64n 11 (q + 1) rfl ?_
  refine zz (q + 1) (⟨by omega, mem_take_next (by omega) hF (fun q => by first | exact absurd q g4 | omega)⟩) (by omega)
 intro g5
 (try simp only [dcs, ne_eq] at g5)
 refine zE 6 [4, 5] ?_
 refine zT 0 rfl ⟨_, 9, rfl, .inr ⟨rfl, ArOK.bad (k := j) (by omega) (fun z => by have := (ArOK.snoc.1 z).2.2.2 fs[q] (by rw [List.mem_take_iff_getElem]; exact ⟨q, by omega, rfl⟩) g4; omega)⟩, rfl, rfl⟩
end Go.Proofs.YtmomkfedcmogmaaGreat.SL
namespace Go.Proofs.YtmomkfedcmogmaaGreat.SL
open Md
abbrev Lx := List Cl × Option Addr × Nat
def encL (x : Lx) : Value := .slice x.2.1 x.1.length x.2.2
def pxL (st : List (List Cl)) (pre : List Lx) (x : Lx) : List PA := [PA.and (st[pre.length]? = some x.1) (sl tCl x.2.1 x.2.2 x.1)]
inductive ModA (l : List Cl) (fs : List Fa) (most : Int) : Option (List Fa) → Int → Prop where
  | arg : most < 0 → ModA l fs most none 1
  | strat {ss : List (List Nat)} {e : Int} : 0 ≤ most → StrR l ss e → e ≠ 0 → ModA l fs most none e
  | ari {ss : List (List Nat)} : 0 ≤ most → StrR l ss 0 → ¬ ArOK (atomsL l) fs → ModA l fs most none 9
  | run {ss : List (List Nat)} {r : Option (List Fa)} {e : Int} : 0 ≤ most → StrR l ss 0 → ArOK (atomsL l) fs → ModelR (ss.map (clausesAt l)) most (fof fs) r e → ModA l fs most r e
theorem LeastR.bad {l : List Cl} {N : List Fa} {most : Int} {r : Option (List Fa)} {n : Nat} {e : Int} (h : LeastR l N most r n e) (he : ¬ e = 0) : r = none := by
  cases h with
  | arg h1 => rfl
  | many k h1 h2 h3 => rfl
  | ok k h1 h2 h3 h4 h5 => exact absurd rfl he
theorem LeastR.good {l : List Cl} {N : List Fa} {most : Int} {r : Option (List Fa)} {n : Nat} {e : Int} (h : LeastR l N most r n e) (he : e = 0) : ∃ B, r = some B := by
  cases h with
  | arg h1 => cases he
  | many k h1 h2 h3 => cases he
  | ok k h1 h2 h3 h4 h5 => exact ⟨_, rfl⟩
theorem Md.Upto.fine {st : List (List Cl)} {most : Int} {N A : List Fa} {k : Nat} (h : Upto st most N k A) (hl : ∀ s ∈ st, ∀ c ∈ s, c.ok) (hN : ∀ x ∈ N, x.ok ∧ x.a.length ≤ 100000) : ∀ x ∈ A, x.ok ∧ x.a.length ≤ 100000 := by
  induction h with
  | zero => exact hN
  | succ h hk hL ih =>
    obtain ⟨j, e, _, _⟩ := hL.some_ok
    rw [e]
    exact Sq_ok (hl _ (List.getElem_mem _)) ih j
theorem clausesAt_mem {l : List Cl} {is : List Nat} {c : Cl} (h : c ∈ clausesAt l is) : c ∈ l := by
  obtain ⟨i, _, e⟩ := List.mem_filterMap.1 h
  exact List.mem_of_getElem? e
theorem clausesAt_snoc {l : List Cl} {is : List Nat} {u : Nat} (h : u < l.length) : clausesAt l (is ++ [u]) = clausesAt l is ++ [l[u]] := by
  unfold clausesAt; rw [List.filterMap_append]; simp [h]
theorem clausesAt_len {l : List Cl} : ∀ {is : List Nat}, (∀ u ∈ is, u < l.length) → (clausesAt l is).length = is.length
  | [], _ => rfl
  | u :: is, h => by
    have h1 := clausesAt_len (l := l) (is := is) (fun v hv => h v (.tail _ hv))
    have h2 := h u (.head _)
    unfold clausesAt at h1 ⊢
    rw [List.filterMap_cons, List.getElem?_eq_getElem h2, List.length_cons, List.length_cons, h1]
theorem StrR.zero {l : List Cl} {ss : List (List Nat)} {e : Int} (h : StrR l ss e) (he : e = 0) : (rightC l).2 = 0 ∧ ss.length ≤ 4001 ∧ ∀ p ∈ ss, p.length ≤ 400 ∧ ∀ u ∈ p, u < l.length := by
  cases h with
  | bad e h1 h2 => exact absurd he h1
  | ok lv h1 h2 h3 h4 =>
    have hl := (rightC_iff.1 h1).1
    refine ⟨h1, ?_, fun p hp => ?_⟩
    · unfold strata; rw [List.length_map, List.length_range]
      exact top_le (fun x hx => by obtain ⟨c, _, rfl⟩ := List.mem_map.1 hx; exact h4 _)
    · unfold strata at hp
      obtain ⟨k, _, rfl⟩ := List.mem_map.1 hp
      refine ⟨Nat.le_trans (strI_len _ _) (by rw [List.length_map]; exact hl), fun u hu => ?_⟩
      have := mem_strI.1 hu
      rw [List.getElem?_map] at this
      cases e : l[u]? with
      | none => rw [e] at this; cases this
      | some c => exact (List.getElem?_eq_some_iff.1 e).1
theorem st_mem {l : List Cl} {ss : List (List Nat)} : ∀ s ∈ ss.map (clausesAt l), ∀ c ∈ s, c ∈ l := fun s hs c hc => by
  obtain ⟨p, _, rfl⟩ := List.mem_map.1 hs
  exact clausesAt_mem hc
end Go.Proofs.YtmomkfedcmogmaaGreat.SL
namespace Go.Proofs.YtmomkfedcmogmaaGreat.SL
open Go
theorem fixRight (l : List Cl) (LA : Option Addr) (lc : Nat) :
    Spec Tryz.prog 65 #[.slice LA l.length lc] [sl tCl LA lc l] [] (fun v Ps' Os' => v = .bool (fixR l) ∧ Ps' = [] ∧ Os' = []) := by
 refine zSp _ Tryz.func65 Tryz.ntmps65 (fun _ _ _ => ?_)
 refine zC3 8 (safeRight LA lc l) ?_
 refine zN 11 ?_ ?_
 ·intro g1
  refine zT 4 rfl ⟨by rw [show fixR l = false from decide_eq_false (fun q => g1 q.1)], rfl, rfl⟩
 intro g1
 refine zR 3 ?_
 refine go_makemap (kk := .u32) rfl rfl rfl zH ?_
 intro bm
 refine zR 4 ?_
 refine go_len (xs := l) zM (fun l0 m0 => ?_)
 refine zR 6 ?_
 refine zO (X := Nat × List (Int × Value)) (fun x => [(22, .int .i64 (x.1 : Int))]) [0, 5, 20, 21] (fun x => [mapO bm .u32 x.2]) (fun x => x.1 ≤ l.length ∧ Ones x.2 ((l.take x.1).map fun c => c.h.p)) (fun x => l.length - x.1) (0, []) ⟨by omega, Ones.nil⟩ ?_
 intro ⟨k, m⟩ ⟨hk, hm⟩
 simp only at hk hm ⊢
 refine zD 5 ?_ ?_
 ·intro hq1
  refine zR 4 ?_
  refine go_elem_cl (xs := l) zM (k) (List.getElem?_eq_getElem (by omega)) (fun b1 o1 A1 c1 B1 d1 hA => ?_); cases hA
  refine zI 1 ?_
  refine zL 0 ?_
  refine zW 0 ?_
  intro bT
  refine zS 0 ?_
  refine zR 1 ?_
  refine go_freeze_pt (b := bT) zM ?_
  refine zL 4 ?_
  refine go_mset (m := m) Tk rfl rfl rfl rfl rfl rfl rfl rfl zM zF ?_
  refine zR 6 ?_
  refine zi 22 ?_
  refine go_back (k + 1, _) zA zM zM ⟨by show k + 1 ≤ _; omega, (hm.set l[k].h.p).same (fun z => by simp only [List.take_succ_eq_append_getElem (show k < l.length by omega), List.map_append, List.mem_append, List.mem_cons, List.map_cons, List.map_nil, List.not_mem_nil, or_false]; exact or_comm)⟩ (by show l.length - (k + 1) < l.length - k; omega)
 intro hq1
 refine zR 3 ?_
 rw [List.take_of_length_le (by omega)] at hm
 refine zR 6 ?_
 refine zO (X := Nat) (fun i => [(33, .int .i64 (i : Int))]) [5, 31, 32] (fun _ => []) (fun i => i ≤ l.length ∧ ∀ c ∈ l.take i, ∀ x ∈ c.b, x.no = true → ∀ d ∈ l, ¬ d.h.p = x.a.p) (fun i => l.length - i) 0 ⟨by omega, by simp⟩ ?_
 intro i ⟨hi, hz⟩
 refine zD' 5 ?_ ?_
 ·intro hq2
  refine zT 5 rfl ⟨by rw [show fixR l = true from decide_eq_true ⟨by simpa using g1, fun c hc => by rw [List.take_of_length_le (by omega)] at hz; exact hz c hc⟩], rfl, rfl⟩
 intro hq2
 refine zR 4 ?_
 refine go_elem_cl (xs := l) zM (i) (List.getElem?_eq_getElem (by omega)) (fun b2 o2 A2 c2 B2 d2 hA => ?_); cases hA
 refine zI 1 ?_
 refine zL 0 ?_
 refine zW 0 ?_
 intro bU
 refine zS 0 ?_
 refine zR 1 ?_
 refine go_freeze_pt (b := bU) zM ?_
 refine zR 1 ?_
 refine go_len (xs := l[i].b) zM (fun l2 m2 => ?_)
 refine zL 2 ?_
 refine zR 4 ?_
 refine zO (X := Nat) (fun j => [(40, .int .i64 (j : Int))]) [5, 31, 32, 33, 38, 39] (fun _ => []) (fun j => j ≤ l[i].b.length ∧ ∀ x ∈ l[i].b.take j, x.no = true → ∀ d ∈ l, ¬ d.h.p = x.a.p) (fun j => l[i].b.length - j) 0 ⟨by omega, by simp⟩ ?_
 intro j ⟨hj, hy⟩
 refine zD' 5 ?_ ?_
 ·intro hq3
  refine zR 6 ?_
  refine zi 33 ?_
  refine zz (i + 1) (⟨by omega, mem_take_next (by omega) hz (by rw [List.take_of_length_le (by omega)] at hy; exact hy)⟩) (by omega)
 intro hq3
 refine zR 4 ?_
 refine go_elem_li (xs := l[i].b) zM (j) (List.getElem?_eq_getElem (by omega)) (fun b3 o3 A3 c3 hA => ?_); cases hA
 refine zI 1 ?_
 refine zL 0 ?_
 refine zW 0 ?_
 intro bV
 refine zS 0 ?_
 refine zR 1 ?_
 refine go_freeze_pt (b := bV) zM ?_
 refine zL 3 ?_
 refine zG' 1 46 ?_ ?_
 ·intro g2
  (try simp only [dcs, ne_eq] at g2)
  refine zDf 8 ?_
  refine zR 6 ?_
  refine zi 40 ?_
  refine zz (j + 1) (⟨by omega, mem_take_next (by omega) hy (fun q => by first | exact absurd (g2.symm.trans q) (by decide) | exact g4)⟩) (by omega)
 intro g2
 (try simp only [dcs, ne_eq] at g2)
 refine zL 3 ?_
 refine go_val0 rfl (lookup_val (m := m) (n := l[i].b[j].a.p) (c := false) (v := (mget m l[i].b[j].a.p).getD (.int .i64 0)) Tk rfl rfl rfl rfl rfl rfl zM rfl) rfl ?_
 refine go_re 51 (.int .i64 (if l[i].b[j].a.p ∈ (l.map fun c => c.h.p) then 1 else 0)) (by show some _ = some _; rw [hm]; split <;> rfl) ?_
 refine zB 3 ?_ ?_
 ·intro g3
  (try simp only [dcs, ne_eq] at g3)
  have g4 : l[i].b[j].a.p ∈ (l.map fun c => c.h.p) := Decidable.byContradiction fun h => by rw [if_neg h] at g3; omega
  refine zE 4 [2] ?_
  refine zT 0 rfl ⟨by rw [show fixR l = false from decide_eq_false (fun q => by obtain ⟨d, hd, e⟩ := List.mem_map.1 g4; exact q.2 l[i] (List.getElem_mem _) _ (List.getElem_mem _) g2 d hd e)], rfl, rfl⟩
 intro g3
 (try simp only [dcs, ne_eq] at g3)
 have g4 : ∀ d ∈ l, ¬ d.h.p = l[i].b[j].a.p := fun d hd e => by rw [if_pos (List.mem_map.2 ⟨d, hd, e⟩)] at g3; omega
 refine zR 6 ?_
 refine zi 40 ?_
 refine zz (j + 1) (⟨by omega, mem_take_next (by omega) hy (fun q => by first | exact absurd (g2.symm.trans q) (by decide) | exact g4)⟩) (by omega)
theorem joinHeadsR (c : Cl) (CA : Option Addr) (cc : Nat) (CB : Option Addr) (cd : Nat) (ba : Nat) (pn : Option Addr) (F N : List Fa) (hs : JoinS F [] N) (hok : c.ok) (hb : (goL c F [] N c.b ch0 true).length ≤ 50000000) : Spec Tryz.prog 67 #[.agg #[.int .u32 c.h.p, .slice CA c.h.a.length cc, .slice CB c.b.length cd], .pointer (some ⟨ba, 0, none⟩), .pointer pn] [sl tTm CA cc c.h.a, sl tLi CB cd c.b, relN pn N] [relO ba F] (fun v Ps' Os' => ∃ A k, v = .slice A (headsC c F [] N false).length k ∧ Ps' = [] ∧ Os' = [relO ba F, dl tFa 27 A k (headsC c F [] N false)]) :=
  (((joinHeadsAll c CA cc CB cd (some ⟨ba, 0, none⟩) pn F N hs hok hb).less (Ps' := [relN (some ⟨ba, 0, none⟩) F, sl tTm CA cc c.h.a, sl tLi CB cd c.b, relN pn N]) (fun q hq => by
    simp only [List.mem_cons, List.not_mem_nil, or_false] at hq ⊢
    rcases hq with h | h | h | h <;> simp [h])).lend (relO ba F) (fun hp h1 H l1 l2 q => relN_some (lend_rel hp h1 H l1 l2 q)) (fun v P' O' ⟨A, k, _, h2, h3⟩ => ⟨h2, fun B hB => by rw [h3, List.mem_singleton] at hB; subst hB; exact fun _ _ _ q => q⟩)).imp fun v P' O' ⟨O2, ⟨A, k, h1, _, h3⟩, h4, h5⟩ => ⟨A, k, h1, h4, by rw [h5, h3]⟩
theorem joinNewsR (c : Cl) (CA : Option Addr) (cc : Nat) (CB : Option Addr) (cd : Nat) (ba : Nat) (pg pn : Option Addr) (F R N : List Fa) (hs : JoinS F R N) (hok : c.ok) (hb : (goL c F R N c.b ch0 false).length ≤ 50000000) : Spec Tryz.prog 70 #[.agg #[.int .u32 c.h.p, .slice CA c.h.a.length cc, .slice CB c.b.length cd], .pointer (some ⟨ba, 0, none⟩), .pointer pg, .pointer pn] [sl tTm CA cc c.h.a, sl tLi CB cd c.b, relN pg R, relN pn N] [relO ba F] (fun v Ps' Os' => ∃ A k, v = .slice A (headsC c F R N true).length k ∧ Ps' = [] ∧ Os' = [relO ba F, dl tFa 27 A k (headsC c F R N true)]) :=
  (((joinNews c CA cc CB cd (some ⟨ba, 0, none⟩) pg pn F R N hs hok hb).less (Ps' := [relN (some ⟨ba, 0, none⟩) F, sl tTm CA cc c.h.a, sl tLi CB cd c.b, relN pg R, relN pn N]) (fun q hq => by
    simp only [List.mem_cons, List.not_mem_nil, or_false] at hq ⊢
    rcases hq with h | h | h | h | h <;> simp [h])).lend (relO ba F) (fun hp h1 H l1 l2 q => relN_some (lend_rel hp h1 H l1 l2 q)) (fun v P' O' ⟨A, k, _, h2, h3⟩ => ⟨h2, fun B hB => by rw [h3, List.mem_singleton] at hB; subst hB; exact fun _ _ _ q => q⟩)).imp fun v P' O' ⟨O2, ⟨A, k, h1, _, h3⟩, h4, h5⟩ => ⟨A, k, h1, h4, by rw [h5, h3]⟩
theorem least1 (c : Cl) (CA : Option Addr) (cc : Nat) (CB : Option Addr) (cd : Nat) (b6 b4 ba : Nat) (pn : Option Addr) (F N : List Fa) (hs : JoinS F [] N) (hok : c.ok) (hb : (goL c F [] N c.b ch0 true).length ≤ 50000000) :
    Spec Tryz.prog 66 #[.agg #[.int .u32 c.h.p, .slice CA c.h.a.length cc, .slice CB c.b.length cd], .pointer (some ⟨b6, 0, none⟩), .pointer (some ⟨b4, 0, none⟩)] [sl tTm CA cc c.h.a, sl tLi CB cd c.b, cl b4 0 [.pointer pn], relN pn N] [pt b6 62 [.pointer (some ⟨ba, 0, none⟩)], relO ba F] (fun v Ps' Os' => ∃ A k, v = .slice A (headsC c F [] N false).length k ∧ Ps' = [] ∧ Os' = [pt b6 62 [.pointer (some ⟨ba, 0, none⟩)], relO ba F, dl tFa 27 A k (headsC c F [] N false)]) := by
 refine zSp _ Tryz.func66 Tryz.ntmps66 (fun _ _ _ => ?_)
 refine zX 2 ?_
 intro bC
 refine zR 2 ?_
 refine go_freeze_pt (b := bC) zM ?_
 refine zL 2 ?_
 refine zL 0 ?_
 refine zL 0 ?_
 refine zC 0 (joinHeadsR c CA cc CB cd ba pn F N hs hok hb) ?_
 rintro _ _ _ ⟨A9, k9, rfl, rfl, rfl⟩
 refine zT 2 rfl ⟨A9, k9, rfl, rfl, rfl⟩
theorem least2 (c : Cl) (CA : Option Addr) (cc : Nat) (CB : Option Addr) (cd : Nat) (b6 bg b4 ba : Nat) (pg pn : Option Addr) (F R N : List Fa) (hs : JoinS F R N) (hok : c.ok) (hb : (goL c F R N c.b ch0 false).length ≤ 50000000) :
    Spec Tryz.prog 69 #[.agg #[.int .u32 c.h.p, .slice CA c.h.a.length cc, .slice CB c.b.length cd], .pointer (some ⟨b6, 0, none⟩), .pointer (some ⟨bg, 0, none⟩), .pointer (some ⟨b4, 0, none⟩)] [sl tTm CA cc c.h.a, sl tLi CB cd c.b, cl bg 0 [.pointer pg], relN pg R, cl b4 0 [.pointer pn], relN pn N] [pt b6 62 [.pointer (some ⟨ba, 0, none⟩)], relO ba F] (fun v Ps' Os' => ∃ A k, v = .slice A (headsC c F R N true).length k ∧ Ps' = [] ∧ Os' = [pt b6 62 [.pointer (some ⟨ba, 0, none⟩)], relO ba F, dl tFa 27 A k (headsC c F R N true)]) := by
 refine zSp _ Tryz.func69 Tryz.ntmps69 (fun _ _ _ => ?_)
 refine zX 2 ?_
 intro bC
 refine zR 2 ?_
 refine go_freeze_pt (b := bC) zM ?_
 refine zL 2 ?_
 refine zL 0 ?_
 refine zL 0 ?_
 refine zL 0 ?_
 refine zC 0 (joinNewsR c CA cc CB cd ba pg pn F R N hs hok hb) ?_
 rintro _ _ _ ⟨A9, k9, rfl, rfl, rfl⟩
 refine zT 2 rfl ⟨A9, k9, rfl, rfl, rfl⟩
theorem pre_mem {l : List Cl} {hd : Cl → List Fa} {k j : Nat} (hk : k < l.length) {x : Fa} (h : x ∈ (l.take k).flatMap hd ++ (hd l[k]).take j) : x ∈ l.flatMap hd := by
  rw [List.mem_flatMap]
  rcases List.mem_append.1 h with h | h
  · obtain ⟨c, hc, h⟩ := List.mem_flatMap.1 h
    exact ⟨c, List.mem_of_mem_take hc, h⟩
  · exact ⟨l[k], List.getElem_mem _, List.mem_of_mem_take h⟩
theorem fixNews (l : List Cl) (LA : Option Addr) (lc : Nat) (b6 ba : Nat) (F : List Fa) (g : FuncId) (caps : Array Value) (PK : PA) (hd : Cl → List Fa) (most : Int) (hask : ∀ c ∈ l, ∀ (CA : Option Addr) (cc : Nat) (CB : Option Addr) (cd : Nat), Spec Tryz.prog g (Value.agg #[.int .u32 c.h.p, .slice CA c.h.a.length cc, .slice CB c.b.length cd] :: caps.toList).toArray [sl tTm CA cc c.h.a, sl tLi CB cd c.b, PK] [pt b6 62 [.pointer (some ⟨ba, 0, none⟩)], relO ba F] (fun v Ps' Os' => ∃ A k, v = .slice A (hd c).length k ∧ Ps' = [] ∧ Os' = [pt b6 62 [.pointer (some ⟨ba, 0, none⟩)], relO ba F, dl tFa 27 A k (hd c)])) (hr : rises F) (hm : most ≤ 100000) (hF : (F.length : Int) ≤ most) (hda : ∀ c ∈ l, ∀ x ∈ hd c, x.a.length ≤ 100000) :
    Spec Tryz.prog 68 #[.agg #[.slice LA l.length lc, .pointer (some ⟨ba, 0, none⟩), .func (.func g) #[] caps], .int .i64 most] [sl tCl LA lc l, PK] [pt b6 62 [.pointer (some ⟨ba, 0, none⟩)], relO ba F] (fun v Ps' Os' => ∃ b R, v = .pointer (some ⟨b, 0, none⟩) ∧ rises R ∧ R.length ≤ 100001 ∧ ((most < ((F.length + R.length : Nat) : Int) ∧ most < ((F.length + (nws F (l.flatMap hd)).length : Nat) : Int)) ∨ (R = nws F (l.flatMap hd) ∧ ((F.length + R.length : Nat) : Int) ≤ most)) ∧ Ps' = [] ∧ Os' = [pt b6 62 [.pointer (some ⟨ba, 0, none⟩)], relO ba F, relO b R]) := by
 refine zSp _ Tryz.func68 Tryz.ntmps68 (fun _ _ _ => ?_)
 refine zX 2 ?_
 intro bR
 refine zR 2 ?_
 refine go_freeze_pt (b := bR) zM ?_
 refine zC 2 relNew ?_
 rintro _ _ _ ⟨b, rfl, rfl, rfl⟩
 refine go_same (A := relO b []) (B := relO b (nws F ((l.take (0)).flatMap hd))) zM rfl ?_
 refine zR 4 ?_
 refine go_len (xs := l) zM (fun l0 m0 => ?_)
 refine zL 2 ?_
 refine zR 4 ?_
 refine zO (X := Nat) (fun k => [(14, .int .i64 (k : Int))]) [1, 2, 5, 12, 13] (fun k => [pt b6 62 [.pointer (some ⟨ba, 0, none⟩)], relO ba F, relO b (nws F ((l.take (k)).flatMap hd))]) (fun k => k ≤ l.length ∧ ((F.length + (nws F ((l.take (k)).flatMap hd)).length : Nat) : Int) ≤ most) (fun k => l.length - k) 0 ⟨by omega, by show ((F.length + 0 : Nat) : Int) ≤ most; omega⟩ ?_
 intro k ⟨hk, hkm⟩
 refine zD' 5 ?_ ?_
 ·intro hq1
  refine zT 6 rfl ⟨b, _, rfl, rises_nws _ _, by omega, .inr ⟨by rw [List.take_of_length_le (show l.length ≤ k by omega)], hkm⟩, rfl, rfl⟩
 intro hq1
 refine zR 4 ?_
 refine go_elem_cl (xs := l) zM (k) (List.getElem?_eq_getElem (by omega)) (fun b1 o1 A1 c1 B1 d1 hA => ?_); cases hA
 refine zI 1 ?_
 refine zL 0 ?_
 refine zW 0 ?_
 intro bT
 refine zS 0 ?_
 refine zR 1 ?_
 refine go_freeze_pt (b := bT) zM ?_
 refine zL 3 ?_
 refine zL 0 ?_
 refine zC 0 (hask l[k] (List.getElem_mem _) A1 c1 B1 d1) ?_
 rintro _ _ _ ⟨A2, k2, rfl, rfl, rfl⟩
 refine go_freeze_dl (T := tFa) (A := A2) (xs := hd l[k]) zM ?_
 refine go_len (xs := hd l[k]) zM (fun l2 m2 => ?_)
 refine go_same (A := relO b (nws F ((l.take (k)).flatMap hd))) (B := relO b (nws F ((l.take k).flatMap hd ++ (hd l[k]).take 0))) zM (by rw [List.take_zero, List.append_nil]) ?_
 refine zR 4 ?_
 refine zO (X := Nat) (fun j => [(23, .int .i64 (j : Int))]) [1, 2, 5, 12, 13, 14, 21, 22] (fun j => [pt b6 62 [.pointer (some ⟨ba, 0, none⟩)], relO ba F, relO b (nws F ((l.take k).flatMap hd ++ (hd l[k]).take j))]) (fun j => j ≤ (hd l[k]).length ∧ ((F.length + (nws F ((l.take k).flatMap hd ++ (hd l[k]).take j)).length : Nat) : Int) ≤ most) (fun j => (hd l[k]).length - j) 0 ⟨by omega, by rw [List.take_zero, List.append_nil]; exact hkm⟩ ?_
 intro j ⟨hj, hjm⟩
 refine zD' 5 ?_ ?_
 ·intro hq2
  refine zR 6 ?_
  refine go_same (A := relO b (nws F ((l.take k).flatMap hd ++ (hd l[k]).take j))) (B := relO b (nws F ((l.take (k + 1)).flatMap hd))) zM (by rw [List.take_of_length_le (show (hd l[k]).length ≤ j by omega), ← flat_next (by omega)]) ?_
  refine zi 14 ?_
  refine zz (k + 1) ⟨by omega, by rw [List.take_of_length_le (show (hd l[k]).length ≤ j by omega), ← flat_next (by omega)] at hjm; exact hjm⟩ (by omega)
 intro hq2
 refine zR 4 ?_
 refine go_elem_fa (xs := hd l[k]) zM (j) (List.getElem?_eq_getElem (by omega)) (fun b3 o3 A3 c3 hA => ?_); cases hA
 have hxs : ((l.take k).flatMap hd ++ (hd l[k]).take (j + 1)) = ((l.take k).flatMap hd ++ (hd l[k]).take j) ++ [(hd l[k])[j]] := by rw [List.take_succ_eq_append_getElem (show j < (hd l[k]).length by omega), ← List.append_assoc]
 have hsn := nws_snoc F ((l.take k).flatMap hd ++ (hd l[k]).take j) (hd l[k])[j]
 rw [← hxs] at hsn
 refine zI 1 ?_
 refine zL 0 ?_
 refine zW 0 ?_
 intro bV
 refine zS 0 ?_
 refine zR 1 ?_
 refine go_freeze_pt (b := bV) zM ?_
 refine zL 4 ?_
 refine zL 0 ?_
 refine zC3 0 (relHas ba F (hd l[k])[j] A3 c3 hr (by omega)) ?_
 refine zB' 2 ?_ ?_
 ·intro g1
  (try simp only [dcs, ne_eq] at g1)
  rw [if_pos g1] at hsn
  refine go_same (A := relO b (nws F ((l.take k).flatMap hd ++ (hd l[k]).take j))) (B := relO b (nws F ((l.take k).flatMap hd ++ (hd l[k]).take (j + 1)))) zM (by rw [hsn]) ?_
  refine zR 2 ?_
  have hle : (nws F ((l.take k).flatMap hd ++ (hd l[k]).take (j + 1))).length ≤ (nws F ((l.take k).flatMap hd ++ (hd l[k]).take j)).length + 1 := by rw [hsn]; first | omega | exact fput_len _ _
  refine zL 2 ?_
  refine zC3 0 (relLen ba F) ?_
  refine zC3 1 (relLen b (nws F ((l.take k).flatMap hd ++ (hd l[k]).take (j + 1)))) ?_
  refine zR 1 ?_
  refine zi 40 ?_
  refine zE 3 [1, 2, 5, 12, 13, 14, 21, 22, 23, 42] ?_
  refine zD' 0 ?_ ?_
  ·intro g2
   refine zR 6 ?_
   refine zi 23 ?_
   refine zz (j + 1) ⟨by omega, by omega⟩ (by omega)
  intro g2
  refine zT 5 rfl ⟨b, nws F ((l.take k).flatMap hd ++ (hd l[k]).take (j + 1)), rfl, rises_nws _ _, by omega, .inl ⟨by omega, by have := nws_sub (S := F) (X := ((l.take k).flatMap hd ++ (hd l[k]).take (j + 1))) (Y := l.flatMap hd) (fun x hx => pre_mem (by omega) hx); omega⟩, rfl, rfl⟩
 intro g1
 (try simp only [dcs, ne_eq] at g1)
 rw [if_neg g1] at hsn
 refine zL 2 ?_
 refine zC3 0 (relPut b (nws F ((l.take k).flatMap hd ++ (hd l[k]).take j)) (hd l[k])[j] A3 c3 (rises_nws _ _) (by omega) (hda l[k] (List.getElem_mem _) _ (List.getElem_mem _))) ?_
 rw [← hsn]
 refine zE 1 [1, 2, 5, 12, 13, 14, 21, 22, 23] ?_
 refine zR 1 ?_
 have hle : (nws F ((l.take k).flatMap hd ++ (hd l[k]).take (j + 1))).length ≤ (nws F ((l.take k).flatMap hd ++ (hd l[k]).take j)).length + 1 := by rw [hsn]; first | omega | exact fput_len _ _
 refine zL 2 ?_
 refine zC3 0 (relLen ba F) ?_
 refine zC3 1 (relLen b (nws F ((l.take k).flatMap hd ++ (hd l[k]).take (j + 1)))) ?_
 refine zR 1 ?_
 refine zi 40 ?_
 refine zD' 3 ?_ ?_
 ·intro g2
  refine zR 6 ?_
  refine zi 23 ?_
  refine zz (j + 1) ⟨by omega, by omega⟩ (by omega)
 intro g2
 refine zE 5 [4] ?_
 refine zT 0 rfl ⟨b, nws F ((l.take k).flatMap hd ++ (hd l[k]).take (j + 1)), rfl, rises_nws _ _, by omega, .inl ⟨by omega, by have := nws_sub (S := F) (X := ((l.take k).flatMap hd ++ (hd l[k]).take (j + 1))) (Y := l.flatMap hd) (fun x hx => pre_mem (by omega) hx); omega⟩, rfl, rfl⟩
theorem Spec.ents {P : Program} {f : FuncId} {args : Array Value} {Ps Ps' : List PA} {Os : List OA} {Q : Value → List PA → List OA → Prop} (s : Spec P f args Ps Os Q) (h : ∀ q, q ∈ Ps → Ent Ps' q) : Spec P f args Ps' Os Q :=
  ⟨s.fn, fun w hp ho hf hs a b c => s.calls w hp ho hf (hs.ents h) a b c⟩
def relR (p : Option Addr) (r : Option (List Fa)) : OA := ⟨fun hp h => match r with | none => p = none | some S => ∃ b, p = some ⟨b, 0, none⟩ ∧ (relO b S).p hp h, fun {hp hp' h} hl q => by
  cases r with
  | none => exact q
  | some S => obtain ⟨b, e, r⟩ := q; exact ⟨b, e, (relO b S).up hl r⟩⟩
section
variable {C : Ctx} {k : List It} {E : Env} {Ps : List PA} {Os : List OA}
theorem go_relR0 (g : Go C k E Ps (relR none none :: Os)) : Go C k E Ps Os := fun a w hp ho hf hs hb => g a w hp ho hf ⟨hs.inp, hs.ino, hs.dj, hs.ps, Heap.nil, ho, Heap.nil_le _, Heap.le_refl _, Heap.nil_dj _, rfl, hs.os⟩ hb
theorem go_relR1 {b : Nat} {S : List Fa} {rr : List OA} (h : Rem (relO b S) Os rr) (g : Go C k E Ps (relR (some ⟨b, 0, none⟩) (some S) :: rr)) : Go C k E Ps Os := go_imp _ [relR (some ⟨b, 0, none⟩) (some S)] h (fun _ _ q => sep_one ⟨b, rfl, q⟩) g
theorem go_relRs {p : Option Addr} {S : List Fa} {rr : List OA} (h : Rem (relR p (some S)) Os rr) (g : ∀ b, p = some ⟨b, 0, none⟩ → Go C k E Ps (relO b S :: rr)) : Go C k E Ps Os := fun a w hp ho hf hs hb => by
  obtain ⟨g1, g2, i, b, d, ⟨b', e, q⟩, sp⟩ := Sep.rem h hs.os
  exact g b' e a w hp ho hf ⟨hs.inp, hs.ino, hs.dj, hs.ps, g1, g2, i, b, d, q, sp⟩ hb
end
theorem Rq_len (l : List Cl) (N : List Fa) : ∀ k, (Rq l N k).length ≤ (Sq l N k).length
  | 0 => by simp [Rq]
  | k + 1 => by rw [Sq_len]; show (nx l N (Sq l N k)).length ≤ _; omega
def lkF (b6 b4 bg : Nat) : Nat → Value
  | 0 => .func (.func 66) #[] #[.pointer (some ⟨b6, 0, none⟩), .pointer (some ⟨b4, 0, none⟩)]
  | _ + 1 => .func (.func 69) #[] #[.pointer (some ⟨b6, 0, none⟩), .pointer (some ⟨bg, 0, none⟩), .pointer (some ⟨b4, 0, none⟩)]
def lkP (b4 : Nat) (pn : Option Addr) (N : List Fa) (bg bf : Nat) (R : List Fa) : Nat → PA
  | 0 => PA.all [cl b4 0 [.pointer pn], relN pn N]
  | _ + 1 => PA.all [cl bg 0 [.pointer (some ⟨bf, 0, none⟩)], relN (some ⟨bf, 0, none⟩) R, cl b4 0 [.pointer pn], relN pn N]
theorem lk_js {l : List Cl} {N : List Fa} {most : Int} (hl : ∀ c ∈ l, c.ok) (hN : ∀ x ∈ N, x.ok ∧ x.a.length ≤ 100000) (hr : rises N) (hm : most ≤ 100000) (hbig : ∀ c ∈ l, ∀ (F R : List Fa) (new : Bool), (F.length : Int) ≤ most → (goL c F R N c.b ch0 new).length ≤ 50000000) (hNl : (N.length : Int) ≤ most) {k : Nat} (hk : ((Sq l N k).length : Int) ≤ most) : JoinS (Sq l N k) (Rq l N k) N :=
  ⟨by omega, fun x hx => (Sq_ok hl hN k x hx).2, fun x hx => (Sq_ok hl hN k x hx).1, (by cases k with
    | zero => exact rises_nil
    | succ k => exact rises_nws _ _), by have := Rq_len l N k; omega, hr, by omega⟩
theorem roundNews (l : List Cl) (LA : Option Addr) (lc : Nat) (b6 b4 ba bg bf : Nat) (pn : Option Addr) (N : List Fa) (most : Int) (hl : ∀ c ∈ l, c.ok) (hN : ∀ x ∈ N, x.ok ∧ x.a.length ≤ 100000) (hr : rises N) (hm : most ≤ 100000) (hbig : ∀ c ∈ l, ∀ (F R : List Fa) (new : Bool), (F.length : Int) ≤ most → (goL c F R N c.b ch0 new).length ≤ 50000000) (hNl : (N.length : Int) ≤ most) : ∀ (k : Nat) (hk : ((Sq l N k).length : Int) ≤ most),
    Spec Tryz.prog 68 #[.agg #[.slice LA l.length lc, .pointer (some ⟨ba, 0, none⟩), lkF b6 b4 bg k], .int .i64 most] [sl tCl LA lc l, lkP b4 pn N bg bf (Rq l N k) k] [pt b6 62 [.pointer (some ⟨ba, 0, none⟩)], relO ba (Sq l N k)] (fun v Ps' Os' => ∃ b R, v = .pointer (some ⟨b, 0, none⟩) ∧ rises R ∧ R.length ≤ 100001 ∧ ((most < (((Sq l N k).length + R.length : Nat) : Int) ∧ most < ((Sq l N (k + 1)).length : Int)) ∨ (R = nx l N (Sq l N k) ∧ (((Sq l N k).length + R.length : Nat) : Int) ≤ most)) ∧ Ps' = [] ∧ Os' = [pt b6 62 [.pointer (some ⟨ba, 0, none⟩)], relO ba (Sq l N k), relO b R])
  | 0, hk => (fixNews l LA lc b6 ba (Sq l N 0) 66 #[.pointer (some ⟨b6, 0, none⟩), .pointer (some ⟨b4, 0, none⟩)] _ (askH l N 0) most (fun c hc CA cc CB cd => (least1 c CA cc CB cd b6 b4 ba pn (Sq l N 0) N (lk_js hl hN hr hm hbig hNl (k := 0) hk) (hl c hc) (hbig c hc _ _ _ hk)).ents (fun q hq => by
      simp only [List.mem_cons, List.not_mem_nil, or_false] at hq
      first
      | (rcases hq with rfl | rfl | rfl | rfl)
      | (rcases hq with rfl | rfl | rfl | rfl | rfl | rfl)
      all_goals intro h a; first | exact a _ (.head _) | exact a _ (.tail _ (.head _)) | exact a _ (.tail _ (.tail _ (.head _))) _ (by simp))) (rises_Sq hr 0) hm hk (fun c hc x hx => by have := (heads_ok (hl c hc) (fun y hy => (Sq_ok hl hN 0 y hy).1) hx).2; omega)).imp fun v P' O' ⟨b, R, h1, h2, h0, h3, h4, h5⟩ => ⟨b, R, h1, h2, h0, by rw [ask_news hl] at h3; rw [Sq_len]; exact h3, h4, h5⟩
  | k + 1, hk => (fixNews l LA lc b6 ba (Sq l N (k + 1)) 69 #[.pointer (some ⟨b6, 0, none⟩), .pointer (some ⟨bg, 0, none⟩), .pointer (some ⟨b4, 0, none⟩)] _ (askH l N (k + 1)) most (fun c hc CA cc CB cd => (least2 c CA cc CB cd b6 bg b4 ba (some ⟨bf, 0, none⟩) pn (Sq l N (k + 1)) (Rq l N (k + 1)) N (lk_js hl hN hr hm hbig hNl hk) (hl c hc) (hbig c hc _ _ _ hk)).ents (fun q hq => by
      simp only [List.mem_cons, List.not_mem_nil, or_false] at hq
      first
      | (rcases hq with rfl | rfl | rfl | rfl)
      | (rcases hq with rfl | rfl | rfl | rfl | rfl | rfl)
      all_goals intro h a; first | exact a _ (.head _) | exact a _ (.tail _ (.head _)) | exact a _ (.tail _ (.tail _ (.head _))) _ (by simp))) (rises_Sq hr (k + 1)) hm hk (fun c hc x hx => by have := (heads_ok (hl c hc) (fun y hy => (Sq_ok hl hN (k + 1) y hy).1) hx).2; omega)).imp fun v P' O' ⟨b, R, h1, h2, h0, h3, h4, h5⟩ => ⟨b, R, h1, h2, h0, by rw [ask_news hl] at h3; rw [show (Sq l N (k + 1 + 1)).length = _ from Sq_len l N (k + 1)]; exact h3, h4, h5⟩
set_option maxHeartbeats 4000000 in
theorem fixLeast (l : List Cl) (LA : Option Addr) (lc : Nat) (pn : Option Addr) (N : List Fa) (most : Int) (hl : ∀ c ∈ l, c.ok) (hN : ∀ x ∈ N, x.ok ∧ x.a.length ≤ 100000) (hr : rises N) (hm : most ≤ 100000) (hbig : ∀ c ∈ l, ∀ (F R : List Fa) (new : Bool), (F.length : Int) ≤ most → (goL c F R N c.b ch0 new).length ≤ 50000000) (hNl : N.length ≤ 100000) :
    Spec Tryz.prog 45 #[.slice LA l.length lc, .pointer pn, .int .i64 most] [sl tCl LA lc l, relN pn N] [] (fun v Ps' Os' => ∃ r n e p, LeastR l N most r n e ∧ v = .tuple #[.pointer p, .int .i64 ((n : Nat) : Int), .int .i64 e] ∧ Ps' = [] ∧ Os' = [relR p r]) := by
 refine zSp _ Tryz.func45 Tryz.ntmps45 (fun _ _ _ => ?_)
 refine zX 2 ?_
 intro b4
 refine go_freeze_pt (b := b4) zM ?_
 refine zW 0 ?_
 intro b6
 refine zG 9 15 ?_ ?_
 ·intro g1
  (try simp only [dcs, ne_eq] at g1)
  refine zDt 5 ?_
  refine zR 1 ?_
  refine go_relR0 ?_
  refine zS 1 ?_
  refine zR 3 ?_
  refine go_ret ⟨rfl, rfl⟩ _ _ (res3 (by rfl) (.cell rfl (rdv Tk rfl)) (.tmp rfl) (.tmp rfl)) ⟨none, 0, 1, none, .arg (.inl g1), rfl, rfl, rfl⟩ zM zM
 intro g1
 (try simp only [dcs, ne_eq] at g1)
 refine zC3 1 (fixRight l LA lc) ?_
 refine zB 3 ?_ ?_
 ·intro g2
  (try simp only [dcs, ne_eq] at g2)
  refine zR 1 ?_
  refine go_relR0 ?_
  refine zS 1 ?_
  refine zR 3 ?_
  refine go_ret ⟨rfl, rfl⟩ _ _ (res3 (by rfl) (.cell rfl (rdv Tk rfl)) (.tmp rfl) (.tmp rfl)) ⟨none, 0, 1, none, .arg (.inr g2), rfl, rfl, rfl⟩ zM zM
 intro g2
 (try simp only [dcs, ne_eq] at g2)
 refine zR 2 ?_
 refine go_ent (relN none []) (fun _ _ => relN_nil) ?_
 have g1' : 0 ≤ most := by omega
 refine zL 1 ?_
 refine zC 0 (relLessN pn N none [] rises_nil (by simp) (by omega) (fun x hx => (hN x hx).2)) ?_
 rintro _ _ _ ⟨ba, rfl, rfl, rfl⟩
 refine go_relD (b := ba) zM ?_
 refine go_same (A := relO ba _) (B := relO ba (Sq l N 0)) zM (by rw [less_nil]; rfl) ?_
 refine zS 0 ?_
 refine zL 4 ?_
 refine zC3 0 (relLen ba (Sq l N 0)) ?_
 refine zE 3 [0, 2, 4, 6, 7, 25] ?_
 refine zD 0 ?_ ?_
 ·intro g3
  refine zR 1 ?_
  refine go_relR0 ?_
  refine zS 1 ?_
  refine zR 3 ?_
  refine go_ret ⟨rfl, rfl⟩ _ _ (res3 (by rfl) (.cell rfl (rdv Tk rfl)) (.tmp rfl) (.tmp rfl)) ⟨none, 0, 6, none, .many 0 g1' g2 (by omega), rfl, rfl, rfl⟩ zM zM
 intro g3
 refine zL 4 ?_
 refine zq 1 ?_
 refine zW 0 ?_
 intro b9
 refine zS 0 ?_
 refine zR 1 ?_
 refine go_mkall [cl b4 0 [.pointer pn], relN pn N] zM ?_
 have hSN : ((Sq l N 0).length : Int) ≤ most := by omega
 have hNm : (N.length : Int) ≤ most := hSN
 refine zR 1 ?_
 refine go_loop (X := Nat × Nat × Nat) (fun x => [(7, .int .i64 (x.1 : Int))]) [(2, _), (4, _), (6, _), (9, _)] (fun x => [sl tCl LA lc l, lkP b4 pn N x.2.1 x.2.2 (Rq l N x.1) x.1, cl b4 0 [.pointer pn], relN pn N]) (fun x => [pt b6 62 [.pointer (some ⟨ba, 0, none⟩)], relO ba (Sq l N x.1), pt b9 115 [.slice LA l.length lc, .pointer (some ⟨ba, 0, none⟩), lkF b6 b4 x.2.1 x.1]]) (fun x => ((Sq l N x.1).length : Int) ≤ most ∧ x.1 ≤ (Sq l N x.1).length ∧ ∀ j < x.1, ¬ nx l N (Sq l N j) = []) (fun x => most.toNat + 1 - x.1) ((0, 0, 0)) zA zM zM ⟨hSN, by omega, by omega⟩ ?_
 intro ⟨k, bg0, bf0⟩ ⟨hk, hkl, hkn⟩
 simp only at hk hkl hkn ⊢
 refine zR 5 ?_
 refine zi 31 ?_
 refine go_re 31 (.int .i64 ((k + 1 : Nat) : Int)) (by rfl) ?_
 refine zL 4 ?_
 refine zC 1 (roundNews l LA lc b6 b4 ba bg0 bf0 pn N most hl hN hr hm hbig hNm k hk) ?_
 rintro _ _ _ ⟨bf, R, rfl, hRr, hRl, hca, rfl, rfl⟩
 refine zW 0 ?_
 intro bg
 refine zS 0 ?_
 refine zR 3 ?_
 refine go_draw ([]) ([pt b6 62 [.pointer (some ⟨ba, 0, none⟩)], pt bg 62 [.pointer (some ⟨bf, 0, none⟩)]]) [0, 2] (SL.pre [(1, 5), (2, 0), (2, 2), (0, 1), (0, 3), (1, 4), (1, 6)] .nil) mixed rfl (by kernel_rfl) ?_
 refine zK 1 ?_
 refine zK 0 ?_
 refine go_call (relLen ba (Sq l N k)) rfl rfl (by rfl) rfl zM zM (fun _ v Ps' Os' hq => by obtain ⟨rfl, rfl, rfl⟩ := hq; exact satS zM zM) ?_
 rintro _ _ _ ⟨rfl, rfl, rfl⟩
 refine zC3 0 (relLen bf R) ?_
 refine zR 1 ?_
 refine zi 39 ?_
 refine zD 2 ?_ ?_
 ·intro g3
  refine zR 1 ?_
  refine go_relR0 ?_
  refine zS 1 ?_
  refine zE 3 [6, 7, 8] ?_
  refine go_ret ⟨rfl, rfl⟩ _ _ (res3 (by rfl) (.cell rfl (rdv Tk rfl)) (.tmp rfl) (.tmp rfl)) ⟨none, 0, 6, none, .many (k + 1) g1' g2 (hca.elim (fun q => q.2) (fun q => absurd q.2 (by omega))), rfl, rfl, rfl⟩ zM zM
 intro g3
 obtain ⟨rfl, hle⟩ := hca.resolve_left (fun q => by omega)
 refine zL 4 ?_
 refine zC3 0 (relLen bf (nx l N (Sq l N k))) ?_
 refine zE 2 [2, 4, 6, 7, 9, 10, 44] ?_
 refine zD 0 ?_ ?_
 ·intro g4
  have g5 : nx l N (Sq l N k) = [] := List.eq_nil_of_length_eq_zero (by omega)
  refine zR 1 ?_
  skip
  refine zL 1 ?_
  refine zS 1 ?_
  refine zR 3 ?_
  refine go_relR1 (b := ba) zM ?_
  refine go_ret ⟨rfl, rfl⟩ _ _ (res3 (by rfl) (.cell rfl (rdv Tk rfl)) (.tmp rfl) (.tmp rfl)) ⟨some (Sq l N k), k + 1, 0, _, .ok k g1' g2 hk hkn g5, rfl, rfl, rfl⟩ zM zM
 intro g4
 have g5 : ¬ nx l N (Sq l N k) = [] := fun q => g4 (by rw [q]; rfl)
 have hnl : 0 < (nx l N (Sq l N k)).length := List.length_pos_iff.2 g5
 refine zR 3 ?_
 refine go_freeze_pt (b := bg) zM ?_
 refine go_freeze_rel (b := bf) zM ?_
 refine go_ent (relN (some ⟨bf, 0, none⟩) (nx l N (Sq l N k))) (fun hh hps => relN_some (hps (relP bf (nx l N (Sq l N k))) zM)) ?_
 refine zL 1 ?_
 refine zC 0 (relListN (some ⟨bf, 0, none⟩) (nx l N (Sq l N k)) (by omega) (fun x hx => (Sq_ok hl hN (k + 1) x (mem_nextS.2 (.inr (mem_nws.1 hx).1))).2)) ?_
 rintro _ _ _ ⟨A9, k9, rfl, rfl, rfl⟩
 refine go_freeze_dl (T := tFa) (A := A9) (xs := nx l N (Sq l N k)) zM ?_
 refine go_len (xs := nx l N (Sq l N k)) zM (fun l9 m9 => ?_)
 refine go_same (A := relO ba (Sq l N k)) (B := relO ba (((nx l N (Sq l N k)).take (0)).foldl fput (Sq l N k))) zM rfl ?_
 refine zR 4 ?_
 refine zO (X := Nat) (fun j => [(50, .int .i64 (j : Int))]) [2, 4, 6, 7, 9, 10, 48, 49] (fun j => [pt b6 62 [.pointer (some ⟨ba, 0, none⟩)], relO ba (((nx l N (Sq l N k)).take (j)).foldl fput (Sq l N k))]) (fun j => j ≤ (nx l N (Sq l N k)).length) (fun j => (nx l N (Sq l N k)).length - j) 0 (by omega) ?_
 intro j hj
 have hcl := foldl_flen ((nx l N (Sq l N k)).take j) (Sq l N k)
 rw [List.length_take] at hcl
 refine zD' 5 ?_ ?_
 ·intro hq1
  refine zS 4 ?_
  refine zR 1 ?_
  refine go_same (A := relO ba _) (B := relO ba (Sq l N (k + 1))) zM (by rw [List.take_of_length_le (by omega)]; rfl) ?_
  refine zR 1 ?_
  refine go_mkall [cl bg 0 [.pointer (some ⟨bf, 0, none⟩)], relN (some ⟨bf, 0, none⟩) (nx l N (Sq l N k)), cl b4 0 [.pointer pn], relN pn N] zM ?_
  refine zz (k + 1, bg, bf) ⟨by show ((Sq l N (k + 1)).length : Int) ≤ most; rw [Sq_len]; exact hle, by show k + 1 ≤ _; rw [Sq_len]; omega, fun j' hj' => (Nat.lt_or_ge j' k).elim (hkn j') (fun q => by rw [show j' = k by have : j' < k + 1 := hj'; omega]; exact g5)⟩ (by show most.toNat + 1 - (k + 1) < most.toNat + 1 - k; omega)
 intro hq1
 refine zR 4 ?_
 refine go_elem_fa (xs := nx l N (Sq l N k)) zM (j) (List.getElem?_eq_getElem (by omega)) (fun b1 o1 A1 c1 hA => ?_); cases hA
 refine zI 1 ?_
 refine zL 0 ?_
 refine zW 0 ?_
 intro bV
 refine zS 0 ?_
 refine zR 1 ?_
 refine go_freeze_pt (b := bV) zM ?_
 refine zL 1 ?_
 refine zL 0 ?_
 refine zC3 0 (relPut ba (((nx l N (Sq l N k)).take (j)).foldl fput (Sq l N k)) (nx l N (Sq l N k))[j] A1 c1 (foldl_rises _ _ (rises_Sq hr k)) (by omega) (Sq_ok hl hN (k + 1) _ (mem_nextS.2 (.inr (mem_nws.1 (List.getElem_mem (show j < (nx l N (Sq l N k)).length by omega))).1))).2) ?_
 refine zR 6 ?_
 refine zi 50 ?_
 refine go_same (B := relO ba (((nx l N (Sq l N k)).take (j + 1)).foldl fput (Sq l N k))) .here (by rw [List.take_succ_eq_append_getElem (show j < (nx l N (Sq l N k)).length by omega), List.foldl_append]; rfl) ?_
 refine zz (j + 1) (by omega) (by omega)
end Go.Proofs.YtmomkfedcmogmaaGreat.SL
namespace Go.Proofs.YtmomkfedcmogmaaGreat.SL
open Go Md
theorem modelLevels (l : List Cl) (LA : Option Addr) (lc : Nat) (ss : List (List Nat)) (SA : Option Addr) (sc : Nat) :
    Spec Tryz.prog 44 #[.slice LA l.length lc, .slice SA ss.length sc] [] [] (fun v Ps' Os' => ∃ bL bS, v = .func (.func 64) #[] #[.pointer (some ⟨bS, 0, none⟩), .pointer (some ⟨bL, 0, none⟩)] ∧ Ps' = [cl bL 0 [.slice LA l.length lc], cl bS 0 [.slice SA ss.length sc]] ∧ Os' = []) := by
 refine zSp _ Tryz.func44 Tryz.ntmps44 (fun _ _ _ => ?_)
 refine zX 2 ?_
 intro bL
 refine zX 0 ?_
 intro bS
 refine go_freeze_pt (b := bL) zM ?_
 refine go_freeze_pt (b := bS) zM ?_
 refine zT 7 rfl ⟨bL, bS, rfl, rfl, rfl⟩
theorem levels1 (ly bL bS : Nat) (R St : List Lx → OA) (l : List Cl) (LA : Option Addr) (lc : Nat) (ss : List (List Nat)) (SA : Option Addr) (sc : Nat) (hY : YldS Tryz.prog ly encL (pxL (ss.map (clausesAt l))) R St) (hss : ∀ p ∈ ss, p.length ≤ 400 ∧ ∀ u ∈ p, u < l.length) (hsl : ss.length ≤ 4001) :
    Spec Tryz.prog 64 #[.func (.yield ly) #[] #[], .pointer (some ⟨bS, 0, none⟩), .pointer (some ⟨bL, 0, none⟩)] [cl bL 0 [.slice LA l.length lc], cl bS 0 [.slice SA ss.length sc], sl tCl LA lc l, sl (tSl (tInt .i64)) SA sc (ss.map cs)] [R []] (fun v Ps' Os' => Ps' = [] ∧ ((∃ xs : List Lx, xs.map (·.1) = (ss.map (clausesAt l)) ∧ Os' = [R xs]) ∨ (∃ xs : List Lx, True ∧ Os' = [St xs]))) := by
 refine zSp _ Tryz.func64 Tryz.ntmps64 (fun _ _ _ => ?_)
 refine zR 1 ?_
 refine go_len (xs := ss.map cs) zM (fun l0 m0 => ?_)
 rw [List.length_map] at l0
 refine go_len (xs := l) zM (fun l1 m1 => ?_)
 refine zL 1 ?_
 refine zR 4 ?_
 refine zO (X := Nat × List Lx) (fun x => [(11, .int .i64 (x.1 : Int))]) [0, 2, 9, 10] (fun x => [R x.2]) (fun x => x.1 ≤ ss.length ∧ x.2.map (·.1) = (ss.take x.1).map (clausesAt l)) (fun x => ss.length - x.1) (0, []) ⟨Nat.zero_le _, rfl⟩ ?_
 intro ⟨k, D⟩ ⟨hk, hD⟩
 simp only at hk hD ⊢
 have hDl : D.length = k := by have := congrArg List.length hD; rw [List.length_map, List.length_map, List.length_take] at this; omega
 refine zD' 5 ?_ ?_
 ·intro hq1
  refine zT 1 rfl ⟨rfl, .inl ⟨D, by rw [List.take_of_length_le (by omega)] at hD; exact hD, rfl⟩⟩
 intro hq1
 refine zR 4 ?_
 obtain ⟨p, hpk⟩ : ∃ p, ss[k]? = some p := ⟨_, List.getElem?_eq_getElem (by omega)⟩
 have hpk' : ss[k]'(by omega) = p := (List.getElem?_eq_some_iff.1 hpk).2
 have hpm := hss p (List.mem_of_getElem? hpk)
 have hcp := cs_len p
 refine go_elem_row (T := tInt .i64) (xss := ss.map cs) zM k (xs := cs p) (by rw [List.getElem?_map, hpk]; rfl) (fun b1 o1 A5 c5 hA1 => ?_); cases hA1
 refine go_len (xs := cs p) zM (fun lp mp => ?_)
 refine zI 1 ?_
 refine zL 0 ?_
 refine zR 8 ?_
 refine go_own_nil tCl 46 none ?_
 refine zR 6 ?_
 refine zO (X := Nat × Option Addr × Nat) (fun x => [(6, .slice x.2.1 (clausesAt l (p.take x.1)).length x.2.2), (17, .int .i64 (x.1 : Int))]) [0, 2, 9, 10, 11, 15, 16] (fun x => [ol tCl 46 x.2.1 x.2.2 (clausesAt l (p.take x.1))]) (fun x => x.1 ≤ p.length) (fun x => p.length - x.1) (0, none, 0) (Nat.zero_le _) ?_
 intro ⟨j, A3, c3⟩ hj
 simp only at hj ⊢
 have hcl := clausesAt_len (l := l) (is := p.take j) (fun u hu => hpm.2 u (List.mem_of_mem_take hu))
 rw [List.length_take] at hcl
 refine zD' 5 ?_ ?_
 ·intro hq2
  refine zR 2 ?_
  rw [List.take_of_length_le (show p.length ≤ j by omega)]
  refine go_freeze_ol (xs := clausesAt l p) zM ?_
  refine go_ent (PA.and ((ss.map (clausesAt l))[D.length]? = some (clausesAt l p)) (sl tCl A3 c3 (clausesAt l p))) (fun hh a => ⟨by rw [hDl, List.getElem?_map, hpk]; rfl, a _ zM⟩) ?_
  refine go_regionY [false, false, true] rfl ?_
  refine zR 2 ?_
  refine go_yield2 hY (D) ((clausesAt l p, A3, c3)) rfl rfl rfl rfl rfl zM zM ?_ ?_
  ·skip
   refine zDf 2 ?_
   refine zR 6 ?_
   refine go_i64n 11 (k + 1) rfl ?_
   refine go_back (k + 1, _) zA zM zM (⟨by show k + 1 ≤ _; omega, by show List.map _ (D ++ [_]) = _; rw [List.map_append, hD, List.take_succ_eq_append_getElem (show k < ss.length by omega), List.map_append, hpk']; rfl⟩) (by show _ - (k + 1) < _ - k; omega)
  ·skip
   refine zDt 2 ?_
   refine zT 0 rfl ⟨rfl, .inr ⟨_, trivial, rfl⟩⟩
 intro hq2
 refine zR 4 ?_
 obtain ⟨u, hpu⟩ : ∃ u, p[j]? = some u := ⟨_, List.getElem?_eq_getElem (by omega)⟩
 have hpu' : p[j]'(by omega) = u := (List.getElem?_eq_some_iff.1 hpu).2
 have hun := hpm.2 u (List.mem_of_getElem? hpu)
 have hnx : clausesAt l (p.take j) ++ [l[u]] = clausesAt l (p.take (j + 1)) := by rw [List.take_succ_eq_append_getElem (show j < p.length by omega), hpu', clausesAt_snoc hun]
 refine go_elem_int (xs := cs p) zM j (cs_get hpu) (fun b2 o2 hA2 => ?_); cases hA2
 refine zI 1 ?_
 refine zL 0 ?_
 refine zR 2 ?_
 refine go_elem_cl (xs := l) zM (u) (List.getElem?_eq_getElem (by omega)) (fun b3 o3 A6 c6 B6 d6 hA => ?_); cases hA
 refine zL 2 ?_
 refine zI 1 ?_
 refine zL 0 ?_
 refine zV 0 ?_
 intro b1
 refine go_append1 (T := tCl) (xs := clausesAt l (p.take j)) Tk (l[u]) rfl rfl rfl rfl rfl rfl rfl rfl rfl zM zM rfl (ent_cl zM zM) (by omega) zH ?_
 intro A4 c4
 refine zR 7 ?_
 refine go_i64n 17 (j + 1) rfl ?_
 rw [hnx]
 refine zz (j + 1, A4, c4) (by show j + 1 ≤ _; omega) (by show _ - (j + 1) < _ - j; omega)
def modO (b12 b9 b6 b7 : Nat) (st : List (List Cl)) (most : Int) (N : List Fa) (D : List Lx) : OA := OA.ex fun x : Option Addr × List Fa => OA.and (Upto st most N D.length x.2) (OA.all [pt b12 62 [.pointer x.1], relR x.1 (some x.2), pt b9 30 [.int .i64 0], pt b6 23 [.slice none 0 0], pt b7 30 [.int .i64 0]])
def modX (b6 b7 : Nat) (st : List (List Cl)) (most : Int) (N : List Fa) : OA := OA.ex fun e : Int => OA.and (∃ k A, ∃ hk : k < st.length, Upto st most N k A ∧ Stg st[k] A most none e) (OA.all [pt b6 23 [.slice none 0 0], pt b7 30 [.int .i64 e]])
theorem go_mod {C : Ctx} {k : List It} {E : Env} {Ps : List PA} {Os : List OA} {b12 b9 b6 b7 : Nat} {st : List (List Cl)} {most : Int} {N : List Fa} {D : List Lx} {rr : List OA} (h : Rem (modO b12 b9 b6 b7 st most N D) Os rr) (g : ∀ p M, Upto st most N D.length M → Go C k E Ps ([pt b12 62 [.pointer p], relR p (some M), pt b9 30 [.int .i64 0], pt b6 23 [.slice none 0 0], pt b7 30 [.int .i64 0]] ++ rr)) : Go C k E Ps Os :=
  go_oex h fun x => go_oand .here fun hm => go_oall .here (g x.1 x.2 hm)
theorem go_modX {C : Ctx} {k : List It} {E : Env} {Ps : List PA} {Os : List OA} {b6 b7 : Nat} {st : List (List Cl)} {most : Int} {N : List Fa} {rr : List OA} (h : Rem (modX b6 b7 st most N) Os rr) (g : ∀ e k' A, ∀ hk : k' < st.length, Upto st most N k' A → Stg st[k'] A most none e → Go C k E Ps ([pt b6 23 [.slice none 0 0], pt b7 30 [.int .i64 e]] ++ rr)) : Go C k E Ps Os :=
  go_oex h fun e => go_oand .here fun ⟨k', A, hk, h1, h2⟩ => go_oall .here (g e k' A hk h1 h2)
set_option maxHeartbeats 8000000 in
theorem modelOf (l : List Cl) (LA : Option Addr) (lc : Nat) (fs : List Fa) (FA : Option Addr) (fc : Nat) (most : Int) (hl : ∀ c ∈ l, c.ok) (hF : ∀ x ∈ fs, x.ok ∧ x.a.length ≤ 100000) (hfl : fs.length ≤ 100000) (hm : most ≤ 100000) (hbig : ∀ c ∈ l, ∀ (F R N : List Fa) (new : Bool), (F.length : Int) ≤ most → (goL c F R N c.b ch0 new).length ≤ 50000000) :
    Spec Tryz.prog 17 #[.slice LA l.length lc, .slice FA fs.length fc, .int .i64 most] [sl tCl LA lc l, sl tFa FA fc fs] [] (fun v Ps' Os' => ∃ A c r e, ModA l fs most r e ∧ v = .tuple #[.slice A (r.getD []).length c, .int .i64 e] ∧ Ps' = [sl tFa A c (r.getD [])] ∧ Os' = []) := by
 refine zSp _ Tryz.func17 Tryz.ntmps17 (fun _ _ _ => ?_)
 refine zX 2 ?_
 intro b5
 refine go_freeze_pt (b := b5) zM ?_
 refine zW 0 ?_
 intro b6
 refine zW 0 ?_
 intro b7
 refine zL 4 ?_
 refine zD 2 ?_ ?_
 ·intro g1
  refine go_sl_nil tFa ?_
  refine zS 2 ?_
  refine zS 0 ?_
  refine zR 1 ?_
  refine go_ret ⟨rfl, rfl⟩ _ _ (res2 (by rfl) (.cell rfl (rdv Tk rfl)) (.cell rfl (rdv Tk rfl))) ⟨none, 0, none, 1, .arg g1, rfl, rfl, rfl⟩ zM zM
 intro g1
 have g1' : 0 ≤ most := by omega
 refine zC 4 (stratStrata l LA lc) ?_
 rintro _ _ _ ⟨SA, sc, ss, e, hS, rfl, rfl, rfl⟩
 refine zW 3 ?_
 intro b9
 refine zS 1 ?_
 refine zL 4 ?_
 refine zN 2 ?_ ?_
 ·intro g2
  refine go_sl_nil tFa ?_
  refine zR 1 ?_
  refine go_draw ([]) ([pt b9 30 [.int .i64 e], pt b6 23 [.slice none 0 0], pt b7 30 [.int .i64 0]]) [0] (SL.pre [(2, 0), (0, 1), (0, 2)] .nil) mixed rfl (by kernel_rfl) ?_
  refine zK 0 ?_
  refine go_store Tk rfl rfl rfl rfl rfl rfl zM rfl rfl (by rfl) (fun _ => satA) ?_
  refine zS 0 ?_
  refine zE 1 [6, 7] ?_
  refine go_ret ⟨rfl, rfl⟩ _ _ (res2 (by rfl) (.cell rfl (rdv Tk rfl)) (.cell rfl (rdv Tk rfl))) ⟨none, 0, none, e, .strat g1' hS g2, rfl, rfl, rfl⟩ zM zM
 intro g2
 subst g2
 obtain ⟨hr, hsl, hss⟩ := hS.zero rfl
 refine zC 6 (safeArities l LA lc fs FA fc hr) ?_
 rintro _ _ _ ⟨i1, e1, rfl, hA, rfl, rfl⟩
 refine zE 6 [0, 1, 5, 6, 7, 8, 9, 11] ?_
 refine zN 5 ?_ ?_
 ·intro g3
  obtain ⟨rfl, hA'⟩ := hA.resolve_left (fun q => g3 q.1)
  refine go_sl_nil tFa ?_
  refine zS 3 ?_
  refine zS 0 ?_
  refine zR 1 ?_
  refine go_ret ⟨rfl, rfl⟩ _ _ (res2 (by rfl) (.cell rfl (rdv Tk rfl)) (.cell rfl (rdv Tk rfl))) ⟨none, 0, none, 9, .ari g1' hS hA', rfl, rfl, rfl⟩ zM zM
 intro g3
 have hA' := (hA.resolve_right (fun q => by have := q.1; omega)).2
 refine zC 4 (relOf FA fc fs (by omega) (fun x hx => (hF x hx).2)) ?_
 rintro _ _ _ ⟨ba, rfl, rfl, rfl⟩
 refine zW 0 ?_
 intro b12
 refine zS 0 ?_
 refine zR 3 ?_
 refine go_draw ([cl b5 0 [.int .i64 most]]) ([pt b12 62 [.pointer (some ⟨ba, 0, none⟩)], relO ba (fof fs)]) [0, 2] (SL.pre [(2, 0), (2, 2), (0, 1), (1, 3)] .nil) mixed rfl (by kernel_rfl) ?_
 refine zK 0 ?_
 refine zK 0 ?_
 refine go_call (relLen ba (fof fs)) rfl rfl (by rfl) rfl zM zM (fun _ v Ps' Os' hq => by obtain ⟨rfl, rfl, rfl⟩ := hq; exact satS zM zM) ?_
 rintro _ _ _ ⟨rfl, rfl, rfl⟩
 refine zD 2 ?_ ?_
 ·intro g4
  refine go_sl_nil tFa ?_
  refine zS 2 ?_
  refine zS 0 ?_
  refine zE 1 [6, 7] ?_
  refine go_ret ⟨rfl, rfl⟩ _ _ (res2 (by rfl) (.cell rfl (rdv Tk rfl)) (.cell rfl (rdv Tk rfl))) ⟨none, 0, none, 6, .run g1' hS hA' (.big (by omega)), rfl, rfl, rfl⟩ zM zM
 intro g4
 have hfN : ((fof fs).length : Int) ≤ most := by omega
 have hNf : ∀ x ∈ fof fs, x.ok ∧ x.a.length ≤ 100000 := fun x hx => hF x (mem_fof.1 hx)
 have hst : ∀ s ∈ (ss.map (clausesAt l)), ∀ c ∈ s, c.ok := fun s hs c hc => hl c (st_mem s hs c hc)
 refine zC 6 (modelLevels l LA lc ss SA sc) ?_
 rintro _ _ _ ⟨bL, bS, rfl, rfl, rfl⟩
 refine go_relR1 (b := ba) zM ?_
 refine go_fold [pt b12 62 [.pointer (some ⟨ba, 0, none⟩)], relR (some ⟨ba, 0, none⟩) (some (fof fs)), pt b9 30 [.int .i64 0], pt b6 23 [.slice none 0 0], pt b7 30 [.int .i64 0]] (modO b12 b9 b6 b7 (ss.map (clausesAt l)) most (fof fs) []) zM (fun _ _ q => ⟨(some ⟨ba, 0, none⟩, fof fs), .zero, q⟩) ?_
 refine zE 1 [5, 6, 7, 9, 12, 41] ?_
 refine zR 1 ?_
 refine go_rangeS (α := Lx) (enc := encL) (Px := (pxL (ss.map (clausesAt l)))) rfl rfl rfl (fun D => [modO b12 b9 b6 b7 (ss.map (clausesAt l)) most (fof fs) D]) (fun D => [modX b6 b7 (ss.map (clausesAt l)) most (fof fs)]) ([]) ([]) zM zM ([cl bL 0 [.slice LA l.length lc], cl bS 0 [.slice SA ss.length sc], sl tCl LA lc l, sl (tSl (tInt .i64)) SA sc (ss.map cs)]) zM (fun ys => ys.map (·.1) = (ss.map (clausesAt l))) (fun ys => True) (fun ly R St hY => (levels1 ly bL bS R St l LA lc ss SA sc hY hss hsl)) (X := Lx) (fun y => [(13, .slice y.2.1 y.1.length y.2.2)]) [(5, .pointer (some ⟨b5, 0, none⟩)), (6, .pointer (some ⟨b6, 0, none⟩)), (7, .pointer (some ⟨b7, 0, none⟩)), (9, .pointer (some ⟨b9, 0, none⟩)), (12, .pointer (some ⟨b12, 0, none⟩))] (fun pre x y => [modO b12 b9 b6 b7 (ss.map (clausesAt l)) most (fof fs) pre]) (fun _ x y => y = x) (fun ly pre x w0' hp0' hf0' => ?_) (fun ly pre x y hyx w0' hp0' hf0' => ?_) (fun D ys hdj1 hys => ?_) (fun D ys hdj1 hys => ?_)
 ·skip
  refine zR 3 ?_
  refine zz x rfl (by decide)
 ·skip
  subst hyx
  refine go_pand (fun hxa => ?_)
  obtain ⟨hk, hst1⟩ := List.getElem?_eq_some_iff.1 hxa
  have hxm : y.1 ∈ (ss.map (clausesAt l)) := List.mem_of_getElem? hxa
  refine go_mod zM (fun p M hU => ?_)
  refine go_relRs zM (fun bq hA => ?_); subst hA
  refine go_freeze_rel (b := bq) zM ?_
  refine go_ent (relN (some ⟨bq, 0, none⟩) (M)) (fun hh hps => relN_some (hps (relP bq (M)) zM)) ?_
  have hMl := hU.len hfN
  refine zL 4 ?_
  refine zL 0 ?_
  refine zC 0 (fixLeast y.1 y.2.1 y.2.2 (some ⟨bq, 0, none⟩) M most (fun c hc => hst _ hxm c hc) (hU.fine hst hNf) (hU.rises (rises_fof _)) hm (fun c hc F R new h => hbig c (st_mem _ hxm c hc) F R M new h) (by omega)) ?_
  rintro _ _ _ ⟨r2, n2, e2, p2, hL2, rfl, rfl, rfl⟩
  refine zS 4 ?_
  refine zS 0 ?_
  refine zL 3 ?_
  refine zE 2 [6, 7, 9, 52] ?_
  refine zN' 0 ?_ ?_
  ·intro g5
   obtain ⟨B, rfl⟩ := hL2.good g5
   subst g5
   have hS2 := stg_least hL2
   refine zR 2 ?_
   refine go_fold [pt b12 62 [.pointer p2], relR p2 (some B), pt b9 30 [.int .i64 0], pt b6 23 [.slice none 0 0], pt b7 30 [.int .i64 0]] (modO b12 b9 b6 b7 (ss.map (clausesAt l)) most (fof fs) (pre ++ [y])) zM (fun _ _ q => ⟨(p2, B), by show Upto _ _ _ (pre ++ [y]).length B; rw [List.length_append]; exact .succ hU hk (hst1 ▸ hS2), q⟩) ?_
   refine go_back () trivial zM zM trivial (by decide)
  intro g5
  obtain rfl := hL2.bad g5
  have hS2 := stg_least hL2
  refine zR 1 ?_
  refine go_draw ([]) ([pt b9 30 [.int .i64 e2], pt b6 23 [.slice none 0 0], pt b7 30 [.int .i64 0]]) [0] (SL.pre [(2, 0), (0, 1), (0, 2)] .nil) mixed rfl (by kernel_rfl) ?_
  refine zK 0 ?_
  refine go_store Tk rfl rfl rfl rfl rfl rfl zM rfl rfl (by rfl) (fun _ => satA) ?_
  refine zS 0 ?_
  refine zR 1 ?_
  refine go_fold [pt b6 23 [.slice none 0 0], pt b7 30 [.int .i64 e2]] (modX b6 b7 (ss.map (clausesAt l)) most (fof fs)) zM (fun _ _ q => ⟨e2, ⟨pre.length, M, hk, hU, hst1 ▸ hS2⟩, q⟩) ?_
  refine go_stop zM
 ·skip
  refine go_mod zM (fun p M hU => ?_)
  have hyl : ys.length = (ss.map (clausesAt l)).length := by rw [← hys, List.length_map]
  rw [hyl] at hU
  have hMl := hU.len hfN
  refine go_relRs zM (fun bq hA => ?_); subst hA
  refine go_freeze_rel (b := bq) zM ?_
  refine go_ent (relN (some ⟨bq, 0, none⟩) (M)) (fun hh hps => relN_some (hps (relP bq (M)) zM)) ?_
  refine zL 3 ?_
  refine zC 0 (relListN (some ⟨bq, 0, none⟩) M (by omega) (fun x hx => (hU.fine hst hNf x hx).2)) ?_
  rintro _ _ _ ⟨A9, k9, rfl, rfl, rfl⟩
  refine go_freeze_dl (T := tFa) (A := A9) zM ?_
  refine zS 0 ?_
  refine zS 0 ?_
  refine zR 1 ?_
  refine go_retN (.mark .base hdj1) ⟨rfl, rfl⟩ _ _ (res2 (by rfl) (.cell rfl (rdv Tk rfl)) (.cell rfl (rdv Tk rfl))) ⟨A9, k9, some M, 0, .run g1' hS hA' (.ok hfN hU), rfl, rfl, rfl⟩ zM zM
 ·skip
  refine go_modX zM (fun e2 k2 A2 hk2 hU2 hS2 => ?_)
  refine go_sl_nil tFa ?_
  refine go_retN (.mark .base hdj1) ⟨rfl, rfl⟩ _ _ (res2 (by rfl) (.cell rfl (rdv Tk rfl)) (.cell rfl (rdv Tk rfl))) ⟨none, 0, none, e2, .run g1' hS hA' (.bad hfN hU2 hk2 hS2), rfl, rfl, rfl⟩ zM zM
end Go.Proofs.YtmomkfedcmogmaaGreat.SL
namespace Go.Proofs.YtmomkfedcmogmaaGreat.SL
open Go
abbrev few14P (l : List Cl) (a : List Fa) : Prop := l.length ≤ 20 ∧ a.length ≤ 30 ∧ few11 l a = true ∧ ∀ c ∈ l, smallC c 60 = true
def few14 (l : List Cl) (a : List Fa) : Bool := decide (few14P l a)
theorem few14_no {l : List Cl} {a : List Fa} (h : ¬ few14P l a) : few14 l a = false := decide_eq_false h
theorem few14_yes {l : List Cl} {a : List Fa} (h : few14P l a) : few14 l a = true := decide_eq_true h
theorem few14_of {l : List Cl} {a : List Fa} (h : few14 l a = true) : few14P l a := of_decide_eq_true h
theorem small60 {c : Cl} (h : smallC c 60 = true) {F R N : List Fa} {new : Bool} {n : Nat} (hF : F.length ≤ n) (hn : 1 ≤ n) : (goL c F R N c.b ch0 new).length ≤ n ^ 3 := by
  refine Nat.le_trans (goL_len _ _ _ _ _ _ _) ?_
  unfold smallC at h
  rw [decide_eq_true_eq] at h
  have hp : pos c.b ≤ 3 := by omega
  show F.length ^ pos c.b ≤ _
  exact Nat.le_trans (Nat.pow_le_pow_left hF _) (Nat.pow_le_pow_right hn hp)
theorem big14 {l : List Cl} {a : List Fa} (h : few14P l a) {most : Int} (hm : most ≤ 80) (N : List Fa) : ∀ c ∈ l, ∀ (F R : List Fa) (new : Bool), (F.length : Int) ≤ most → (goL c F R N c.b ch0 new).length ≤ 50000000 := fun c hc F R new hF =>
  Nat.le_trans (small60 (h.2.2.2 c hc) (n := 80) (by omega) (by omega)) (by decide)
theorem law14Few (l : List Cl) (LA : Option Addr) (lc : Nat) (a : List Fa) (A : Option Addr) (k : Nat) :
    Spec Tryz.prog 6 #[.slice LA l.length lc, .slice A a.length k] [sl tCl LA lc l, sl tFa A k a] [] (fun v Ps' Os' => v = .bool (few14 l a) ∧ Ps' = [] ∧ Os' = []) := by
 refine zSp _ Tryz.func6 Tryz.ntmps6 (fun _ _ _ => ?_)
 refine zR 6 ?_
 refine go_len (xs := l) zM (fun l0 m0 => ?_)
 refine go_len (xs := a) zM (fun l1 m1 => ?_)
 refine zG 5 9 ?_ ?_
 ·intro g1
  (try simp only [dcs, ne_eq] at g1)
  refine zE 11 [0, 19] ?_
  refine zDt 0 ?_
  refine zT 4 rfl ⟨by first | rw [few14_no (l := l) (a := a) (fun h => by have h1 := h.1; have h2 := h.2.1; have h3 := h.2.2.1; first | omega | exact absurd (g3.symm.trans h3) (by decide) | exact absurd (g4.symm.trans (h.2.2.2 l[j] (List.getElem_mem _))) (by decide))] | rw [few14_yes (l := l) (a := a) ⟨by omega, by omega, g3, by rw [List.take_of_length_le (by omega)] at hz; exact hz⟩], rfl, rfl⟩
 intro g1
 (try simp only [dcs, ne_eq] at g1)
 refine zG 5 14 ?_ ?_
 ·intro g2
  (try simp only [dcs, ne_eq] at g2)
  refine zE 6 [0, 19] ?_
  refine zDt 0 ?_
  refine zT 4 rfl ⟨by first | rw [few14_no (l := l) (a := a) (fun h => by have h1 := h.1; have h2 := h.2.1; have h3 := h.2.2.1; first | omega | exact absurd (g3.symm.trans h3) (by decide) | exact absurd (g4.symm.trans (h.2.2.2 l[j] (List.getElem_mem _))) (by decide))] | rw [few14_yes (l := l) (a := a) ⟨by omega, by omega, g3, by rw [List.take_of_length_le (by omega)] at hz; exact hz⟩], rfl, rfl⟩
 intro g2
 (try simp only [dcs, ne_eq] at g2)
 refine zC3 2 (law11Few LA lc l A k a) ?_
 refine zE 3 [0, 19] ?_
 refine zB 0 ?_ ?_
 ·intro g3
  (try simp only [dcs, ne_eq] at g3)
  refine zT 4 rfl ⟨by first | rw [few14_no (l := l) (a := a) (fun h => by have h1 := h.1; have h2 := h.2.1; have h3 := h.2.2.1; first | omega | exact absurd (g3.symm.trans h3) (by decide) | exact absurd (g4.symm.trans (h.2.2.2 l[j] (List.getElem_mem _))) (by decide))] | rw [few14_yes (l := l) (a := a) ⟨by omega, by omega, g3, by rw [List.take_of_length_le (by omega)] at hz; exact hz⟩], rfl, rfl⟩
 intro g3
 (try simp only [dcs, ne_eq] at g3)
 refine zR 7 ?_
 refine zO (X := Nat) (fun j => [(5, .int .i64 (j : Int))]) [0] (fun _ => []) (fun j => j ≤ l.length ∧ ∀ c ∈ l.take j, smallC c 60 = true) (fun j => l.length - j) 0 ⟨by omega, by simp⟩ ?_
 intro j ⟨hj, hz⟩
 refine zD' 8 ?_ ?_
 ·intro hq1
  refine zT 5 rfl ⟨by first | rw [few14_no (l := l) (a := a) (fun h => by have h1 := h.1; have h2 := h.2.1; have h3 := h.2.2.1; first | omega | exact absurd (g3.symm.trans h3) (by decide) | exact absurd (g4.symm.trans (h.2.2.2 l[j] (List.getElem_mem _))) (by decide))] | rw [few14_yes (l := l) (a := a) ⟨by omega, by omega, g3, by rw [List.take_of_length_le (by omega)] at hz; exact hz⟩], rfl, rfl⟩
 intro hq1
 refine zR 4 ?_
 refine go_elem_cl (xs := l) zM (j) (List.getElem?_eq_getElem (by omega)) (fun b1 o1 A1 c1 B1 d1 hA => ?_); cases hA
 refine zI 3 ?_
 refine zL 0 ?_
 refine zC3 0 (law13Small l[j] A1 c1 B1 d1 60) ?_
 refine zB' 2 ?_ ?_
 ·intro g4
  (try simp only [dcs, ne_eq] at g4)
  refine zR 7 ?_
  refine zi 5 ?_
  refine zz (j + 1) (⟨by omega, mem_take_next (by omega) hz g4⟩) (by omega)
 intro g4
 (try simp only [dcs, ne_eq] at g4)
 refine zE 4 [4] ?_
 refine zT 0 rfl ⟨by first | rw [few14_no (l := l) (a := a) (fun h => by have h1 := h.1; have h2 := h.2.1; have h3 := h.2.2.1; first | omega | exact absurd (g3.symm.trans h3) (by decide) | exact absurd (g4.symm.trans (h.2.2.2 l[j] (List.getElem_mem _))) (by decide))] | rw [few14_yes (l := l) (a := a) ⟨by omega, by omega, g3, by rw [List.take_of_length_le (by omega)] at hz; exact hz⟩], rfl, rfl⟩
theorem ref13right (c : Cl) (CA : Option Addr) (cc : Nat) (CB : Option Addr) (cd : Nat) (hb : c.b.length ≤ 1000) :
    Spec Tryz.prog 77 #[.agg #[.int .u32 c.h.p, .slice CA c.h.a.length cc, .slice CB c.b.length cd]] [sl tTm CA cc c.h.a, sl tLi CB cd c.b] [] (fun v Ps' Os' => v = .bool (decide ((rightC [c]).2 = 0)) ∧ Ps' = [] ∧ Os' = []) := by
 refine zSp _ Tryz.func77 Tryz.ntmps77 (fun _ _ _ => ?_)
 refine zX 2 ?_
 intro bC
 refine zR 2 ?_
 refine go_freeze_pt (b := bC) zM ?_
 refine zL 2 ?_
 refine zV 0 ?_
 intro bs
 refine go_lit tCl (b := bs) [c] zM (fun hp a => ⟨[.int .u32 c.h.p, .slice CA c.h.a.length cc, .slice CB c.b.length cd], [], rfl, tCl_mk (a (sl tTm CA cc c.h.a) zM) (a (sl tLi CB cd c.b) zM), rfl⟩) (by simp) ?_
 refine zC3 0 (ref11Right (some ⟨bs, 0, none⟩) 1 [c] (fun x hx => by rw [List.mem_singleton] at hx; subst hx; exact hb)) ?_
 refine zE 12 [2] ?_
 refine zT 0 rfl ⟨rfl, rfl, rfl⟩
theorem ref13Fact (few : List Int) (is : List Bool) (hf : few.length = 16) (hi : is.length = 16) (a : Am) (AA : Option Addr) (ac : Nat) (hn : a.a.length ≤ 1000000) (hv : ∀ t ∈ a.a, t.v = true → 0 ≤ t.n ∧ t.n < 16) :
    Spec Tryz.prog 96 #[.agg (hc (few) (is) []).toArray, .agg #[.int .u32 a.p, .slice AA a.a.length ac]] [sl tTm AA ac a.a] [] (fun v Ps' Os' => ∃ A k, v = .agg #[.int .u32 (refF few a).p, .slice A (refF few a).a.length k] ∧ Ps' = [sl tU A k (refF few a).a] ∧ Os' = []) := by
 refine zSp _ Tryz.func96 Tryz.ntmps96 (fun _ _ _ => ?_)
 refine zR 2 ?_
 refine go_box (cs := hc few is []) Tk rfl rfl rfl rfl (takeL_len (hc_len hf hi)) (beq_of (hc_len hf hi)) rfl zF ?_
 intro bH
 refine zX 0 ?_
 intro bA
 refine zW 0 ?_
 intro bR
 refine zR 1 ?_
 refine go_freeze_pt (b := bH) zM ?_
 refine go_freeze_pt (b := bA) zM ?_
 refine zL 3 ?_
 refine zq 0 ?_
 refine zW 0 ?_
 intro bO
 refine zS 0 ?_
 refine zR 3 ?_
 refine go_len (xs := a.a) zM (fun l0 m0 => ?_)
 refine go_own_nil tU 24 none ?_
 refine go_same (A := ol tU 24 none 0 []) (B := ol tU 24 none 0 ((a.a.take 0).map (refT few))) zM rfl ?_
 refine zR 4 ?_
 refine zO (X := Nat × Option Addr × Nat) (fun x => [(6, .int .i64 (x.1 : Int))]) [2, 3, 4, 5] (fun x => [pt bO 27 [.int .u32 a.p, .slice x.2.1 ((a.a.take x.1).map (refT few)).length x.2.2], ol tU 24 x.2.1 x.2.2 ((a.a.take x.1).map (refT few))]) (fun x => x.1 ≤ a.a.length) (fun x => a.a.length - x.1) (0, none, 0) (by omega) ?_
 intro ⟨k, A1, c1⟩ hk
 simp only at hk ⊢
 have hkl : ((a.a.take k).map (refT few)).length = k := by simp; omega
 refine zL 5 ?_
 refine zD' 3 ?_ ?_
 ·intro hq1
  refine zR 2 ?_
  have htk : a.a.take k = a.a := List.take_of_length_le (by omega)
  rw [htk]
  refine go_freeze_ol (xs := a.a.map (refT few)) zM ?_
  refine zL 1 ?_
  refine zS 0 ?_
  refine zR 1 ?_
  refine go_ret ⟨rfl, rfl⟩ _ _ (res1 (by rfl) (.cell rfl (rdv Tk rfl))) ⟨A1, c1, rfl, rfl, rfl⟩ zM zM
 intro hq1
 refine zR 4 ?_
 refine go_elem_tm (xs := a.a) zM (k) (List.getElem?_eq_getElem (by omega)) (fun b1 o1 hA => ?_); cases hA
 refine zL 2 ?_
 refine zI 1 ?_
 refine zL 1 ?_
 refine zL 6 ?_
 refine zI 1 ?_
 refine zL 1 ?_
 refine zE 1 [2, 3, 4, 5, 6, 7, 29] ?_
 refine zB' 0 ?_ ?_
 ·intro g1
  (try simp only [dcs, ne_eq] at g1)
  refine zR 1 ?_
  refine go_re 7 (.int .u32 (refT few a.a[k])) (by show some (Value.int _ _) = _; first | rfl | rw [show refT few a.a[k] = a.a[k].n from by unfold refT; rw [if_neg (by rw [g1]; decide)]]) ?_
  refine zL 2 ?_
  refine zV 1 ?_
  intro b2
  refine go_append1 (T := tU) (xs := ((a.a.take k).map (refT few))) Tk (refT few a.a[k]) rfl rfl rfl rfl rfl rfl rfl rfl rfl zM zM rfl ent_int (by omega) zH ?_
  intro A3 c3
  refine zS 1 ?_
  refine zR 7 ?_
  refine zi 6 ?_
  rw [show ((a.a.take k).map (refT few)) ++ [_] = (a.a.take (k + 1)).map (refT few) from by rw [List.take_succ_eq_append_getElem (by omega), List.map_append, List.map_cons]; rfl]
  refine zz (k + 1, A3, c3) (by show k + 1 ≤ _; omega) (by show a.a.length - (k + 1) < a.a.length - k; omega)
 intro g1
 (try simp only [dcs, ne_eq] at g1)
 obtain ⟨j, hj, hj16⟩ : ∃ j : Nat, a.a[k].n = (j : Int) ∧ j < 16 := ⟨a.a[k].n.toNat, by have := hv _ (List.getElem_mem _) g1; omega, by have := hv _ (List.getElem_mem _) g1; omega⟩
 refine zR 2 ?_
 refine go_re 30 (.int .u32 (j : Int)) (by show some (Value.int _ _) = _; rw [hj]) ?_
 refine zIA 1 ?_
 refine go_val0 rfl (load_val (cs := [.int .u32 few[j]]) Tk rfl rfl rfl (at_cl1 zM j (by show 0 + 0 + j * 1 = _; omega) (hc_few (by omega) rfl)) rfl) rfl ?_
 refine zR 1 ?_
 refine go_re 7 (.int .u32 (refT few a.a[k])) (by show some (Value.int _ _) = _; rw [show refT few a.a[k] = few[j] from by unfold refT; rw [if_pos g1, hj, Int.toNat_natCast, List.getElem?_eq_getElem (by omega)]; rfl]) ?_
 refine zR 1 ?_
 refine go_re 7 (.int .u32 (refT few a.a[k])) (by show some (Value.int _ _) = _; first | rfl | rw [show refT few a.a[k] = a.a[k].n from by unfold refT; rw [if_neg (by rw [g1]; decide)]]) ?_
 refine zL 2 ?_
 refine zV 1 ?_
 intro b1
 refine go_append1 (T := tU) (xs := ((a.a.take k).map (refT few))) Tk (refT few a.a[k]) rfl rfl rfl rfl rfl rfl rfl rfl rfl zM zM rfl ent_int (by omega) zH ?_
 intro A3 c3
 refine zS 1 ?_
 refine zE 1 [2, 3, 4, 5, 6] ?_
 refine zR 6 ?_
 refine zi 6 ?_
 rw [show ((a.a.take k).map (refT few)) ++ [_] = (a.a.take (k + 1)).map (refT few) from by rw [List.take_succ_eq_append_getElem (by omega), List.map_append, List.map_cons]; rfl]
 refine zz (k + 1, A3, c3) (by show k + 1 ≤ _; omega) (by show a.a.length - (k + 1) < a.a.length - k; omega)
theorem ref13meet (few : List Int) (is : List Bool) (hf : few.length = 16) (hi : is.length = 16) (a : Am) (AA : Option Addr) (ac : Nat) (f : Fa) (FA : Option Addr) (fc : Nat) (hv : vok a) :
    Spec Tryz.prog 97 #[.agg (hc (few) (is) []).toArray, .agg #[.int .u32 a.p, .slice AA a.a.length ac], .agg #[.int .u32 f.p, .slice FA f.a.length fc]] [sl tTm AA ac a.a, sl tU FA fc f.a] [] (fun v Ps' Os' => ∃ ch : Ch, v = .tuple #[.agg (hc ch.1 ch.2 []).toArray, .bool (mtch (putA few is a) f)] ∧ ch.ok ∧ (mtch (putA few is a) f = true → ch = meetL f.a (few, is) a.a 0) ∧ Ps' = [] ∧ Os' = []) := by
 refine zSp _ Tryz.func97 Tryz.ntmps97 (fun _ _ _ => ?_)
 refine zR 2 ?_
 refine go_box (cs := hc few is []) Tk rfl rfl rfl rfl (takeL_len (hc_len hf hi)) (beq_of (hc_len hf hi)) rfl zF ?_
 intro bC
 refine zX 0 ?_
 intro bA
 refine zX 0 ?_
 intro bF
 refine zW 0 ?_
 intro bR
 refine zR 2 ?_
 refine go_freeze_pt (b := bA) zM ?_
 refine go_freeze_pt (b := bF) zM ?_
 refine zR 2 ?_
 refine go_len (xs := a.a) zM (fun l0 m0 => ?_)
 refine go_len (xs := f.a) zM (fun l1 m1 => ?_)
 refine zL 2 ?_
 refine zL 1 ?_
 refine zG 2 15 ?_ ?_
 ·intro g1
  (try simp only [dcs, ne_eq] at g1)
  have hmt : mtch (putA few is a) f = false := mtch_shape (c := (few, is)) (.inl g1)
  refine zE 9 [3, 4, 5, 6, 23] ?_
  refine zDt 0 ?_
  refine zR 2 ?_
  refine go_val0 rfl (load_val (cs := hc few is []) Tk rfl rfl rfl (at_all zM (hc_len hf hi)) rfl) rfl ?_
  refine go_store (cs' := hc few is []) Tk rfl rfl rfl rfl rfl rfl zM (beq_of (hc_len hf hi)) (hc_one _ _) (putL_whole (by rw [show (cellsL (.agg (hc few is []).toArray)).length = 32 from hc_len hf hi]; rfl)) zF ?_
  refine zR 2 ?_
  refine go_ret ⟨rfl, rfl⟩ _ _ (res2 (by rfl) (.cell rfl (reads_at Tk rfl (at_all zM (by first | exact hc_len hf hi | exact hc_len hf1 hi1)) (by rfl))) (.tmp rfl)) ((by first | exact ⟨(few, is), congrArg (fun b => Value.tuple #[.agg (hc few is []).toArray, .bool b]) hmt.symm, ⟨hf, hi⟩, fun q => absurd (hmt.symm.trans q) (by decide), rfl, rfl⟩ | exact ⟨(f1, i1), congrArg (fun b => Value.tuple #[.agg (hc f1 i1 []).toArray, .bool b]) hmt.symm, ⟨hf1, hi1⟩, fun q => absurd (hmt.symm.trans q) (by decide), rfl, rfl⟩ | exact ⟨(f1, i1), congrArg (fun b => Value.tuple #[.agg (hc f1 i1 []).toArray, .bool b]) (soFar.end_ (c0 := (few, is)) (c := (f1, i1)) hv (by rw [show a.a.length = k from by omega]; exact hsf) (by omega) hln).symm, ⟨hf1, hi1⟩, fun _ => by rw [hz, List.drop_eq_nil_of_le (by omega)]; rfl, rfl, rfl⟩)) zM zM
 intro g1
 (try simp only [dcs, ne_eq] at g1)
 refine zL 1 ?_
 refine zL 2 ?_
 refine zE 4 [3, 4, 5, 6, 23] ?_
 refine zB 0 ?_ ?_
 ·intro g2
  (try simp only [dcs, ne_eq] at g2)
  have hmt : mtch (putA few is a) f = false := mtch_shape (c := (few, is)) (by first | exact .inl g1 | exact .inr (by omega))
  refine zR 2 ?_
  refine go_val0 rfl (load_val (cs := hc few is []) Tk rfl rfl rfl (at_all zM (hc_len hf hi)) rfl) rfl ?_
  refine go_store (cs' := hc few is []) Tk rfl rfl rfl rfl rfl rfl zM (beq_of (hc_len hf hi)) (hc_one _ _) (putL_whole (by rw [show (cellsL (.agg (hc few is []).toArray)).length = 32 from hc_len hf hi]; rfl)) zF ?_
  refine zR 2 ?_
  refine go_ret ⟨rfl, rfl⟩ _ _ (res2 (by rfl) (.cell rfl (reads_at Tk rfl (at_all zM (by first | exact hc_len hf hi | exact hc_len hf1 hi1)) (by rfl))) (.tmp rfl)) ((by first | exact ⟨(few, is), congrArg (fun b => Value.tuple #[.agg (hc few is []).toArray, .bool b]) hmt.symm, ⟨hf, hi⟩, fun q => absurd (hmt.symm.trans q) (by decide), rfl, rfl⟩ | exact ⟨(f1, i1), congrArg (fun b => Value.tuple #[.agg (hc f1 i1 []).toArray, .bool b]) hmt.symm, ⟨hf1, hi1⟩, fun q => absurd (hmt.symm.trans q) (by decide), rfl, rfl⟩ | exact ⟨(f1, i1), congrArg (fun b => Value.tuple #[.agg (hc f1 i1 []).toArray, .bool b]) (soFar.end_ (c0 := (few, is)) (c := (f1, i1)) hv (by rw [show a.a.length = k from by omega]; exact hsf) (by omega) hln).symm, ⟨hf1, hi1⟩, fun _ => by rw [hz, List.drop_eq_nil_of_le (by omega)]; rfl, rfl, rfl⟩)) zM zM
 intro g2
 (try simp only [dcs, ne_eq] at g2)
 have hln : a.a.length = f.a.length := by omega
 refine zR 7 ?_
 refine zO (X := Nat × List Int × List Bool) (fun z => [(8, .int .i64 (z.1 : Int))]) [3, 4, 5, 6] (fun z => [pt bC 134 (hc z.2.1 z.2.2 [])]) (fun z => z.1 ≤ a.a.length ∧ z.2.1.length = 16 ∧ z.2.2.length = 16 ∧ meetL f.a (few, is) a.a 0 = meetL f.a z.2 (a.a.drop z.1) z.1 ∧ soFar (few, is) z.2 a f z.1) (fun z => a.a.length - z.1) (0, few, is) ⟨by omega, hf, hi, rfl, soFar.zero _ _ _⟩ ?_
 intro ⟨k, f1, i1⟩ ⟨hk, hf1, hi1, hz, hsf⟩
 simp only at hk hf1 hi1 hz hsf ⊢
 refine zL 5 ?_
 refine zD' 3 ?_ ?_
 ·intro hq1
  refine zR 3 ?_
  refine go_val0 rfl (load_val (cs := hc f1 i1 []) Tk rfl rfl rfl (at_all zM (hc_len hf1 hi1)) rfl) rfl ?_
  refine go_store (cs' := hc f1 i1 []) Tk rfl rfl rfl rfl rfl rfl zM (beq_of (hc_len hf1 hi1)) (hc_one _ _) (putL_whole (by rw [show (cellsL (.agg (hc f1 i1 []).toArray)).length = 32 from hc_len hf1 hi1]; rfl)) zF ?_
  refine zR 2 ?_
  refine go_ret ⟨rfl, rfl⟩ _ _ (res2 (by rfl) (.cell rfl (reads_at Tk rfl (at_all zM (by first | exact hc_len hf hi | exact hc_len hf1 hi1)) (by rfl))) (.tmp rfl)) ((by first | exact ⟨(few, is), congrArg (fun b => Value.tuple #[.agg (hc few is []).toArray, .bool b]) hmt.symm, ⟨hf, hi⟩, fun q => absurd (hmt.symm.trans q) (by decide), rfl, rfl⟩ | exact ⟨(f1, i1), congrArg (fun b => Value.tuple #[.agg (hc f1 i1 []).toArray, .bool b]) hmt.symm, ⟨hf1, hi1⟩, fun q => absurd (hmt.symm.trans q) (by decide), rfl, rfl⟩ | exact ⟨(f1, i1), congrArg (fun b => Value.tuple #[.agg (hc f1 i1 []).toArray, .bool b]) (soFar.end_ (c0 := (few, is)) (c := (f1, i1)) hv (by rw [show a.a.length = k from by omega]; exact hsf) (by omega) hln).symm, ⟨hf1, hi1⟩, fun _ => by rw [hz, List.drop_eq_nil_of_le (by omega)]; rfl, rfl, rfl⟩)) zM zM
 intro hq1
 refine zR 4 ?_
 refine go_elem_tm (xs := a.a) zM (k) (List.getElem?_eq_getElem (by omega)) (fun b1 o1 hA => ?_); cases hA
 refine go_elem_int (xs := f.a) zM (k) (List.getElem?_eq_getElem (by omega)) (fun b2 o2 hA => ?_); cases hA
 refine zL 2 ?_
 refine zI 1 ?_
 refine zL 0 ?_
 refine zW 0 ?_
 intro bT
 refine zS 0 ?_
 refine zR 1 ?_
 refine go_freeze_pt (b := bT) zM ?_
 refine zL 4 ?_
 refine zE 2 [3, 4, 5, 6, 8, 9, 39] ?_
 refine zB 0 ?_ ?_
 ·intro g3
  (try simp only [dcs, ne_eq] at g3)
  refine zR 2 ?_
  refine go_draw ([cl bT 0 [.bool a.a[k].v, .int .u32 a.a[k].n], cl bF 0 [.int .u32 f.p, .slice (some ⟨b2, o2, none⟩) f.a.length fc], cl b2 (o2 + k * 1) [.int .u32 f.a[k]]]) ([]) [1, 3, 6] (SL.pre [(1, 0), (1, 2), (1, 4), (2, 1), (2, 3), (1, 5), (2, 6), (1, 7)] .nil) mixed rfl (by kernel_rfl) ?_
  refine zK 3 ?_
  refine zK 0 ?_
  refine zI 0 ?_
  refine zK 0 ?_
  refine zN' 2 ?_ ?_
  ·intro g4
   refine zR 7 ?_
   refine zi 8 ?_
   refine zz (k + 1, f1, i1) ⟨by show k + 1 ≤ _; omega, hf1, hi1, by rw [hz, List.drop_eq_getElem_cons (by omega), meetL, if_neg (by rw [g3]; decide)], hsf.same (by omega) (by omega) g3 g4⟩ (by show a.a.length - (k + 1) < a.a.length - k; omega)
  intro g4
  have hmt : mtch (putA few is a) f = false := soFar.no1 (c0 := (few, is)) (c := (few, is)) hv (by omega) (by omega) g3 g4
  refine zR 2 ?_
  refine go_val0 rfl (load_val (cs := hc f1 i1 []) Tk rfl rfl rfl (at_all zM (hc_len hf1 hi1)) rfl) rfl ?_
  refine go_store (cs' := hc f1 i1 []) Tk rfl rfl rfl rfl rfl rfl zM (beq_of (hc_len hf1 hi1)) (hc_one _ _) (putL_whole (by rw [show (cellsL (.agg (hc f1 i1 []).toArray)).length = 32 from hc_len hf1 hi1]; rfl)) zF ?_
  refine zE 2 [6, 7] ?_
  refine go_ret ⟨rfl, rfl⟩ _ _ (res2 (by rfl) (.cell rfl (reads_at Tk rfl (at_all zM (by first | exact hc_len hf hi | exact hc_len hf1 hi1)) (by rfl))) (.tmp rfl)) ((by first | exact ⟨(few, is), congrArg (fun b => Value.tuple #[.agg (hc few is []).toArray, .bool b]) hmt.symm, ⟨hf, hi⟩, fun q => absurd (hmt.symm.trans q) (by decide), rfl, rfl⟩ | exact ⟨(f1, i1), congrArg (fun b => Value.tuple #[.agg (hc f1 i1 []).toArray, .bool b]) hmt.symm, ⟨hf1, hi1⟩, fun q => absurd (hmt.symm.trans q) (by decide), rfl, rfl⟩ | exact ⟨(f1, i1), congrArg (fun b => Value.tuple #[.agg (hc f1 i1 []).toArray, .bool b]) (soFar.end_ (c0 := (few, is)) (c := (f1, i1)) hv (by rw [show a.a.length = k from by omega]; exact hsf) (by omega) hln).symm, ⟨hf1, hi1⟩, fun _ => by rw [hz, List.drop_eq_nil_of_le (by omega)]; rfl, rfl, rfl⟩)) zM zM
 intro g3
 (try simp only [dcs, ne_eq] at g3)
 obtain ⟨j, hj, hj16⟩ : ∃ j : Nat, a.a[k].n = (j : Int) ∧ j < 16 := ⟨a.a[k].n.toNat, by have := hv _ (List.getElem_mem _) g3; omega, by have := hv _ (List.getElem_mem _) g3; omega⟩
 refine zR 3 ?_
 refine go_draw ([cl bT 0 [.bool a.a[k].v, .int .u32 a.a[k].n], cl bF 0 [.int .u32 f.p, .slice (some ⟨b2, o2, none⟩) f.a.length fc], cl b2 (o2 + k * 1) [.int .u32 f.a[k]]]) ([pt bC 134 (hc f1 i1 [])]) [1, 4, 7, 10, 12, 15] (SL.pre [(1, 0), (1, 2), (2, 1), (1, 3), (2, 4), (1, 5), (1, 6), (1, 8), (1, 11), (1, 13), (2, 7), (1, 9), (2, 10), (2, 12), (1, 14), (2, 15), (1, 16), (1, 17)] .nil) mixed rfl (by kernel_rfl) ?_
 refine zK 2 ?_
 refine go_re 50 (.int .u32 (j : Int)) (by show some (Value.int _ _) = _; rw [hj]) ?_
 refine zIA 0 ?_
 refine go_val2a rfl (load_val (cs := [.bool i1[j]]) Tk rfl rfl rfl (at_one zM (hc_is (by omega) (by show 0 + 16 + j * 1 = _; omega))) rfl) rfl ?_
 refine zG' 1 54 ?_ ?_
 ·intro g5
  (try simp only [dcs, ne_eq] at g5)
  refine zJ 4 ?_
  refine zJ 1 ?_
  refine zJ 0 ?_
  refine zJ 1 ?_
  refine zDf 3 ?_
  refine zL 4 ?_
  refine go_re 69 (.int .u32 (j : Int)) (by show some (Value.int _ _) = _; rw [hj]) ?_
  refine zIA 1 ?_
  refine go_store Tk rfl rfl rfl rfl rfl rfl zM rfl rfl (hc_put_is (j := j) (by omega) (by show 0 + 16 + j * 1 = _; omega)) zF ?_
  refine zE 1 [3, 4, 5, 6, 8, 9, 55, 56, 57, 58, 59, 60, 61, 62, 63, 64, 65] ?_
  refine go_draw ([cl bT 0 [.bool a.a[k].v, .int .u32 a.a[k].n], cl bF 0 [.int .u32 f.p, .slice (some ⟨b2, o2, none⟩) f.a.length fc], cl b2 (o2 + k * 1) [.int .u32 f.a[k]]]) ([]) [1, 3, 6] (SL.pre [(1, 0), (1, 2), (1, 4), (1, 7), (2, 1), (2, 3), (1, 5), (2, 6), (1, 8), (0, 9)] .nil) mixed rfl (by kernel_rfl) ?_
  refine zK 4 ?_
  refine go_re 73 (.int .u32 (j : Int)) (by show some (Value.int _ _) = _; rw [hj]) ?_
  refine zK 0 ?_
  refine zI 0 ?_
  refine zK 0 ?_
  refine zIA 0 ?_
  refine go_store Tk rfl rfl rfl rfl rfl rfl zM rfl rfl (hc_put_few (j := j) (by omega) (by show 0 + 0 + j * 1 = j; omega)) (by first | exact (fun _ => satA) | exact zF | exact zQ) ?_
  refine zR 7 ?_
  refine zi 8 ?_
  refine zz (k + 1, f1.set j f.a[k], i1.set j true) ⟨by show k + 1 ≤ _; omega, by simpa using hf1, by simpa using hi1, by rw [hz, List.drop_eq_getElem_cons (by omega), meetL, if_pos g3, hj, Int.toNat_natCast, List.getElem?_eq_getElem (by omega)]; rfl, hsf.set ⟨hf1, hi1⟩ (by omega) (by omega) g3 hj hj16 (by first | exact .inr (show f1[j]? = _ by rw [List.getElem?_eq_getElem (by omega), g6]) | exact .inl (show i1[j]? = _ by rw [List.getElem?_eq_getElem (by omega), g5]))⟩ (by show a.a.length - (k + 1) < a.a.length - k; omega)
 intro g5
 (try simp only [dcs, ne_eq] at g5)
 refine zK 4 ?_
 refine go_re 56 (.int .u32 (j : Int)) (by show some (Value.int _ _) = _; rw [hj]) ?_
 refine zIA 0 ?_
 refine go_val2a rfl (load_val (cs := [.int .u32 f1[j]]) Tk rfl rfl rfl (at_one zM (hc_few (by omega) (by show 0 + 0 + j * 1 = j; omega))) rfl) rfl ?_
 refine zK 0 ?_
 refine zI 0 ?_
 refine zK 0 ?_
 refine zB 3 ?_ ?_
 ·intro g6
  (try simp only [dcs, ne_eq] at g6)
  have hmt : mtch (putA few is a) f = false := soFar.no2 hv hsf (by omega) (by omega) g3 hj (show i1[j]? = some true by rw [List.getElem?_eq_getElem (by omega), g5]) (show f1[j]? = some f1[j] from List.getElem?_eq_getElem (by omega)) g6
  refine zR 2 ?_
  refine go_val0 rfl (load_val (cs := hc f1 i1 []) Tk rfl rfl rfl (at_all zM (hc_len hf1 hi1)) rfl) rfl ?_
  refine go_store (cs' := hc f1 i1 []) Tk rfl rfl rfl rfl rfl rfl zM (beq_of (hc_len hf1 hi1)) (hc_one _ _) (putL_whole (by rw [show (cellsL (.agg (hc f1 i1 []).toArray)).length = 32 from hc_len hf1 hi1]; rfl)) zF ?_
  refine zE 2 [6, 7] ?_
  refine go_ret ⟨rfl, rfl⟩ _ _ (res2 (by rfl) (.cell rfl (reads_at Tk rfl (at_all zM (by first | exact hc_len hf hi | exact hc_len hf1 hi1)) (by rfl))) (.tmp rfl)) ((by first | exact ⟨(few, is), congrArg (fun b => Value.tuple #[.agg (hc few is []).toArray, .bool b]) hmt.symm, ⟨hf, hi⟩, fun q => absurd (hmt.symm.trans q) (by decide), rfl, rfl⟩ | exact ⟨(f1, i1), congrArg (fun b => Value.tuple #[.agg (hc f1 i1 []).toArray, .bool b]) hmt.symm, ⟨hf1, hi1⟩, fun q => absurd (hmt.symm.trans q) (by decide), rfl, rfl⟩ | exact ⟨(f1, i1), congrArg (fun b => Value.tuple #[.agg (hc f1 i1 []).toArray, .bool b]) (soFar.end_ (c0 := (few, is)) (c := (f1, i1)) hv (by rw [show a.a.length = k from by omega]; exact hsf) (by omega) hln).symm, ⟨hf1, hi1⟩, fun _ => by rw [hz, List.drop_eq_nil_of_le (by omega)]; rfl, rfl, rfl⟩)) zM zM
 intro g6
 (try simp only [dcs, ne_eq] at g6)
 refine zL 4 ?_
 refine go_re 69 (.int .u32 (j : Int)) (by show some (Value.int _ _) = _; rw [hj]) ?_
 refine zIA 1 ?_
 refine go_store Tk rfl rfl rfl rfl rfl rfl zM rfl rfl (hc_put_is (j := j) (by omega) (by show 0 + 16 + j * 1 = _; omega)) zF ?_
 refine zE 1 [3, 4, 5, 6, 8, 9, 55, 56, 57, 58, 59, 60, 61, 62, 63, 64, 65] ?_
 refine go_draw ([cl bT 0 [.bool a.a[k].v, .int .u32 a.a[k].n], cl bF 0 [.int .u32 f.p, .slice (some ⟨b2, o2, none⟩) f.a.length fc], cl b2 (o2 + k * 1) [.int .u32 f.a[k]]]) ([]) [1, 3, 6] (SL.pre [(1, 0), (1, 2), (1, 4), (1, 7), (2, 1), (2, 3), (1, 5), (2, 6), (1, 8), (0, 9)] .nil) mixed rfl (by kernel_rfl) ?_
 refine zK 4 ?_
 refine go_re 73 (.int .u32 (j : Int)) (by show some (Value.int _ _) = _; rw [hj]) ?_
 refine zK 0 ?_
 refine zI 0 ?_
 refine zK 0 ?_
 refine zIA 0 ?_
 refine go_store Tk rfl rfl rfl rfl rfl rfl zM rfl rfl (hc_put_few (j := j) (by omega) (by show 0 + 0 + j * 1 = j; omega)) (by first | exact (fun _ => satA) | exact zF | exact zQ) ?_
 refine zR 7 ?_
 refine zi 8 ?_
 refine zz (k + 1, f1.set j f.a[k], i1.set j true) ⟨by show k + 1 ≤ _; omega, by simpa using hf1, by simpa using hi1, by rw [hz, List.drop_eq_getElem_cons (by omega), meetL, if_pos g3, hj, Int.toNat_natCast, List.getElem?_eq_getElem (by omega)]; rfl, hsf.set ⟨hf1, hi1⟩ (by omega) (by omega) g3 hj hj16 (by first | exact .inr (show f1[j]? = _ by rw [List.getElem?_eq_getElem (by omega), g6]) | exact .inl (show i1[j]? = _ by rw [List.getElem?_eq_getElem (by omega), g5]))⟩ (by show a.a.length - (k + 1) < a.a.length - k; omega)
def finO (bX : Nat) (c : Cl) (CA : Option Addr) (cc : Nat) (CB : Option Addr) (cd : Nat) (F : List Fa) (FA : Option Addr) (fc : Nat) (R : List Fa) (RA : Option Addr) (rc : Nat) (N : List Fa) (NA : Option Addr) (nc : Nat) (out : List Fa) : OA :=
  OA.ex fun A : Option Addr => OA.ex fun k : Nat => OA.pa (sl tFa A k out) (pt bX 129 [.int .u32 c.h.p, .slice CA c.h.a.length cc, .slice CB c.b.length cd, .slice FA F.length fc, .slice RA R.length rc, .slice NA N.length nc, .slice A (out).length k])
theorem go_fin {C : Ctx} {k : List It} {E : Env} {Ps : List PA} {Os : List OA} {bX : Nat} {c : Cl} {CA : Option Addr} {cc : Nat} {CB : Option Addr} {cd : Nat} {F : List Fa} {FA : Option Addr} {fc : Nat} {R : List Fa} {RA : Option Addr} {rc : Nat} {N : List Fa} {NA : Option Addr} {nc : Nat} {out : List Fa} {rr : List OA}
    (h : Rem (finO bX c CA cc CB cd F FA fc R RA rc N NA nc out) Os rr) (g : ∀ (A : Option Addr) (j : Nat), Go C k E (sl tFa A j out :: Ps) (pt bX 129 [.int .u32 c.h.p, .slice CA c.h.a.length cc, .slice CB c.b.length cd, .slice FA F.length fc, .slice RA R.length rc, .slice NA N.length nc, .slice A (out).length j] :: rr)) : Go C k E Ps Os :=
  go_oex h fun A => go_oex .here fun j => go_opa .here (g A j)
theorem go_finfold {C : Ctx} {k : List It} {E : Env} {Ps : List PA} {Os : List OA} {bX : Nat} {c : Cl} {CA : Option Addr} {cc : Nat} {CB : Option Addr} {cd : Nat} {F : List Fa} {FA : Option Addr} {fc : Nat} {R : List Fa} {RA : Option Addr} {rc : Nat} {N : List Fa} {NA : Option Addr} {nc : Nat} {out : List Fa} {A : Option Addr} {j : Nat} {rr : List OA}
    (h : Rem (pt bX 129 [.int .u32 c.h.p, .slice CA c.h.a.length cc, .slice CB c.b.length cd, .slice FA F.length fc, .slice RA R.length rc, .slice NA N.length nc, .slice A (out).length j]) Os rr) (hs : Subs Ps [sl tFa A j out]) (g : Go C k E Ps (finO bX c CA cc CB cd F FA fc R RA rc N NA nc out :: rr)) : Go C k E Ps Os :=
  go_foldp [sl tFa A j out] [pt bX 129 [.int .u32 c.h.p, .slice CA c.h.a.length cc, .slice CB c.b.length cd, .slice FA F.length fc, .slice RA R.length rc, .slice NA N.length nc, .slice A (out).length j]] (finO bX c CA cc CB cd F FA fc R RA rc N NA nc out) hs (.cons h .nil) (fun hp h hq q => ⟨A, j, hq _ (.head _), by obtain ⟨g1, g2, g3, _, _, g6, _⟩ := q; exact g3 _ _ g6⟩) g
theorem go_finsame {C : Ctx} {k : List It} {E : Env} {Ps : List PA} {Os : List OA} {bX : Nat} {c : Cl} {CA : Option Addr} {cc : Nat} {CB : Option Addr} {cd : Nat} {F : List Fa} {FA : Option Addr} {fc : Nat} {R : List Fa} {RA : Option Addr} {rc : Nat} {N : List Fa} {NA : Option Addr} {nc : Nat} {out out' : List Fa} {rr : List OA}
    (h : Rem (finO bX c CA cc CB cd F FA fc R RA rc N NA nc out) Os rr) (e : out = out') (g : Go C k E Ps (finO bX c CA cc CB cd F FA fc R RA rc N NA nc out' :: rr)) : Go C k E Ps Os := by
  subst e; exact go_imp _ [_] h (fun _ _ q => sep_one q) g
set_option maxHeartbeats 4000000 in
theorem refFrom1 (c : Cl) (CA : Option Addr) (cc : Nat) (CB : Option Addr) (cd : Nat) (bX : Nat) (F : List Fa) (FA : Option Addr) (fc : Nat) (R : List Fa) (RA : Option Addr) (rc : Nat) (N : List Fa) (NA : Option Addr) (nc : Nat) (hR : RightC c) (hl : c.b.length ≤ 8) (lh : c.h.a.length ≤ 12) (lb : ∀ l ∈ c.b, l.a.a.length ≤ 12) (i : Nat) (few : List Int) (is : List Bool) (new : Bool) (out : List Fa) (hil : i ≤ c.b.length) (hf : few.length = 16) (hi : is.length = 16) (hd : domTo c (c.b.drop (i)) (few, is)) (ho : rises out) (hlen : out.length + (goL c F R N (c.b.drop (i)) (few, is) new).length ≤ 50000000) (ih : i < c.b.length → ∀ (few : List Int) (is : List Bool) (new : Bool) (out : List Fa) (hil : i + 1 ≤ c.b.length) (hf : few.length = 16) (hi : is.length = 16) (hd : domTo c (c.b.drop (i + 1)) (few, is)) (ho : rises out) (hlen : out.length + (goL c F R N (c.b.drop (i + 1)) (few, is) new).length ≤ 50000000), Spec Tryz.prog 78 #[.pointer (some ⟨bX, 0, none⟩), .int .i64 ((i + 1 : Nat) : Int), .agg (hc (few) (is) []).toArray, .bool (new)] [sl tTm CA cc c.h.a, sl tLi CB cd c.b, sl tFa FA fc F, sl tFa RA rc R, sl tFa NA nc N] [finO bX c CA cc CB cd F FA fc R RA rc N NA nc (out)] (fun v Ps' Os' => v = .tuple #[] ∧ Ps' = [] ∧ Os' = [finO bX c CA cc CB cd F FA fc R RA rc N NA nc ((goL c F R N (c.b.drop (i + 1)) (few, is) (new)).foldl fput (out))])) :
    Spec Tryz.prog 78 #[.pointer (some ⟨bX, 0, none⟩), .int .i64 (i : Int), .agg (hc (few) (is) []).toArray, .bool (new)] [sl tTm CA cc c.h.a, sl tLi CB cd c.b, sl tFa FA fc F, sl tFa RA rc R, sl tFa NA nc N] [finO bX c CA cc CB cd F FA fc R RA rc N NA nc (out)] (fun v Ps' Os' => v = .tuple #[] ∧ Ps' = [] ∧ Os' = [finO bX c CA cc CB cd F FA fc R RA rc N NA nc ((goL c F R N (c.b.drop (i)) (few, is) (new)).foldl fput (out))]) := by
 refine zSp _ Tryz.func78 Tryz.ntmps78 (fun _ _ _ => ?_)
 refine zR 2 ?_
 refine go_box (cs := hc few is []) Tk rfl rfl rfl rfl (takeL_len (hc_len hf hi)) (beq_of (hc_len hf hi)) rfl zF ?_
 intro bH
 refine go_freeze_pt (b := bH) zM ?_
 refine zR 3 ?_
 refine go_len (xs := c.b) zM (fun l0 m0 => ?_)
 refine go_len (xs := F) zM (fun l1 m1 => ?_)
 refine go_fin (bX := bX) zM (fun A9 k9 => ?_)
 refine zL 6 ?_
 refine zD 3 ?_ ?_
 ·intro g0
  have hgo := goL_end (F := F) (R := R) (N := N) (show c.b.length ≤ i by omega) (few, is) new
  rw [hgo] at hlen
  have hda := hd.all (by omega)
  have hrn : ∀ l ∈ c.b, l.no = true → refF few l.a = ofA (putA few is l.a) := fun l hl e => (refF_eq (c := (few, is)) (hR.vb l hl) (fun t ht et => hda _ (hR.heldN l hl e t ht et))).symm
  have hrh : refF few c.h = ofA (putA few is c.h) := (refF_eq (c := (few, is)) hR.vh (fun t ht et => hda _ (hR.held t ht et))).symm
  refine zR 6 ?_
  refine zO (X := Nat) (fun k => [(8, .int .i64 (k : Int))]) [0, 3, 6] (fun _ => []) (fun k => k ≤ c.b.length ∧ ∀ l ∈ c.b.take k, ¬ (l.no = true ∧ ofA (putA few is l.a) ∈ N)) (fun k => c.b.length - k) 0 ⟨by omega, by simp⟩ ?_
  intro k ⟨hk, hz⟩
  refine zL 8 ?_
  refine zD' 3 ?_ ?_
  ·intro hq1
   refine zB' 6 ?_ ?_
   ·intro g3
    (try simp only [dcs, ne_eq] at g3)
    rw [if_neg (fun q => by rw [g3] at q; cases q.2)] at hgo
    refine go_finfold (c := c) (F := F) (R := R) (N := N) (out := out) zM zM ?_
    refine zT 1 rfl ⟨rfl, rfl, by rw [hgo]⟩
   intro g3
   (try simp only [dcs, ne_eq] at g3)
   have hok : okN N c.b (few, is) = true := okN_yes (by omega) hz
   rw [if_pos ⟨hok, g3⟩, List.length_singleton] at hlen
   refine go_draw ([cl bH 0 (hc few is [])]) ([pt bX 129 [.int .u32 c.h.p, .slice CA c.h.a.length cc, .slice CB c.b.length cd, .slice FA F.length fc, .slice RA R.length rc, .slice NA N.length nc, .slice A9 (out).length k9]]) [4, 5, 10] (SL.pre [(1, 0), (1, 1), (1, 2), (1, 3), (1, 6), (1, 7), (1, 8), (1, 9), (2, 4), (2, 5), (2, 10), (0, 11), (0, 12), (1, 13), (1, 14), (0, 15)] .nil) mixed rfl (by kernel_rfl) ?_
   refine zK 8 ?_
   refine go_val2a rfl (load_val (cs := hc few is []) Tk rfl rfl rfl (at_allcl zM (hc_len hf hi)) rfl) rfl ?_
   refine zK 0 ?_
   refine go_call (ref13Fact few is hf hi c.h CA cc (by omega) hR.vh) rfl rfl (by rfl) rfl zM zM (fun _ v Ps' Os' hq => by obtain ⟨A6, c6, rfl, rfl, rfl⟩ := hq; exact satS zM zM) ?_
   rintro _ _ _ ⟨A6, c6, rfl, rfl, rfl⟩
   rw [hrh]
   refine zC 0 (ref13With A9 k9 out (ofA (putA few is c.h)) A6 c6 ho (by omega)) ?_
   rintro _ _ _ ⟨A7, c7, rfl, rfl, rfl⟩
   refine zS 2 ?_
   refine zR 1 ?_
   refine go_finfold (c := c) (F := F) (R := R) (N := N) (out := fput out (ofA (putA few is c.h))) zM zM ?_
   refine zE 0 [] ?_
   refine zT 0 rfl ⟨rfl, rfl, by rw [hgo, if_pos ⟨hok, g3⟩]⟩
  intro hq1
  refine zR 4 ?_
  refine go_elem_li (xs := c.b) zM (k) (List.getElem?_eq_getElem (by omega)) (fun b1 o1 A2 c2 hA => ?_); cases hA
  refine go_draw ([cl b1 (o1 + k * 3) [.bool c.b[k].no, .int .u32 c.b[k].a.p, .slice A2 c.b[k].a.a.length c2], cl bH 0 (hc few is [])]) ([pt bX 129 [.int .u32 c.h.p, .slice CA c.h.a.length cc, .slice (some ⟨b1, o1, none⟩) c.b.length cd, .slice FA F.length fc, .slice RA R.length rc, .slice NA N.length nc, .slice A9 (out).length k9]]) [4, 8, 13, 14, 19, 23] (SL.pre [(1, 0), (1, 1), (1, 2), (1, 3), (1, 5), (2, 4), (1, 6), (1, 7), (2, 8), (1, 9), (1, 10), (1, 11), (1, 12), (1, 15), (1, 16), (1, 17), (1, 18), (1, 20), (2, 13), (2, 14), (2, 19), (1, 21), (1, 22), (2, 23), (0, 24), (0, 25), (1, 26)] .nil) mixed rfl (by kernel_rfl) ?_
  refine zK 5 ?_
  refine zI 0 ?_
  refine zK 1 ?_
  refine zG' 1 39 ?_ ?_
  ·intro g1
   (try simp only [dcs, ne_eq] at g1)
   have hkz : ¬ (c.b[k].no = true ∧ ofA (putA few is c.b[k].a) ∈ N) := fun q => absurd (g1.symm.trans q.1) (by decide)
   refine zJ 8 ?_
   refine zJ 0 ?_
   refine zJ 0 ?_
   refine zJ 2 ?_
   refine go_skip0f rfl satA rfl ?_
   refine zE 3 [0, 3, 6, 8, 40, 41, 42, 43, 44, 45, 46, 47, 48, 49, 50, 51, 52, 53, 54, 55, 56] ?_
   refine zDf 0 ?_
   refine zR 7 ?_
   refine zi 8 ?_
   refine zz (k + 1) (⟨by omega, mem_take_next (by omega) hz hkz⟩) (by omega)
  intro g1
  (try simp only [dcs, ne_eq] at g1)
  refine zK 8 ?_
  refine go_val2a rfl (load_val (cs := hc few is []) Tk rfl rfl rfl (at_allcl zM (hc_len hf hi)) rfl) rfl ?_
  refine zK 0 ?_
  refine zI 0 ?_
  refine zK 1 ?_
  refine go_call (ref13Fact few is hf hi c.b[k].a A2 c2 (by have := lb c.b[k] (List.getElem_mem _); omega) (hR.vb c.b[k] (List.getElem_mem _))) rfl rfl (by rfl) rfl zM zM (fun _ v Ps' Os' hq => by obtain ⟨A5, c5, rfl, rfl, rfl⟩ := hq; exact satS zM zM) ?_
  rintro _ _ _ ⟨A5, c5, rfl, rfl, rfl⟩
  rw [hrn _ (List.getElem_mem (by omega)) g1]
  refine zC3 0 (ref13Has NA nc N (ofA (putA few is c.b[k].a)) A5 c5) ?_
  refine zE 2 [0, 3, 6, 8, 40, 41, 42, 43, 44, 45, 46, 47, 48, 49, 50, 51, 52, 53, 54, 55, 56] ?_
  refine zB 0 ?_ ?_
  ·intro g2
   (try simp only [dcs, ne_eq] at g2)
   refine go_finfold (c := c) (F := F) (R := R) (N := N) (out := out) zM zM ?_
   refine zT 0 rfl ⟨rfl, rfl, by rw [hgo, if_neg (fun q => by rw [okN_no (c := (few, is)) (by omega) g1 g2] at q; cases q.1)]⟩
  intro g2
  (try simp only [dcs, ne_eq] at g2)
  have hkz : ¬ (c.b[k].no = true ∧ ofA (putA few is c.b[k].a) ∈ N) := fun q => g2 q.2
  refine zR 7 ?_
  refine zi 8 ?_
  refine zz (k + 1) (⟨by omega, mem_take_next (by omega) hz hkz⟩) (by omega)
 intro g0
 refine zR 3 ?_
 refine go_elem_li (xs := c.b) zM (i) (List.getElem?_eq_getElem (by omega)) (fun b1 o1 A2 c2 hA => ?_); cases hA
 have hvl := hR.vb c.b[i] (List.getElem_mem _)
 refine zL 5 ?_
 refine zI 1 ?_
 refine zL 1 ?_
 refine zE 1 [0, 1, 3, 6, 81] ?_
 refine zB 0 ?_ ?_
 ·intro g1
  (try simp only [dcs, ne_eq] at g1)
  have hgo := goL_not (F := F) (R := R) (N := N) (by omega) g1 (few, is) new
  rw [hgo] at hlen
  refine go_finfold (c := c) (F := F) (R := R) (N := N) (out := out) zM zM ?_
  refine zR 5 ?_
  refine go_re 84 (.int .i64 ((i + 1 : Nat) : Int)) (by show some (Value.int _ _) = _; rw [wrap_i64 (by omega) (by omega)]; rfl) ?_
  refine go_val0 rfl (load_val (cs := hc few is []) Tk rfl rfl rfl (at_allcl zM (hc_len hf hi)) rfl) rfl ?_
  refine zC3 1 (ih (by omega) few is new out (by omega) hf hi (hd.not (by omega) g1) ho hlen) ?_
  refine zT 1 rfl ⟨rfl, rfl, by rw [hgo]⟩
 intro g1
 (try simp only [dcs, ne_eq] at g1)
 have hgo := goL_yes (F := F) (R := R) (N := N) (by omega) g1 few is new
 rw [flat_filter] at hgo
 rw [hgo] at hlen
 refine zR 2 ?_
 refine go_finfold (c := c) (F := F) (R := R) (N := N) (out := out) zM zM ?_
 refine go_finsame (out' := ((F.take (0)).flatMap (fun f => if mtch (putA few is c.b[i].a) f = true then goF c F R N i few is new f else [])).foldl fput out) zM (by rfl) ?_
 refine zR 4 ?_
 refine zO (X := Nat) (fun k => [(9, .int .i64 (k : Int))]) [0, 1, 3, 6] (fun k => [finO bX c CA cc (some ⟨b1, o1, none⟩) cd F FA fc R RA rc N NA nc (((F.take (k)).flatMap (fun f => if mtch (putA few is c.b[i].a) f = true then goF c F R N i few is new f else [])).foldl fput out)]) (fun k => k ≤ F.length) (fun k => F.length - k) 0 (by omega) ?_
 intro k hk
 refine go_fin (bX := bX) zM (fun A8 k8 => ?_)
 refine zL 7 ?_
 refine zD' 3 ?_ ?_
 ·intro g4
  refine go_finfold (c := c) (F := F) (R := R) (N := N) (out := ((F.take (k)).flatMap (fun f => if mtch (putA few is c.b[i].a) f = true then goF c F R N i few is new f else [])).foldl fput out) zM zM ?_
  refine go_finsame (out' := (F.flatMap (fun f => if mtch (putA few is c.b[i].a) f = true then goF c F R N i few is new f else [])).foldl fput out) zM (by rw [List.take_of_length_le (by omega)]) ?_
  refine zT 1 rfl ⟨rfl, rfl, by rw [hgo]⟩
 intro g4
 refine zR 4 ?_
 refine zU (X := Nat × Ch) (fun x => [(10, .pointer (some ⟨x.1, 0, none⟩)), (11, .bool (mtch (putA few is c.b[i].a) F[k]))]) [0, 1, 3, 6, 9] (fun x => [pt x.1 134 (hc x.2.1 x.2.2 []), pt bX 129 [.int .u32 c.h.p, .slice CA c.h.a.length cc, .slice (some ⟨b1, o1, none⟩) c.b.length cd, .slice FA F.length fc, .slice RA R.length rc, .slice NA N.length nc, .slice A8 (((F.take (k)).flatMap (fun f => if mtch (putA few is c.b[i].a) f = true then goF c F R N i few is new f else [])).foldl fput out).length k8]]) ([pt bX 129 [.int .u32 c.h.p, .slice CA c.h.a.length cc, .slice (some ⟨b1, o1, none⟩) c.b.length cd, .slice FA F.length fc, .slice RA R.length rc, .slice NA N.length nc, .slice A8 (((F.take (k)).flatMap (fun f => if mtch (putA few is c.b[i].a) f = true then goF c F R N i few is new f else [])).foldl fput out).length k8]]) (fun x => x.2.ok ∧ (mtch (putA few is c.b[i].a) F[k] = true → x.2 = meetL F[k].a (few, is) c.b[i].a.a 0)) ?_ ?_
 ·skip
  refine go_elem_fa (xs := F) zM (k) (List.getElem?_eq_getElem (by omega)) (fun b3 o3 A3 c3 hA => ?_); cases hA
  refine go_draw ([cl bH 0 (hc few is []), cl b1 (o1 + i * 3) [.bool c.b[i].no, .int .u32 c.b[i].a.p, .slice A2 c.b[i].a.a.length c2], cl b3 (o3 + k * 2) [.int .u32 F[k].p, .slice A3 F[k].a.length c3]]) ([pt bX 129 [.int .u32 c.h.p, .slice CA c.h.a.length cc, .slice (some ⟨b1, o1, none⟩) c.b.length cd, .slice (some ⟨b3, o3, none⟩) F.length fc, .slice RA R.length rc, .slice NA N.length nc, .slice A8 (((F.take (k)).flatMap (fun f => if mtch (putA few is c.b[i].a) f = true then goF c F R N i few is new f else [])).foldl fput out).length k8]]) [0, 5, 9, 13, 16] (SL.pre [(1, 1), (1, 2), (1, 3), (1, 4), (1, 6), (1, 10), (1, 11), (1, 12), (1, 14), (2, 0), (2, 5), (1, 7), (1, 8), (2, 9), (2, 13), (1, 15), (2, 16)] (.two (SL.pre [(0, 17), (1, 18), (1, 19), (1, 20), (0, 21), (0, 22), (1, 23)] .nil) (SL.pre [(0, 21), (0, 17), (1, 18), (1, 19), (1, 20), (0, 22), (1, 23)] .nil))) mixed rfl (by kernel_rfl) ?_
  refine zR 9 ?_
  refine go_val2a rfl (load_val (cs := hc few is []) Tk rfl rfl rfl (at_allcl zM (hc_len hf hi)) rfl) rfl ?_
  refine zK 0 ?_
  refine zI 0 ?_
  refine zK 1 ?_
  refine zK 0 ?_
  refine zI 0 ?_
  refine zK 0 ?_
  refine go_two ?_ ?_
  ·skip
   refine zC 0 (ref13meet few is hf hi c.b[i].a A2 c2 F[k] A3 c3 hvl) ?_
   rintro _ _ _ ⟨ch, rfl, hco, hcm, rfl, rfl⟩
   refine zR 3 ?_
   refine go_alloc Tk rfl rfl rfl (by rfl) rfl rfl (fun _ _ => satA) ?_
   intro bD
   refine go_store (cs' := hc ch.1 ch.2 []) Tk rfl rfl rfl rfl rfl rfl zM (beq_of (hc_len hco.f hco.i)) (hc_one _ _) (putL_whole (by rw [show (cellsL (.agg (hc ch.1 ch.2 []).toArray)).length = 32 from hc_len hco.f hco.i]; rfl)) (by first | exact (fun _ => satA) | exact zF | exact zQ) ?_
   refine zR 2 ?_
   refine zz (bD, ch) ⟨hco, hcm⟩ (by decide)
  refine go_alloc Tk rfl rfl rfl (by rfl) rfl rfl (fun _ _ => satA) ?_
  intro bD
  refine zC 0 (ref13meet few is hf hi c.b[i].a A2 c2 F[k] A3 c3 hvl) ?_
  rintro _ _ _ ⟨ch, rfl, hco, hcm, rfl, rfl⟩
  refine zR 3 ?_
  refine go_store (cs' := hc ch.1 ch.2 []) Tk rfl rfl rfl rfl rfl rfl zM (beq_of (hc_len hco.f hco.i)) (hc_one _ _) (putL_whole (by rw [show (cellsL (.agg (hc ch.1 ch.2 []).toArray)).length = 32 from hc_len hco.f hco.i]; rfl)) (by first | exact (fun _ => satA) | exact zF | exact zQ) ?_
  refine zR 2 ?_
  refine zz (bD, ch) ⟨hco, hcm⟩ (by decide)
 intro ⟨bD, ch⟩ ⟨hco, hcm⟩
 simp only at hco hcm ⊢
 refine go_freeze_pt (b := bD) zM ?_
 refine zB' 4 ?_ ?_
 ·intro g2
  (try simp only [dcs, ne_eq] at g2)
  refine zR 7 ?_
  refine go_finfold (c := c) (F := F) (R := R) (N := N) (out := ((F.take (k)).flatMap (fun f => if mtch (putA few is c.b[i].a) f = true then goF c F R N i few is new f else [])).foldl fput out) zM zM ?_
  refine zi 9 ?_
  refine go_finsame (out' := ((F.take (k + 1)).flatMap (fun f => if mtch (putA few is c.b[i].a) f = true then goF c F R N i few is new f else [])).foldl fput out) zM (by rw [flat_next (by omega), if_neg (by rw [g2]; decide), List.append_nil]) ?_
  refine zz (k + 1) (by omega) (by omega)
 intro g2
 (try simp only [dcs, ne_eq] at g2)
 have hce := hcm g2
 subst hce
 refine go_elem_fa (xs := F) zM (k) (List.getElem?_eq_getElem (by omega)) (fun b3 o3 A3 c3 hA => ?_); cases hA
 refine go_draw ([cl bD 0 (hc (meetL F[k].a (few, is) c.b[i].a.a 0).1 (meetL F[k].a (few, is) c.b[i].a.a 0).2 []), cl b3 (o3 + k * 2) [.int .u32 F[k].p, .slice A3 F[k].a.length c3]]) ([pt bX 129 [.int .u32 c.h.p, .slice CA c.h.a.length cc, .slice (some ⟨b1, o1, none⟩) c.b.length cd, .slice (some ⟨b3, o3, none⟩) F.length fc, .slice RA R.length rc, .slice NA N.length nc, .slice A8 (((F.take (k)).flatMap (fun f => if mtch (putA few is c.b[i].a) f = true then goF c F R N i few is new f else [])).foldl fput out).length k8]]) [3, 9, 13, 16] (SL.pre [(1, 0), (1, 1), (1, 2), (1, 4), (1, 5), (1, 6), (1, 7), (1, 8), (1, 10), (1, 11), (1, 12), (1, 14), (2, 3), (2, 9), (2, 13), (1, 15), (2, 16), (0, 17), (1, 18), (0, 19)] .nil) mixed rfl (by kernel_rfl) ?_
 refine zR 3 ?_
 refine go_re 121 (.int .i64 ((i + 1 : Nat) : Int)) (by show some (Value.int _ _) = _; rw [wrap_i64 (by omega) (by omega)]; rfl) ?_
 refine zG 2 124 ?_ ?_
 ·intro g5
  (try simp only [dcs, ne_eq] at g5)
  refine zR 7 ?_
  refine go_val2a rfl (load_val (cs := hc (meetL F[k].a (few, is) c.b[i].a.a 0).1 (meetL F[k].a (few, is) c.b[i].a.a 0).2 []) Tk rfl rfl rfl (at_allcl zM (hc_len hco.f hco.i)) rfl) rfl ?_
  refine zJ 0 ?_
  refine zJ 0 ?_
  refine zJ 1 ?_
  refine go_skip0f rfl satA rfl ?_
  refine zR 1 ?_
  refine go_re 137 (.bool (new || decide (F[k] ∈ R))) (by show some (Value.bool _) = _; rw [g5]; simp) ?_
  have hfg : goF c F R N i few is new F[k] = goL c F R N (c.b.drop (i + 1)) (meetL F[k].a (few, is) c.b[i].a.a 0) (new || decide (F[k] ∈ R)) := by
    unfold goF
    rw [List.getElem?_eq_getElem (by omega)]; rfl
  have hfl := flat_len (show k < F.length by omega) (fun f => if mtch (putA few is c.b[i].a) f = true then goF c F R N i few is new f else [])
  rw [if_pos g2, hfg] at hfl
  have hol := foldl_flen ((F.take k).flatMap (fun f => if mtch (putA few is c.b[i].a) f = true then goF c F R N i few is new f else [])) out
  refine go_finfold (c := c) (F := F) (R := R) (N := N) (out := ((F.take (k)).flatMap (fun f => if mtch (putA few is c.b[i].a) f = true then goF c F R N i few is new f else [])).foldl fput out) zM zM ?_
  refine zC3 0 (ih (by omega) (meetL F[k].a (few, is) c.b[i].a.a 0).1 (meetL F[k].a (few, is) c.b[i].a.a 0).2 (new || decide (F[k] ∈ R)) (((F.take (k)).flatMap (fun f => if mtch (putA few is c.b[i].a) f = true then goF c F R N i few is new f else [])).foldl fput out) (by omega) hco.f hco.i (hd.yes (by omega) hvl ⟨hf, hi⟩ F[k].a) (foldl_rises _ _ ho) (by show _ + (goL c F R N (c.b.drop (i + 1)) (meetL F[k].a (few, is) c.b[i].a.a 0) (new || decide (F[k] ∈ R))).length ≤ _; omega)) ?_
  refine zR 7 ?_
  refine zi 9 ?_
  refine go_finsame (out' := ((F.take (k + 1)).flatMap (fun f => if mtch (putA few is c.b[i].a) f = true then goF c F R N i few is new f else [])).foldl fput out) zM (by rw [flat_next (by omega), List.foldl_append, if_pos g2, hfg]) ?_
  refine zz (k + 1) (by omega) (by omega)
 intro g5
 (try simp only [dcs, ne_eq] at g5)
 refine zR 7 ?_
 refine go_val2a rfl (load_val (cs := hc (meetL F[k].a (few, is) c.b[i].a.a 0).1 (meetL F[k].a (few, is) c.b[i].a.a 0).2 []) Tk rfl rfl rfl (at_allcl zM (hc_len hco.f hco.i)) rfl) rfl ?_
 refine zK 0 ?_
 refine zK 0 ?_
 refine zI 0 ?_
 refine zK 0 ?_
 refine go_call (ref13Has RA rc R F[k] A3 c3) rfl rfl (by rfl) rfl zM zM (fun _ v Ps' Os' hq => by obtain ⟨rfl, rfl, rfl⟩ := hq; exact satS zM zM) ?_
 rintro _ _ _ ⟨rfl, rfl, rfl⟩
 refine zR 1 ?_
 refine go_re 137 (.bool (new || decide (F[k] ∈ R))) (by show some (Value.bool _) = _; rw [g5]; simp) ?_
 have hfg : goF c F R N i few is new F[k] = goL c F R N (c.b.drop (i + 1)) (meetL F[k].a (few, is) c.b[i].a.a 0) (new || decide (F[k] ∈ R)) := by
   unfold goF
   rw [List.getElem?_eq_getElem (by omega)]; rfl
 have hfl := flat_len (show k < F.length by omega) (fun f => if mtch (putA few is c.b[i].a) f = true then goF c F R N i few is new f else [])
 rw [if_pos g2, hfg] at hfl
 have hol := foldl_flen ((F.take k).flatMap (fun f => if mtch (putA few is c.b[i].a) f = true then goF c F R N i few is new f else [])) out
 refine go_finfold (c := c) (F := F) (R := R) (N := N) (out := ((F.take (k)).flatMap (fun f => if mtch (putA few is c.b[i].a) f = true then goF c F R N i few is new f else [])).foldl fput out) zM zM ?_
 refine zC3 0 (ih (by omega) (meetL F[k].a (few, is) c.b[i].a.a 0).1 (meetL F[k].a (few, is) c.b[i].a.a 0).2 (new || decide (F[k] ∈ R)) (((F.take (k)).flatMap (fun f => if mtch (putA few is c.b[i].a) f = true then goF c F R N i few is new f else [])).foldl fput out) (by omega) hco.f hco.i (hd.yes (by omega) hvl ⟨hf, hi⟩ F[k].a) (foldl_rises _ _ ho) (by show _ + (goL c F R N (c.b.drop (i + 1)) (meetL F[k].a (few, is) c.b[i].a.a 0) (new || decide (F[k] ∈ R))).length ≤ _; omega)) ?_
 refine zR 7 ?_
 refine zi 9 ?_
 refine go_finsame (out' := ((F.take (k + 1)).flatMap (fun f => if mtch (putA few is c.b[i].a) f = true then goF c F R N i few is new f else [])).foldl fput out) zM (by rw [flat_next (by omega), List.foldl_append, if_pos g2, hfg]) ?_
 refine zz (k + 1) (by omega) (by omega)
theorem headsC_len {c : Cl} {F R N : List Fa} {some : Bool} {n : Nat} (h : (goL c F R N c.b ch0 (!some)).length ≤ n) : (headsC c F R N some).length ≤ n := by
  unfold headsC
  split
  · exact Nat.le_trans (fof_len _) h
  · simp
theorem refFrom (c : Cl) (CA : Option Addr) (cc : Nat) (CB : Option Addr) (cd : Nat) (bX : Nat) (F : List Fa) (FA : Option Addr) (fc : Nat) (R : List Fa) (RA : Option Addr) (rc : Nat) (N : List Fa) (NA : Option Addr) (nc : Nat) (hR : RightC c) (hl : c.b.length ≤ 8) (lh : c.h.a.length ≤ 12) (lb : ∀ l ∈ c.b, l.a.a.length ≤ 12) : ∀ (n i : Nat) (few : List Int) (is : List Bool) (new : Bool) (out : List Fa) (hn : c.b.length - i = n) (hil : i ≤ c.b.length) (hf : few.length = 16) (hi : is.length = 16) (hd : domTo c (c.b.drop i) (few, is)) (ho : rises out) (hlen : out.length + (goL c F R N (c.b.drop i) (few, is) new).length ≤ 50000000),
    Spec Tryz.prog 78 #[.pointer (some ⟨bX, 0, none⟩), .int .i64 (i : Int), .agg (hc (few) (is) []).toArray, .bool (new)] [sl tTm CA cc c.h.a, sl tLi CB cd c.b, sl tFa FA fc F, sl tFa RA rc R, sl tFa NA nc N] [finO bX c CA cc CB cd F FA fc R RA rc N NA nc (out)] (fun v Ps' Os' => v = .tuple #[] ∧ Ps' = [] ∧ Os' = [finO bX c CA cc CB cd F FA fc R RA rc N NA nc ((goL c F R N (c.b.drop (i)) (few, is) (new)).foldl fput (out))])
  | 0, i, few, is, new, out, hn, hil, hf, hi, hd, ho, hlen => refFrom1 c CA cc CB cd bX F FA fc R RA rc N NA nc hR hl lh lb i few is new out hil hf hi hd ho hlen (fun h => absurd h (by omega))
  | n + 1, i, few, is, new, out, hn, hil, hf, hi, hd, ho, hlen => refFrom1 c CA cc CB cd bX F FA fc R RA rc N NA nc hR hl lh lb i few is new out hil hf hi hd ho hlen (fun h few' is' new' out' h1 h2 h3 h4 h5 h6 =>
      refFrom c CA cc CB cd bX F FA fc R RA rc N NA nc hR hl lh lb n (i + 1) few' is' new' out' (by omega) h1 h2 h3 h4 h5 h6)
theorem ref13Heads (c : Cl) (CA : Option Addr) (cc : Nat) (CB : Option Addr) (cd : Nat) (F : List Fa) (FA : Option Addr) (fc : Nat) (N : List Fa) (NA : Option Addr) (nc : Nat) (hok : c.ok) (hb : c.b.length ≤ 1000) (hlen : (goL c F [] N c.b ch0 true).length ≤ 50000000) :
    Spec Tryz.prog 57 #[.agg #[.int .u32 c.h.p, .slice CA c.h.a.length cc, .slice CB c.b.length cd], .slice FA F.length fc, .slice NA N.length nc] [sl tTm CA cc c.h.a, sl tLi CB cd c.b, sl tFa FA fc F, sl tFa NA nc N] [] (fun v Ps' Os' => ∃ A k, v = .slice A (headsC c F [] N false).length k ∧ Ps' = [sl tFa A k (headsC c F [] N false)] ∧ Os' = []) := by
 refine zSp _ Tryz.func57 Tryz.ntmps57 (fun _ _ _ => ?_)
 refine zX 2 ?_
 intro bC
 refine zR 2 ?_
 refine go_freeze_pt (b := bC) zM ?_
 refine zL 3 ?_
 refine zC3 0 (ref13right c CA cc CB cd hb) ?_
 refine zB 2 ?_ ?_
 ·intro g1
  (try simp only [dcs, ne_eq] at g1)
  have hc0 : headsC c F [] N false = [] := headsC_not (by simpa using g1) _ _ _ _
  refine go_ent (sl tFa none 0 []) (fun h _ => Sl_nil tFa h) ?_
  refine zT 4 rfl ⟨none, 0, by rw [hc0]; rfl, by rw [hc0], rfl⟩
 intro g1
 (try simp only [dcs, ne_eq] at g1)
 have g1' : (rightC [c]).2 = 0 := by simpa using g1
 obtain ⟨q1, q2, q3⟩ := right_one g1'
 obtain ⟨p1, p2, p3⟩ := mayC_of q1
 have hR := right_of q1 q2 hok
 refine go_ent (sl tFa none 0 []) (fun h _ => Sl_nil tFa h) ?_
 refine zL 3 ?_
 refine zq 2 ?_
 refine zX 0 ?_
 intro bX
 refine zR 2 ?_
 refine go_finfold (c := c) (F := F) (R := []) (N := N) (out := []) zM zM ?_
 refine zE 0 [7] ?_
 refine zq 3 ?_
 refine go_re 17 (.agg (hc (List.replicate 16 0) (List.replicate 16 false) []).toArray) (by rfl) ?_
 refine zC3 0 (refFrom c CA cc CB cd bX F FA fc [] none 0 N NA nc hR p1 (Nat.le_trans (may_len6 p2) (by omega)) (fun l hl => Nat.le_trans (may_len6 (p3 l hl)) (by omega)) (c.b.length - 0) 0 (List.replicate 16 0) (List.replicate 16 false) true [] rfl (by omega) (by simp) (by simp) (domTo.start c) rises_nil (by show 0 + _ ≤ _; rw [Nat.zero_add]; exact hlen)) ?_
 refine zR 2 ?_
 refine go_finsame (out' := headsC c F [] N false) zM (by unfold headsC; rw [if_pos g1']; rfl) ?_
 refine go_fin (bX := bX) zM (fun A9 k9 => ?_)
 refine zL 4 ?_
 refine zT 2 rfl ⟨A9, k9, rfl, rfl, rfl⟩
theorem ref14right (l : List Cl) (LA : Option Addr) (lc : Nat) (hb : ∀ c ∈ l, c.b.length ≤ 1000) :
    Spec Tryz.prog 56 #[.slice LA l.length lc] [sl tCl LA lc l] [] (fun v Ps' Os' => v = .bool (fixR l) ∧ Ps' = [] ∧ Os' = []) := by
 refine zSp _ Tryz.func56 Tryz.ntmps56 (fun _ _ _ => ?_)
 refine zC3 7 (ref11Right LA lc l hb) ?_
 refine zN 12 ?_ ?_
 ·intro g1
  refine zT 4 rfl ⟨by rw [show fixR l = false from decide_eq_false (fun q => g1 q.1)], rfl, rfl⟩
 intro g1
 refine zR 3 ?_
 refine go_len (xs := l) zM (fun l0 m0 => ?_)
 refine zR 4 ?_
 refine zO (X := Nat) (fun i => [(5, .int .i64 (i : Int))]) [0] (fun _ => []) (fun i => i ≤ l.length ∧ ∀ c ∈ l.take i, ∀ x ∈ c.b, x.no = true → ∀ d ∈ l, ¬ d.h.p = x.a.p) (fun i => l.length - i) 0 ⟨by omega, by simp⟩ ?_
 intro i ⟨hi, hz⟩
 refine zD' 8 ?_ ?_
 ·intro hq1
  refine zT 5 rfl ⟨by rw [show fixR l = true from decide_eq_true ⟨by simpa using g1, fun c hc => by rw [List.take_of_length_le (by omega)] at hz; exact hz c hc⟩], rfl, rfl⟩
 intro hq1
 refine zR 4 ?_
 refine go_elem_cl (xs := l) zM (i) (List.getElem?_eq_getElem (by omega)) (fun b1 o1 A1 c1 B1 d1 hA => ?_); cases hA
 refine go_len (xs := l[i].b) zM (fun l1 m1 => ?_)
 refine zR 4 ?_
 refine zO (X := Nat) (fun j => [(6, .int .i64 (j : Int))]) [0, 5] (fun _ => []) (fun j => j ≤ l[i].b.length ∧ ∀ x ∈ l[i].b.take j, x.no = true → ∀ d ∈ l, ¬ d.h.p = x.a.p) (fun j => l[i].b.length - j) 0 ⟨by omega, by simp⟩ ?_
 intro j ⟨hj, hy⟩
 refine zI 6 ?_
 refine zL 1 ?_
 refine zD' 3 ?_ ?_
 ·intro hq2
  refine zR 7 ?_
  refine zi 5 ?_
  refine zz (i + 1) (⟨by omega, mem_take_next (by omega) hz (by rw [List.take_of_length_le (by omega)] at hy; exact hy)⟩) (by omega)
 intro hq2
 refine zR 4 ?_
 refine go_elem_li (xs := l[i].b) zM (j) (List.getElem?_eq_getElem (by omega)) (fun b3 o3 A3 c3 hA => ?_); cases hA
 refine zR 4 ?_
 refine zO (X := Nat) (fun m => [(7, .int .i64 (m : Int))]) [0, 5, 6] (fun _ => []) (fun m => m ≤ l.length ∧ (l[i].b[j].no = true → ∀ d ∈ l.take m, ¬ d.h.p = l[i].b[j].a.p)) (fun m => l.length - m) 0 ⟨by omega, by simp⟩ ?_
 intro m ⟨hm, hw⟩
 refine zG' 8 35 ?_ ?_
 ·intro g2
  (try simp only [dcs, ne_eq] at g2)
  refine zDf 11 ?_
  refine zR 7 ?_
  refine zi 6 ?_
  refine zz (j + 1) (⟨by omega, mem_take_next (by omega) hy (fun q => by first | exact absurd (g3.symm.trans q) (by decide) | (rw [List.take_of_length_le (by omega)] at hw; exact hw q))⟩) (by omega)
 intro g2
 (try simp only [dcs, ne_eq] at g2)
 refine zI 2 ?_
 refine zL 1 ?_
 refine zI 1 ?_
 refine zL 1 ?_
 refine zB' 2 ?_ ?_
 ·intro g3
  (try simp only [dcs, ne_eq] at g3)
  refine zR 7 ?_
  refine zi 6 ?_
  refine zz (j + 1) (⟨by omega, mem_take_next (by omega) hy (fun q => by first | exact absurd (g3.symm.trans q) (by decide) | (rw [List.take_of_length_le (by omega)] at hw; exact hw q))⟩) (by omega)
 intro g3
 (try simp only [dcs, ne_eq] at g3)
 refine zR 4 ?_
 refine go_elem_cl (xs := l) zM (m) (List.getElem?_eq_getElem (by omega)) (fun b4 o4 A4 c4 B4 d4 hA => ?_); cases hA
 refine go_draw ([cl b1 (o1 + m * 3) [.int .u32 l[m].h.p, .slice A4 l[m].h.a.length c4, .slice B4 l[m].b.length d4], cl b1 (o1 + i * 3) [.int .u32 l[i].h.p, .slice A1 l[i].h.a.length c1, .slice (some ⟨b3, o3, none⟩) l[i].b.length d1], cl b3 (o3 + j * 3) [.bool l[i].b[j].no, .int .u32 l[i].b[j].a.p, .slice A3 l[i].b[j].a.a.length c3]]) ([]) [5, 10, 15] (SL.pre [(1, 0), (1, 1), (1, 2), (1, 3), (1, 4), (1, 6), (1, 7), (1, 8), (1, 9), (1, 11), (2, 5), (2, 10), (1, 12), (1, 13), (1, 14), (2, 15), (1, 16)] .nil) mixed rfl (by kernel_rfl) ?_
 refine zI 2 ?_
 refine zI 4 ?_
 refine zK 2 ?_
 refine zK 0 ?_
 refine zI 0 ?_
 refine zK 2 ?_
 refine zE 2 [0, 5, 6, 7, 36, 37, 38, 39, 40, 41, 42, 43, 44, 64] ?_
 refine zD 0 ?_ ?_
 ·intro g4
  refine zE 4 [2] ?_
  refine zT 0 rfl ⟨by rw [show fixR l = false from decide_eq_false (fun q => q.2 l[i] (List.getElem_mem _) _ (List.getElem_mem _) g3 l[m] (List.getElem_mem _) g4)], rfl, rfl⟩
 intro g4
 refine zR 7 ?_
 refine zi 7 ?_
 refine zz (m + 1) (⟨by omega, fun q => mem_take_next (by omega) (hw q) g4⟩) (by omega)
theorem flatMap_le {α β : Type} {l : List α} {g : α → List β} {n : Nat} (h : ∀ x ∈ l, (g x).length ≤ n) : (l.flatMap g).length ≤ l.length * n := by
  induction l with
  | nil => simp
  | cons x l ih =>
    rw [List.flatMap_cons, List.length_append, List.length_cons, Nat.add_mul, Nat.one_mul]
    have := h x (.head _)
    have := ih fun y hy => h y (.tail _ hy)
    omega
set_option maxHeartbeats 4000000 in
theorem ref14Least (l : List Cl) (LA : Option Addr) (lc : Nat) (a : List Fa) (A : Option Addr) (ka : Nat) (most : Int) (hl : ∀ c ∈ l, c.ok) (hb : ∀ c ∈ l, c.b.length ≤ 1000) (hll : l.length ≤ 20) (ha : a.length ≤ 60) (hm : most ≤ 60) (hbig : ∀ c ∈ l, ∀ F : List Fa, F.length ≤ 60 → (goL c F [] (fof a) c.b ch0 true).length ≤ 216000) :
    Spec Tryz.prog 35 #[.slice LA l.length lc, .slice A a.length ka, .int .i64 most] [sl tCl LA lc l, sl tFa A ka a] [] (fun v Ps' Os' => ∃ b e A' k', RefL l (fof a) most b e ∧ v = .tuple #[.slice A' b.length k', .int .i64 e] ∧ Ps' = [sl tFa A' k' b] ∧ Os' = []) := by
 refine zSp _ Tryz.func35 Tryz.ntmps35 (fun _ _ _ => ?_)
 refine zC3 9 (ref14right l LA lc hb) ?_
 refine zG 2 17 ?_ ?_
 ·intro g1
  (try simp only [dcs, ne_eq] at g1)
  refine zDt 4 ?_
  refine zR 1 ?_
  refine go_ent (sl tFa none 0 []) (fun h _ => Sl_nil tFa h) ?_
  refine zT 4 rfl ⟨[], 1, none, 0, .arg (.inr g1), rfl, rfl, rfl⟩
 intro g1
 (try simp only [dcs, ne_eq] at g1)
 refine zB 4 ?_ ?_
 ·intro g2
  (try simp only [dcs, ne_eq] at g2)
  refine zR 1 ?_
  refine go_ent (sl tFa none 0 []) (fun h _ => Sl_nil tFa h) ?_
  refine zT 4 rfl ⟨[], 1, none, 0, .arg (.inl g2), rfl, rfl, rfl⟩
 intro g2
 (try simp only [dcs, ne_eq] at g2)
 refine zR 2 ?_
 have g2' : 0 ≤ most := by omega
 refine zC 2 (ref13Sorted A ka a (by omega)) ?_
 rintro _ _ _ ⟨AN, kN, rfl, rfl, rfl⟩
 refine zE 2 [0, 2, 8] ?_
 refine zR 5 ?_
 refine go_re 9 (.slice AN (Sq l (fof a) 0).length kN) (by rfl) ?_
 have hS0 : (Sq l (fof a) 0).length ≤ 60 := Nat.le_trans (fof_len a) ha
 refine go_sl (sl tFa AN kN (fof a)) (sl tFa AN kN (Sq l (fof a) 0)) zM (fun _ h => h) ?_
 refine zR 1 ?_
 refine go_loop (X := Nat × Option Addr × Nat) (fun x => [(9, .slice x.2.1 (Sq l (fof a) x.1).length x.2.2)]) [(0, _), (2, _), (8, _)] (fun x => [sl tFa x.2.1 x.2.2 (Sq l (fof a) x.1), sl tCl LA lc l, sl tFa A ka a, sl tFa AN kN (fof a)]) (fun _ => []) (fun x => (Sq l (fof a) x.1).length ≤ 60 ∧ ∀ j < x.1, ¬ nx l (fof a) (Sq l (fof a) j) = []) (fun x => 61 - (Sq l (fof a) x.1).length) ((0, AN, kN)) zA zM zM ⟨hS0, fun j hj => absurd hj (Nat.not_lt_zero j)⟩ ?_
 intro ⟨k, AS, kS⟩ ⟨hkS, hkn⟩
 simp only at hkS hkn ⊢
 have hrS := rises_Sq (l := l) (rises_fof a) k
 have hlenS := Sq_len l (fof a) k
 refine zR 2 ?_
 skip
 refine zR 6 ?_
 refine go_len (xs := l) zM (fun l0 m0 => ?_)
 have hhl : ∀ c ∈ l, (headsC c (Sq l (fof a) k) [] (fof a) false).length ≤ 216000 := fun c hc => headsC_len (hbig c hc _ hkS)
 have hxl : ∀ i, (((l.take (i)).flatMap (fun c => headsC c (Sq l (fof a) k) [] (fof a) false))).length ≤ i * 216000 := fun i => by
   exact Nat.le_trans (flatMap_le (n := 216000) (fun c hc => hhl c (List.mem_of_mem_take hc))) (Nat.mul_le_mul_right _ (by rw [List.length_take]; omega))
 refine zR 3 ?_
 refine go_re 10 (.slice AS (((l.take (0)).flatMap (fun c => headsC c (Sq l (fof a) k) [] (fof a) false)).foldl fput (Sq l (fof a) k)).length kS) (by rfl) ?_
 refine go_sl (sl tFa AS kS (Sq l (fof a) k)) (sl tFa AS kS (((l.take (0)).flatMap (fun c => headsC c (Sq l (fof a) k) [] (fof a) false)).foldl fput (Sq l (fof a) k))) zM (fun _ h => h) ?_
 refine zR 1 ?_
 refine go_loop (X := Nat × Option Addr × Nat) (fun x => [(10, .slice x.2.1 (((l.take (x.1)).flatMap (fun c => headsC c (Sq l (fof a) k) [] (fof a) false)).foldl fput (Sq l (fof a) k)).length x.2.2), (11, .int .i64 (x.1 : Int))]) [(0, _), (2, _), (8, _), (9, _)] (fun x => [sl tFa x.2.1 x.2.2 (((l.take (x.1)).flatMap (fun c => headsC c (Sq l (fof a) k) [] (fof a) false)).foldl fput (Sq l (fof a) k)), sl tFa AS kS (Sq l (fof a) k), sl tCl LA lc l, sl tFa A ka a, sl tFa AN kN (fof a)]) (fun _ => []) (fun x => x.1 ≤ l.length) (fun x => l.length - x.1) ((0, AS, kS)) zA zM zM (by omega) ?_
 intro ⟨i, A7, k7⟩ hi
 simp only at hi ⊢
 refine zD' 8 ?_ ?_
 ·intro hq1
  refine zR 3 ?_
  have hxn : ((l.take (i)).flatMap (fun c => headsC c (Sq l (fof a) k) [] (fof a) false)).foldl fput (Sq l (fof a) k) = Sq l (fof a) (k + 1) := by rw [List.take_of_length_le (show l.length ≤ i by omega)]; exact fold_next_S hrS
  obtain ⟨A9, rfl⟩ : ∃ A9, A9 = A7 := ⟨_, rfl⟩
  obtain ⟨k9, rfl⟩ : ∃ k9, k9 = k7 := ⟨_, rfl⟩
  refine go_re 10 (.slice A9 (Sq l (fof a) (k + 1)).length k9) (by show some (Value.slice _ _ _) = _; rw [hxn]) ?_
  refine go_sl (sl tFa A9 k9 (((l.take (i)).flatMap (fun c => headsC c (Sq l (fof a) k) [] (fof a) false)).foldl fput (Sq l (fof a) k))) (sl tFa A9 k9 (Sq l (fof a) (k + 1))) zM (fun _ h => hxn ▸ h) ?_
  refine zD 6 ?_ ?_
  ·intro g3
   refine zR 1 ?_
   refine go_ent (sl tFa none 0 []) (fun h _ => Sl_nil tFa h) ?_
   refine zE 4 [6, 7] ?_
   refine zT 0 rfl ⟨[], 6, none, 0, .many (k + 1) g2' g1 (by omega), rfl, rfl, rfl⟩
  intro g3
  refine zE 10 [0, 2, 8, 9, 10, 58] ?_
  refine zD 0 ?_ ?_
  ·intro g5
   have g4 : nx l (fof a) (Sq l (fof a) k) = [] := List.eq_nil_of_length_eq_zero (by omega)
   refine zT 6 rfl ⟨Sq l (fof a) k, 0, AS, kS, .ok k g2' g1 (by omega) g4, rfl, rfl, rfl⟩
  intro g5
  have g4 : ¬ nx l (fof a) (Sq l (fof a) k) = [] := fun q => g5 (by rw [hlenS, q]; simp)
  refine zR 6 ?_
  have hpos := List.length_pos_iff.2 g4
  refine zz (k + 1, A9, k9) ⟨by show (Sq l (fof a) (k + 1)).length ≤ 60; omega, fun j hj => (Nat.lt_or_ge j k).elim (hkn j) (fun q => by rw [show j = k by have : j < k + 1 := hj; omega]; exact g4)⟩ (by show 61 - (Sq l (fof a) (k + 1)).length < 61 - (Sq l (fof a) k).length; omega)
 intro hq1
 refine zR 4 ?_
 refine go_elem_cl (xs := l) zM (i) (List.getElem?_eq_getElem (by omega)) (fun b1 o1 A1 c1 B1 d1 hA => ?_); cases hA
 refine zI 3 ?_
 refine zL 0 ?_
 refine zC 2 (ref13Heads l[i] A1 c1 B1 d1 (Sq l (fof a) k) AS kS (fof a) AN kN (hl _ (List.getElem_mem _)) (hb _ (List.getElem_mem _)) (Nat.le_trans (hbig _ (List.getElem_mem _) _ hkS) (by omega))) ?_
 rintro _ _ _ ⟨AH, kH, rfl, rfl, rfl⟩
 refine zR 3 ?_
 refine go_len (xs := headsC l[i] (Sq l (fof a) k) [] (fof a) false) zM (fun l2 m2 => ?_)
 have hhi := hhl l[i] (List.getElem_mem _)
 have hxi := hxl i
 refine zR 3 ?_
 refine go_re 10 (.slice A7 (((l.take (i)).flatMap (fun c => headsC c (Sq l (fof a) k) [] (fof a) false) ++ (headsC l[i] (Sq l (fof a) k) [] (fof a) false).take (0)).foldl fput (Sq l (fof a) k)).length k7) (by show some (Value.slice _ _ _) = _; rw [List.take_zero, List.append_nil]) ?_
 refine go_sl (sl tFa A7 k7 (((l.take (i)).flatMap (fun c => headsC c (Sq l (fof a) k) [] (fof a) false)).foldl fput (Sq l (fof a) k))) (sl tFa A7 k7 (((l.take (i)).flatMap (fun c => headsC c (Sq l (fof a) k) [] (fof a) false) ++ (headsC l[i] (Sq l (fof a) k) [] (fof a) false).take (0)).foldl fput (Sq l (fof a) k))) zM (fun _ h => by rw [List.take_zero, List.append_nil]; exact h) ?_
 refine zR 1 ?_
 refine go_loop (X := Nat × Option Addr × Nat) (fun x => [(10, .slice x.2.1 (((l.take (i)).flatMap (fun c => headsC c (Sq l (fof a) k) [] (fof a) false) ++ (headsC l[i] (Sq l (fof a) k) [] (fof a) false).take (x.1)).foldl fput (Sq l (fof a) k)).length x.2.2), (13, .int .i64 (x.1 : Int))]) [(0, _), (2, _), (8, _), (9, _), (11, _), (12, _)] (fun x => [sl tFa x.2.1 x.2.2 (((l.take (i)).flatMap (fun c => headsC c (Sq l (fof a) k) [] (fof a) false) ++ (headsC l[i] (Sq l (fof a) k) [] (fof a) false).take (x.1)).foldl fput (Sq l (fof a) k)), sl tFa AH kH (headsC l[i] (Sq l (fof a) k) [] (fof a) false), sl tFa AS kS (Sq l (fof a) k), sl tCl (some ⟨b1, o1, none⟩) lc l, sl tFa A ka a, sl tFa AN kN (fof a)]) (fun _ => []) (fun x => x.1 ≤ (headsC l[i] (Sq l (fof a) k) [] (fof a) false).length) (fun x => (headsC l[i] (Sq l (fof a) k) [] (fof a) false).length - x.1) ((0, A7, k7)) zA zM zM (by omega) ?_
 intro ⟨j, A8, k8⟩ hj
 simp only at hj ⊢
 have hul := foldl_flen ((l.take (i)).flatMap (fun c => headsC c (Sq l (fof a) k) [] (fof a) false) ++ (headsC l[i] (Sq l (fof a) k) [] (fof a) false).take (j)) (Sq l (fof a) k)
 have hxs : ((l.take (i)).flatMap (fun c => headsC c (Sq l (fof a) k) [] (fof a) false) ++ (headsC l[i] (Sq l (fof a) k) [] (fof a) false).take (j)) = ((l.take (i)).flatMap (fun c => headsC c (Sq l (fof a) k) [] (fof a) false)) ++ (headsC l[i] (Sq l (fof a) k) [] (fof a) false).take j := rfl
 rw [List.length_append, List.length_take] at hul
 refine zD' 8 ?_ ?_
 ·intro g7
  have hxe : ((l.take (i)).flatMap (fun c => headsC c (Sq l (fof a) k) [] (fof a) false) ++ (headsC l[i] (Sq l (fof a) k) [] (fof a) false).take (j)).foldl fput (Sq l (fof a) k) = ((l.take (i + 1)).flatMap (fun c => headsC c (Sq l (fof a) k) [] (fof a) false)).foldl fput (Sq l (fof a) k) := by rw [List.take_of_length_le (show (headsC l[i] (Sq l (fof a) k) [] (fof a) false).length ≤ j by omega), ← flat_next (by omega)]
  refine zR 7 ?_
  refine zi 11 ?_
  refine go_re 10 (.slice A8 (((l.take (i + 1)).flatMap (fun c => headsC c (Sq l (fof a) k) [] (fof a) false)).foldl fput (Sq l (fof a) k)).length k8) (by show some (Value.slice _ _ _) = _; rw [hxe]) ?_
  refine go_sl (sl tFa A8 k8 (((l.take (i)).flatMap (fun c => headsC c (Sq l (fof a) k) [] (fof a) false) ++ (headsC l[i] (Sq l (fof a) k) [] (fof a) false).take (j)).foldl fput (Sq l (fof a) k))) (sl tFa A8 k8 (((l.take (i + 1)).flatMap (fun c => headsC c (Sq l (fof a) k) [] (fof a) false)).foldl fput (Sq l (fof a) k))) zM (fun _ h => hxe ▸ h) ?_
  refine zz (i + 1, A8, k8) (by show i + 1 ≤ _; omega) (by show l.length - (i + 1) < l.length - i; omega)
 intro g7
 refine zR 3 ?_
 refine go_elem_fa (xs := headsC l[i] (Sq l (fof a) k) [] (fof a) false) zM (j) (List.getElem?_eq_getElem (by omega)) (fun b3 o3 A3 c3 hA => ?_); cases hA
 refine zI 4 ?_
 refine zL 0 ?_
 refine zC 0 (ref13With A8 k8 (((l.take (i)).flatMap (fun c => headsC c (Sq l (fof a) k) [] (fof a) false) ++ (headsC l[i] (Sq l (fof a) k) [] (fof a) false).take (j)).foldl fput (Sq l (fof a) k)) (headsC l[i] (Sq l (fof a) k) [] (fof a) false)[j] A3 c3 (foldl_rises _ _ hrS) (by have : i * 216000 ≤ 20 * 216000 := Nat.mul_le_mul_right _ (by omega); omega)) ?_
 rintro _ _ _ ⟨A6, k6, rfl, rfl, rfl⟩
 refine zR 8 ?_
 refine zi 13 ?_
 have hnx : fput (((l.take (i)).flatMap (fun c => headsC c (Sq l (fof a) k) [] (fof a) false) ++ (headsC l[i] (Sq l (fof a) k) [] (fof a) false).take (j)).foldl fput (Sq l (fof a) k)) (headsC l[i] (Sq l (fof a) k) [] (fof a) false)[j] = ((l.take (i)).flatMap (fun c => headsC c (Sq l (fof a) k) [] (fof a) false) ++ (headsC l[i] (Sq l (fof a) k) [] (fof a) false).take ((j + 1))).foldl fput (Sq l (fof a) k) := by rw [List.take_succ_eq_append_getElem (show j < (headsC l[i] (Sq l (fof a) k) [] (fof a) false).length by omega), ← List.append_assoc]; simp only [List.foldl_append, List.foldl_cons, List.foldl_nil]
 refine go_re 10 (.slice A6 (((l.take (i)).flatMap (fun c => headsC c (Sq l (fof a) k) [] (fof a) false) ++ (headsC l[i] (Sq l (fof a) k) [] (fof a) false).take ((j + 1))).foldl fput (Sq l (fof a) k)).length k6) (by show some (Value.slice _ _ _) = _; rw [hnx]) ?_
 refine go_sl (sl tFa A6 k6 (fput (((l.take (i)).flatMap (fun c => headsC c (Sq l (fof a) k) [] (fof a) false) ++ (headsC l[i] (Sq l (fof a) k) [] (fof a) false).take (j)).foldl fput (Sq l (fof a) k)) (headsC l[i] (Sq l (fof a) k) [] (fof a) false)[j])) (sl tFa A6 k6 (((l.take (i)).flatMap (fun c => headsC c (Sq l (fof a) k) [] (fof a) false) ++ (headsC l[i] (Sq l (fof a) k) [] (fof a) false).take ((j + 1))).foldl fput (Sq l (fof a) k))) zM (fun _ h => hnx ▸ h) ?_
 refine zz (j + 1, A6, k6) (by show j + 1 ≤ _; omega) (by show _ - (j + 1) < _ - j; omega)
end Go.Proofs.YtmomkfedcmogmaaGreat.SL
namespace Go.Proofs.YtmomkfedcmogmaaGreat.SL
open Go Md
theorem strR_row {l : List Cl} {ss : List (List Nat)} {e : Int} (h : StrR l ss e) (he : e = 0) : ∀ p ∈ ss, p.length ≤ l.length := by
  cases h with
  | bad e h1 h2 => exact absurd he h1
  | ok lv h1 h2 h3 h4 =>
    intro p hp
    unfold strata at hp
    obtain ⟨k, _, rfl⟩ := List.mem_map.1 hp
    have := strI_len (l.map fun c => lv c.h.p) k
    rwa [List.length_map] at this
set_option maxHeartbeats 8000000 in
theorem ref15Of (l : List Cl) (LA : Option Addr) (lc : Nat) (fs : List Fa) (FA : Option Addr) (fc : Nat) (most : Int) (hl : ∀ c ∈ l, c.ok) (hb0 : ∀ x ∈ l, x.b.length ≤ 1000) (hll : l.length ≤ 20) (hfl : fs.length ≤ 60) (hm : most ≤ 60) (hbig : ∀ c ∈ l, ∀ F N : List Fa, F.length ≤ 60 → (goL c F [] N c.b ch0 true).length ≤ 216000) :
    Spec Tryz.prog 11 #[.slice LA l.length lc, .slice FA fs.length fc, .int .i64 most] [sl tCl LA lc l, sl tFa FA fc fs] [] (fun v Ps' Os' => ∃ A c r e, ModA l fs most r e ∧ v = .tuple #[.slice A (r.getD []).length c, .int .i64 e] ∧ Ps' = [sl tFa A c (r.getD [])] ∧ Os' = []) := by
 refine zSp _ Tryz.func11 Tryz.ntmps11 (fun _ _ _ => ?_)
 refine zD 11 ?_ ?_
 ·intro g1
  refine go_sl_nil tFa ?_
  refine zT 5 rfl ⟨none, 0, none, 1, .arg g1, rfl, rfl, rfl⟩
 intro g1
 have g1' : 0 ≤ most := by omega
 refine zC 4 (ref12Strata l LA lc hb0) ?_
 rintro _ _ _ ⟨SA, sc, ss, e, hS, rfl, rfl, rfl⟩
 refine zN 12 ?_ ?_
 ·intro g2
  refine go_sl_nil tFa ?_
  refine zE 6 [6, 7] ?_
  refine zT 0 rfl ⟨none, 0, none, e, .strat g1' hS g2, rfl, rfl, rfl⟩
 intro g2
 subst g2
 obtain ⟨hr, hsl, hss⟩ := hS.zero rfl
 have hrw := strR_row hS rfl
 refine zC 5 (ref11Arities l LA lc fs FA fc hr) ?_
 rintro _ _ _ ⟨i1, e1, rfl, hA, rfl, rfl⟩
 refine zE 5 [0, 1, 2, 8, 9] ?_
 refine zN 6 ?_ ?_
 ·intro g3
  obtain ⟨rfl, hA'⟩ := hA.resolve_left (fun q => g3 q.1)
  refine go_sl_nil tFa ?_
  refine zT 6 rfl ⟨none, 0, none, 9, .ari g1' hS hA', rfl, rfl, rfl⟩
 intro g3
 have hA' := (hA.resolve_right (fun q => by have := q.1; omega)).2
 refine zC 4 (ref13Sorted FA fc fs (by omega)) ?_
 rintro _ _ _ ⟨AN, kN, rfl, rfl, rfl⟩
 refine zR 4 ?_
 refine go_len (xs := fof fs) zM (fun l7 m7 => ?_)
 refine zD 6 ?_ ?_
 ·intro g4
  refine go_sl_nil tFa ?_
  refine zE 5 [6, 7] ?_
  refine zT 0 rfl ⟨none, 0, none, 6, .run g1' hS hA' (.big (by omega)), rfl, rfl, rfl⟩
 intro g4
 have hfN : ((fof fs).length : Int) ≤ most := by omega
 refine zR 3 ?_
 refine go_len (xs := ss.map cs) zM (fun l0 m0 => ?_)
 rw [List.length_map] at l0
 refine go_len (xs := l) zM (fun l1 m1 => ?_)
 refine zR 4 ?_
 refine go_loop (X := Nat × List Fa × Option Addr × Nat) (fun x => [(10, .slice x.2.2.1 x.2.1.length x.2.2.2), (11, .int .i64 (x.1 : Int))]) [(0, _), (2, _), (8, _)] (fun x => [sl tFa x.2.2.1 x.2.2.2 x.2.1, sl tCl LA lc l, sl (tSl (tInt .i64)) SA sc (ss.map cs)]) (fun _ => []) (fun x => x.1 ≤ ss.length ∧ Upto (ss.map (clausesAt l)) most (fof fs) x.1 x.2.1) (fun x => ss.length - x.1) ((0, fof fs, AN, kN)) zA zM zM ⟨Nat.zero_le _, .zero⟩ ?_
 intro ⟨k, M, AM, kM⟩ ⟨hk, hU⟩
 simp only at hk hU ⊢
 have hMl := hU.len hfN
 have hrM := hU.rises (rises_fof _)
 refine zD' 8 ?_ ?_
 ·intro g6
  refine zT 7 rfl ⟨AM, kM, some M, 0, .run g1' hS hA' (.ok hfN (by rw [List.length_map, show ss.length = k by omega]; exact hU)), rfl, rfl, rfl⟩
 intro g6
 obtain ⟨p, hpk⟩ : ∃ p, ss[k]? = some p := ⟨_, List.getElem?_eq_getElem (by omega)⟩
 have hpk' : ss[k]'(by omega) = p := (List.getElem?_eq_some_iff.1 hpk).2
 have hpm := hss p (List.mem_of_getElem? hpk)
 have hpl := hrw p (List.mem_of_getElem? hpk)
 have hcp := cs_len p
 have hkl : k < (ss.map (clausesAt l)).length := by rw [List.length_map]; omega
 have hst1 : (ss.map (clausesAt l))[k] = clausesAt l p := by rw [List.getElem_map, hpk']
 refine go_elem_row (T := tInt .i64) (xss := ss.map cs) zM k (xs := cs p) (by rw [List.getElem?_map, hpk]; rfl) (fun b1 o1 A5 c5 hA1 => ?_); cases hA1
 refine go_len (xs := cs p) zM (fun lp mp => ?_)
 refine zR 4 ?_
 refine go_own_nil tCl 46 none ?_
 refine zR 9 ?_
 refine zO (X := Nat × Option Addr × Nat) (fun x => [(12, .slice x.2.1 (clausesAt l (p.take x.1)).length x.2.2), (13, .int .i64 (x.1 : Int))]) [0, 2, 8, 10, 11] (fun x => [ol tCl 46 x.2.1 x.2.2 (clausesAt l (p.take x.1))]) (fun x => x.1 ≤ p.length) (fun x => p.length - x.1) (0, none, 0) (Nat.zero_le _) ?_
 intro ⟨j, A3, c3⟩ hj
 simp only at hj ⊢
 have hcl := clausesAt_len (l := l) (is := p.take j) (fun u hu => hpm.2 u (List.mem_of_mem_take hu))
 rw [List.length_take] at hcl
 refine zI 6 ?_
 refine zL 0 ?_
 refine zD' 3 ?_ ?_
 ·intro hq1
  refine zR 2 ?_
  rw [List.take_of_length_le (show p.length ≤ j by omega)]
  refine go_freeze_ol (xs := clausesAt l p) zM ?_
  refine zC 4 (ref14Least (clausesAt l p) A3 c3 M AM kM most (fun c hc => hl c (clausesAt_mem hc)) (fun c hc => hb0 c (clausesAt_mem hc)) (by rw [clausesAt_len hpm.2]; omega) (by omega) hm (fun c hc F hF => hbig c (clausesAt_mem hc) F _ hF)) ?_
  rintro _ _ _ ⟨b2, e2, A2, k2, hR, rfl, rfl, rfl⟩
  rw [fof_self hrM] at hR
  have hS2 := stg_ref hR
  refine zE 6 [0, 2, 8, 9, 10, 11] ?_
  refine zN 5 ?_ ?_
  ·intro g5
   rw [if_neg g5] at hS2
   refine go_sl_nil tFa ?_
   refine zT 6 rfl ⟨none, 0, none, e2, .run g1' hS hA' (.bad hfN hU hkl (by rw [hst1]; exact hS2)), rfl, rfl, rfl⟩
  intro g5
  subst g5
  rw [if_pos rfl] at hS2
  refine zR 7 ?_
  refine go_i64n 11 (k + 1) rfl ?_
  refine zz (k + 1, b2, A2, k2) (⟨by show k + 1 ≤ _; omega, .succ hU hkl (by rw [hst1]; exact hS2)⟩) (by show _ - (k + 1) < _ - k; omega)
 intro hq1
 refine zR 3 ?_
 obtain ⟨u, hpu⟩ : ∃ u, p[j]? = some u := ⟨_, List.getElem?_eq_getElem (by omega)⟩
 have hpu' : p[j]'(by omega) = u := (List.getElem?_eq_some_iff.1 hpu).2
 have hun := hpm.2 u (List.mem_of_getElem? hpu)
 have hnx : clausesAt l (p.take j) ++ [l[u]] = clausesAt l (p.take (j + 1)) := by rw [List.take_succ_eq_append_getElem (show j < p.length by omega), hpu', clausesAt_snoc hun]
 refine go_elem_int (xs := cs p) zM j (cs_get hpu) (fun b2 o2 hA2 => ?_); cases hA2
 refine go_elem_cl (xs := l) zM (u) (List.getElem?_eq_getElem (by omega)) (fun b3 o3 A6 c6 B6 d6 hA => ?_); cases hA
 refine zI 5 ?_
 refine zL 0 ?_
 refine zI 1 ?_
 refine zL 0 ?_
 refine zI 0 ?_
 refine zL 0 ?_
 refine zV 0 ?_
 intro b1
 refine go_append1 (T := tCl) (xs := clausesAt l (p.take j)) Tk (l[u]) rfl rfl rfl rfl rfl rfl rfl rfl rfl zM zM rfl (ent_cl zM zM) (by omega) zH ?_
 intro A4 c4
 refine zE 2 [0, 2, 8, 10, 11, 12, 13] ?_
 refine zR 6 ?_
 refine go_i64n 13 (j + 1) rfl ?_
 rw [hnx]
 refine zz (j + 1, A4, c4) (by show j + 1 ≤ _; omega) (by show _ - (j + 1) < _ - j; omega)
end Go.Proofs.YtmomkfedcmogmaaGreat.SL
namespace Go.Proofs.YtmomkfedcmogmaaGreat.SL
open Md
def RP (l : List Cl) (fs : List Fa) : Prop := (rightC l).2 = 0 ∧ (∃ lv, Levels l lv) ∧ ArOK (atomsL l) fs
theorem filterMap_len {α β : Type} (f : α → Option β) (l : List α) : (l.filterMap f).length ≤ l.length := List.length_filterMap_le ..
theorem run_perfect {l : List Cl} {fs : List Fa} {most : Int} {ss : List (List Nat)} {r : Option (List Fa)} {e : Int} (ho : ∀ c ∈ l, c.ok) (hs : StrR l ss 0) (h0 : 0 ≤ most) (h : ModelR (ss.map (clausesAt l)) most (fof fs) r e) : (∃ lv, Levels l lv) ∧ Perfect l (· ∈ fof fs) most r e := by
  generalize he : (0 : Int) = z at hs
  cases hs with
  | bad e h1 h2 => exact absurd he.symm h1
  | ok lv h1 h2 h3 h4 =>
    refine ⟨⟨lv, h2⟩, ModelR.perfect ho h2 (strata_split l lv) (strata_all l lv) (fun k hk => level_fix h1 h2 (k := k) (fun c => strata_split l lv k hk c) ?_) h0 (rises_fof _) h⟩
    have hk' : k < (strata (l.map fun c => lv c.h.p)).length := by simpa using hk
    rw [List.getElem_map]
    refine Nat.le_trans (filterMap_len _ _) ?_
    have : (strata (l.map fun c => lv c.h.p))[k] = strI (l.map fun c => lv c.h.p) k := by simp [strata]
    rw [this]
    refine Nat.le_trans (strI_len _ _) ?_
    rw [List.length_map]; exact (rightC_iff.1 h1).1
theorem StrR.right {l : List Cl} {ss : List (List Nat)} (h : StrR l ss 0) : (rightC l).2 = 0 ∧ ∃ lv, Levels l lv := by
  generalize he : (0 : Int) = z at h
  cases h with
  | bad e h1 h2 => exact absurd he.symm h1
  | ok lv h1 h2 h3 h4 => exact ⟨h1, lv, h2⟩
theorem StrR.wrong {l : List Cl} {ss : List (List Nat)} {e : Int} (h : StrR l ss e) (he : e ≠ 0) : ¬ ((rightC l).2 = 0 ∧ ∃ lv, Levels l lv) := by
  cases h with
  | bad e h1 h2 =>
    rintro ⟨q1, lv, q2⟩
    rcases h2 with ⟨a, _⟩ | ⟨_, _, b⟩
    · exact a q1
    · exact b lv q2
  | ok lv h1 h2 h3 h4 => exact absurd rfl he
theorem ModA.one {l : List Cl} {fs : List Fa} {most : Int} {r r' : Option (List Fa)} {e e' : Int} (ho : ∀ c ∈ l, c.ok) (h : ModA l fs most r e) (h' : ModA l fs most r' e') : r = r' ∧ e = e' := by
  cases h with
  | arg a =>
    cases h' with
    | arg a' => exact ⟨rfl, rfl⟩
    | strat a' s' n' => omega
    | ari a' s' n' => omega
    | run a' s' o' m' => omega
  | strat a s n =>
    cases h' with
    | arg a' => omega
    | strat a' s' n' => exact ⟨rfl, (s.one s').2⟩
    | ari a' s' n' => exact absurd (s.one s').2 n
    | run a' s' o' m' => exact absurd (s.one s').2 n
  | ari a s n =>
    cases h' with
    | arg a' => omega
    | strat a' s' n' => exact absurd (s'.one s).2 n'
    | ari a' s' n' => exact ⟨rfl, rfl⟩
    | run a' s' o' m' => exact absurd o' n
  | run a s o m =>
    cases h' with
    | arg a' => omega
    | strat a' s' n' => exact absurd (s'.one s).2 n'
    | ari a' s' n' => exact absurd o n'
    | run a' s' o' m' =>
      obtain ⟨⟨lv, hl⟩, p⟩ := run_perfect ho s a m
      exact p.same (run_perfect ho s' a' m').2 hl fun _ => Iff.rfl
theorem ModA.of_right {l : List Cl} {fs : List Fa} {most : Int} {r : Option (List Fa)} {e : Int} (ho : ∀ c ∈ l, c.ok) (h : ModA l fs most r e) (hr : RP l fs) (h0 : 0 ≤ most) : Perfect l (· ∈ fof fs) most r e := by
  cases h with
  | arg a => omega
  | strat a s n => exact absurd ⟨hr.1, hr.2.1⟩ (s.wrong n)
  | ari a s n => exact absurd hr.2.2 n
  | run a s o m => exact (run_perfect ho s a m).2
theorem ModA.ok {l : List Cl} {fs : List Fa} {most : Int} {r : Option (List Fa)} {e : Int} (ho : ∀ c ∈ l, c.ok) (h : ModA l fs most r e) (he : e = 0) : RP l fs ∧ 0 ≤ most ∧ ∃ M, r = some M ∧ rises M ∧ (M.length : Int) ≤ most ∧ Stable l (· ∈ fof fs) (· ∈ M) := by
  cases h with
  | arg a => cases he
  | strat a s n => exact absurd he n
  | ari a s n => cases he
  | run a s o m =>
    have hp := (run_perfect ho s a m).2
    refine ⟨⟨s.right.1, s.right.2, o⟩, a, ?_⟩
    rcases hp with ⟨_, M, h2, h3, h4, h5⟩ | ⟨h1, _, _⟩
    · exact ⟨M, h2, h3, h4, h5⟩
    · omega
theorem ModA.none_ {l : List Cl} {fs : List Fa} {most : Int} {r : Option (List Fa)} {e : Int} (ho : ∀ c ∈ l, c.ok) (h : ModA l fs most r e) (he : ¬ e = 0) : r = none := by
  cases h with
  | arg a => rfl
  | strat a s n => rfl
  | ari a s n => rfl
  | run a s o m =>
    rcases (run_perfect ho s a m).2 with ⟨h1, _⟩ | ⟨_, h2, _⟩
    · exact absurd h1 he
    · exact h2
theorem Md.Perfect.of_stable {l : List Cl} {B : Fa → Prop} {most : Int} {M : List Fa} {r : Option (List Fa)} {e : Int} (h : Perfect l B most r e) {lv : Int → Nat} (hl : Levels l lv) (hM : rises M) (hS : Stable l B (· ∈ M)) :
    ((M.length : Int) ≤ most → r = some M ∧ e = 0) ∧ (most < (M.length : Int) → r = none ∧ e = 6) := by
  rcases h with ⟨g1, M', g2, g3, g4, g5⟩ | ⟨g1, g2, g3⟩
  · have : M = M' := rises_ext hM g3 fun x => hS.same hl g5 x
    subst this
    exact ⟨fun _ => ⟨g2, g1⟩, fun q => by omega⟩
  · have := g3 M hM hS
    exact ⟨fun q => by omega, fun _ => ⟨g2, g1⟩⟩
theorem ArOK.mono {X Y : List Am} {fs gs : List Fa} (h : ArOK X fs) (hX : ∀ a ∈ Y, a ∈ X) (hf : ∀ f ∈ gs, f ∈ fs) : ArOK Y gs := ⟨fun f q => h.1 f (hf f q), sameLen_sub h.2 fun a ha => by
  rcases List.mem_append.1 ha with h | h
  · exact List.mem_append_left _ (hX a h)
  · obtain ⟨g, hg, rfl⟩ := List.mem_map.1 h
    exact List.mem_append_right _ (List.mem_map.2 ⟨g, hf g hg, rfl⟩)⟩
theorem atomsL_mono {l l' : List Cl} (h : ∀ c ∈ l', c ∈ l) : ∀ a ∈ atomsL l', a ∈ atomsL l := fun a ha => by
  obtain ⟨c, hc, q⟩ := mem_atomsL.1 ha
  exact mem_atomsL.2 ⟨c, h c hc, q⟩
theorem RP.sub {l l' : List Cl} {fs gs : List Fa} (h : RP l fs) (hl : ∀ c ∈ l', c ∈ l) (hf : ∀ f ∈ gs, f ∈ fs) (hn : l'.length ≤ 400) : RP l' gs :=
  ⟨right_sub h.1 hl hn, h.2.1.imp fun lv q => levels_sub q fun c hc => .inl (hl c hc), h.2.2.mono (atomsL_mono hl) hf⟩
theorem ModA.fine {l : List Cl} {fs : List Fa} {most : Int} {M : List Fa} (ho : ∀ c ∈ l, c.ok) (hf : ∀ x ∈ fs, x.ok ∧ x.a.length ≤ 100000) (h : ModA l fs most (some M) 0) : ∀ x ∈ M, x.ok ∧ x.a.length ≤ 100000 := by
  generalize hr : some M = r at h
  generalize he : (0 : Int) = e at h
  cases h with
  | arg a => cases hr
  | strat a s n => cases hr
  | ari a s n => cases hr
  | run a s o m =>
    cases m with
    | big g => cases hr
    | bad h0 h1 hk hL => cases hr
    | ok g u => cases hr; exact u.fine (fun s hs c hc => ho c (st_mem s hs c hc)) (fun x hx => hf x (mem_fof.1 hx))
def kq (g : Nat → Bool) (fs : List Fa) (n : Nat) : List Fa := (List.range n).filterMap fun i => if g i then none else fs[i]?
theorem kq_succ {g : Nat → Bool} {fs : List Fa} {n : Nat} (h : n < fs.length) : kq g fs (n + 1) = if g n then kq g fs n else kq g fs n ++ [fs[n]] := by
  unfold kq
  rw [List.range_succ, List.filterMap_append]
  cases e : g n <;> simp [e, h]
theorem kq_yes {g : Nat → Bool} {fs : List Fa} {n : Nat} (h : n < fs.length) (e : g n = true) : kq g fs n = kq g fs (n + 1) := by rw [kq_succ h, e]; rfl
theorem kq_no {g : Nat → Bool} {fs : List Fa} {n : Nat} (h : n < fs.length) (e : g n = false) : kq g fs n ++ [fs[n]] = kq g fs (n + 1) := by rw [kq_succ h, e]; rfl
theorem kq_len (g : Nat → Bool) (fs : List Fa) (n : Nat) : (kq g fs n).length ≤ n := Nat.le_trans (filterMap_len' _ _) (by rw [List.length_range]; exact Nat.le_refl _)
where filterMap_len' {α β : Type} (f : α → Option β) (l : List α) : (l.filterMap f).length ≤ l.length := List.length_filterMap_le ..
theorem mem_kq {g : Nat → Bool} {fs : List Fa} {n : Nat} {x : Fa} : x ∈ kq g fs n ↔ ∃ i, i < n ∧ g i = false ∧ fs[i]? = some x := by
  unfold kq
  rw [List.mem_filterMap]
  constructor
  · rintro ⟨i, hi, h⟩
    refine ⟨i, List.mem_range.1 hi, ?_⟩
    cases e : g i with
    | true => rw [e] at h; cases h
    | false => rw [e] at h; exact ⟨rfl, h⟩
  · rintro ⟨i, hi, e, h⟩
    exact ⟨i, List.mem_range.2 hi, by rw [e]; exact h⟩
theorem kq_sub {g : Nat → Bool} {fs : List Fa} {n : Nat} : ∀ x ∈ kq g fs n, x ∈ fs := fun x hx => by
  obtain ⟨i, _, _, h⟩ := mem_kq.1 hx
  exact List.mem_of_getElem? h
theorem kq_congr {g g' : Nat → Bool} {fs : List Fa} {n : Nat} (h : ∀ i, i < n → g i = g' i) : kq g fs n = kq g' fs n := by
  induction n with
  | zero => rfl
  | succ n ih =>
    unfold kq at ih ⊢
    rw [List.range_succ, List.filterMap_append, List.filterMap_append, ih fun i hi => h i (by omega)]
    congr 1
    simp only [List.filterMap_cons, List.filterMap_nil, h n (by omega)]
def InM (l : List Cl) (fs : List Fa) (f : Fa) (most : Int) : Prop := RP l fs ∧ 0 ≤ most ∧ ∃ M : List Fa, rises M ∧ (M.length : Int) ≤ most ∧ Stable l (· ∈ fof fs) (· ∈ M) ∧ f ∈ M
noncomputable def isW (l : List Cl) (fs : List Fa) (f : Fa) (most : Int) : Bool := @decide (InM l fs f most) (Classical.propDecidable _)
theorem isW_iff {l : List Cl} {fs : List Fa} {f : Fa} {most : Int} : isW l fs f most = true ↔ InM l fs f most := by
  unfold isW; exact @decide_eq_true_iff _ (Classical.propDecidable _)
theorem isW_of {l : List Cl} {fs : List Fa} {f : Fa} {most : Int} {r : Option (List Fa)} {e : Int} (ho : ∀ c ∈ l, c.ok) (h : ModA l fs most r e) : isW l fs f most = true ↔ e = 0 ∧ f ∈ r.getD [] := by
  rw [isW_iff]
  constructor
  · rintro ⟨h1, h2, M, h3, h4, h5, h6⟩
    obtain ⟨lv, hlv⟩ := h1.2.1
    obtain ⟨rfl, rfl⟩ := ((h.of_right ho h1 h2).of_stable hlv h3 h5).1 h4
    exact ⟨rfl, h6⟩
  · rintro ⟨rfl, h2⟩
    obtain ⟨h1, h0, M, rfl, h3, h4, h5⟩ := h.ok ho rfl
    exact ⟨h1, h0, M, h3, h4, h5, h2⟩
def upd1 (g : Nat → Bool) (i : Nat) : Nat → Bool := fun j => if j = i then true else g j
noncomputable def restL (W : (Nat → Bool) → Bool) (n : Nat) : List Nat := (List.range n).filter fun i => !W (upd1 (fun _ => false) i)
noncomputable def gone (W : (Nat → Bool) → Bool) (n : Nat) : Nat → Nat → Bool
  | 0 => fun _ => false
  | k + 1 => if W (upd1 (gone W n k) (n - 1 - k)) = true then upd1 (gone W n k) (n - 1 - k) else gone W n k
theorem gone_succ {W : (Nat → Bool) → Bool} {n k : Nat} : gone W n (k + 1) = if W (upd1 (gone W n k) (n - 1 - k)) = true then upd1 (gone W n k) (n - 1 - k) else gone W n k := rfl
theorem gone_low {W : (Nat → Bool) → Bool} {n : Nat} : ∀ {k : Nat}, k ≤ n → ∀ i, i < n - k → gone W n k i = false
  | 0, _, _, _ => rfl
  | k + 1, hk, i, hi => by
    rw [gone_succ]
    have h1 := gone_low (W := W) (n := n) (k := k) (by omega) i (by omega)
    split
    · show (if i = n - 1 - k then true else gone W n k i) = false; rw [if_neg (by omega)]; exact h1
    · exact h1
theorem gone_at {W : (Nat → Bool) → Bool} {n k : Nat} (hk : k < n) : gone W n (k + 1) (n - 1 - k) = W (upd1 (gone W n k) (n - 1 - k)) := by
  rw [gone_succ]
  split
  · rename_i h; rw [h]; unfold upd1; simp
  · rename_i h
    rw [Bool.not_eq_true] at h
    rw [h]; exact gone_low (by omega) _ (by omega)
theorem gone_high {W : (Nat → Bool) → Bool} {n k i : Nat} (h : i ≠ n - 1 - k) : gone W n (k + 1) i = gone W n k i := by
  rw [gone_succ]
  split
  · show (if i = n - 1 - k then true else gone W n k i) = _; rw [if_neg h]
  · rfl
theorem isW_and {l : List Cl} {fs : List Fa} {f : Fa} {most : Int} {r : Option (List Fa)} {e : Int} (ho : ∀ c ∈ l, c.ok) (h : ModA l fs most r e) : isW l fs f most = (decide (e = 0) && decide (f ∈ r.getD [])) := by
  rw [Bool.eq_iff_iff, isW_of ho h, Bool.and_eq_true, decide_eq_true_iff, decide_eq_true_iff]
theorem less_yes {a b : List Fa} {i : Nat} (h : i < a.length) (q : ¬ a[i] ∈ b) : less (a.take i) b ++ [a[i]] = less (a.take (i + 1)) b := by
  rw [List.take_succ_eq_append_getElem h]; unfold less; rw [List.filter_append]; simp [q]
theorem less_no {a b : List Fa} {i : Nat} (h : i < a.length) (q : a[i] ∈ b) : less (a.take i) b = less (a.take (i + 1)) b := by
  rw [List.take_succ_eq_append_getElem h]; unfold less; rw [List.filter_append]; simp [q]
theorem less_take (a b : List Fa) (i : Nat) : (less (a.take i) b).length ≤ i := Nat.le_trans (less_len _ _) (by rw [List.length_take]; omega)
def gB (g : List Bool) : Nat → Bool := fun i => (g[i]?).getD false
theorem gB_at {g : List Bool} {i : Nat} (h : i < g.length) : gB g i = g[i] := by unfold gB; rw [List.getElem?_eq_getElem h]; rfl
def AskR (l : List Cl) (fs : List Fa) (f : Fa) (most e : Int) : Prop := ∃ r e0, ModA l fs most r e0 ∧ e = if e0 = 0 then (if f ∈ r.getD [] then 0 else 4) else e0
theorem AskR.one {l : List Cl} {fs : List Fa} {f : Fa} {most e e' : Int} (ho : ∀ c ∈ l, c.ok) (h : AskR l fs f most e) (h' : AskR l fs f most e') : e = e' := by
  obtain ⟨r, e0, h1, h2⟩ := h
  obtain ⟨r', e0', h3, h4⟩ := h'
  obtain ⟨rfl, rfl⟩ := h1.one ho h3
  rw [h2, h4]
def DiffA (l k : List Cl) (fs : List Fa) (most : Int) (g s : List Fa) (e : Int) : Prop :=
  ∃ r1 e1, ModA l fs most r1 e1 ∧ ((e1 ≠ 0 ∧ g = [] ∧ s = [] ∧ e = e1) ∨ (e1 = 0 ∧ ∃ r2 e2, ModA k fs most r2 e2 ∧ ((e2 ≠ 0 ∧ g = [] ∧ s = [] ∧ e = e2) ∨ (e2 = 0 ∧ g = less (r2.getD []) (r1.getD []) ∧ s = less (r1.getD []) (r2.getD []) ∧ e = 0))))
theorem DiffA.one {l k : List Cl} {fs : List Fa} {most : Int} {g s g' s' : List Fa} {e e' : Int} (ho : ∀ c ∈ l, c.ok) (ho' : ∀ c ∈ k, c.ok) (h : DiffA l k fs most g s e) (h' : DiffA l k fs most g' s' e') : g = g' ∧ s = s' ∧ e = e' := by
  obtain ⟨r1, e1, a1, a2⟩ := h
  obtain ⟨r1', e1', b1, b2⟩ := h'
  obtain ⟨rfl, rfl⟩ := a1.one ho b1
  rcases a2 with ⟨q, rfl, rfl, rfl⟩ | ⟨q, r2, e2, a3, a4⟩
  · rcases b2 with ⟨_, rfl, rfl, rfl⟩ | ⟨w, _⟩
    · exact ⟨rfl, rfl, rfl⟩
    · exact absurd w q
  · rcases b2 with ⟨w, _⟩ | ⟨_, r2', e2', b3, b4⟩
    · exact absurd q w
    · obtain ⟨rfl, rfl⟩ := a3.one ho' b3
      rcases a4 with ⟨q2, rfl, rfl, rfl⟩ | ⟨q2, rfl, rfl, rfl⟩
      · rcases b4 with ⟨_, rfl, rfl, rfl⟩ | ⟨w, _⟩
        · exact ⟨rfl, rfl, rfl⟩
        · exact absurd w q2
      · rcases b4 with ⟨w, _⟩ | ⟨_, rfl, rfl, rfl⟩
        · exact absurd q2 w
        · exact ⟨rfl, rfl, rfl⟩
theorem ModA.len {l : List Cl} {fs : List Fa} {most : Int} {r : Option (List Fa)} {e : Int} (ho : ∀ c ∈ l, c.ok) (hm : most ≤ 100000) (h : ModA l fs most r e) : (r.getD []).length ≤ 100000 := by
  by_cases q : e = 0
  · obtain ⟨_, _, M, rfl, _, h4, _⟩ := h.ok ho q
    show M.length ≤ 100000; omega
  · rw [h.none_ ho q]; exact Nat.zero_le _
theorem gB_one {n i j : Nat} (hj : j < n) : gB ((List.replicate n false).set i true) j = upd1 (fun _ => false) i j := by
  unfold gB upd1
  rw [List.getElem?_set]
  by_cases h : i = j
  · subst h; simp [hj]
  · rw [if_neg h, if_neg (fun q => h q.symm)]; simp [hj]
theorem cs_snoc (l : List Nat) (i : Nat) : cs (l ++ [i]) = cs l ++ [(i : Int)] := by unfold cs; simp
theorem restL_in {W : (Nat → Bool) → Bool} {i : Nat} (h : W (upd1 (fun _ => false) i) = false) : cs (restL W i) ++ [(i : Int)] = cs (restL W (i + 1)) := by
  rw [← cs_snoc]; unfold restL; rw [List.range_succ, List.filter_append]; simp [h]
theorem restL_out {W : (Nat → Bool) → Bool} {i : Nat} (h : W (upd1 (fun _ => false) i) = true) : cs (restL W i) = cs (restL W (i + 1)) := by
  unfold restL; rw [List.range_succ, List.filter_append]; simp [h]
theorem restL_len (W : (Nat → Bool) → Bool) (i : Nat) : (cs (restL W i)).length ≤ i := by
  unfold cs restL; rw [List.length_map]; exact Nat.le_trans (List.length_filter_le ..) (by rw [List.length_range]; exact Nat.le_refl _)
noncomputable def goneL (W : (Nat → Bool) → Bool) (n k : Nat) : List Bool := (List.range n).map (gone W n k)
theorem goneL_len {W : (Nat → Bool) → Bool} {n k : Nat} : (goneL W n k).length = n := by unfold goneL; simp
theorem goneL_at {W : (Nat → Bool) → Bool} {n k j : Nat} (h : j < n) : (goneL W n k)[j]? = some (gone W n k j) := by unfold goneL; simp [h]
theorem goneL_zero {W : (Nat → Bool) → Bool} {n : Nat} : List.replicate n false = goneL W n 0 := by
  apply List.ext_getElem?
  intro j
  by_cases h : j < n
  · rw [goneL_at h]; simp [h, gone]
  · rw [List.getElem?_eq_none (by rw [List.length_replicate]; omega), List.getElem?_eq_none (by rw [goneL_len]; omega)]
theorem gB_gone {W : (Nat → Bool) → Bool} {n k i j : Nat} (hj : j < n) : gB ((goneL W n k).set i true) j = upd1 (gone W n k) i j := by
  unfold gB upd1
  rw [List.getElem?_set, goneL_len]
  by_cases h : i = j
  · subst h; simp [hj]
  · rw [if_neg h, if_neg (fun q => h q.symm), goneL_at hj]; rfl
theorem goneL_next {W : (Nat → Bool) → Bool} {n k i : Nat} (hk : k < n) (hi : i = n - 1 - k) {w : Bool} (hw : w = W (upd1 (gone W n k) i)) : ((goneL W n k).set i true).set i w = goneL W n (k + 1) := by
  subst hi
  apply List.ext_getElem?
  intro j
  by_cases h : j < n
  · rw [goneL_at h, List.getElem?_set, List.getElem?_set, List.length_set, goneL_len]
    by_cases e : n - 1 - k = j
    · subst e; rw [if_pos rfl, if_pos h, hw, gone_at hk]
    · rw [if_neg e, if_neg e, goneL_at h, gone_high (fun q => e q.symm)]
  · rw [List.getElem?_eq_none (by rw [List.length_set, List.length_set, goneL_len]; omega), List.getElem?_eq_none (by rw [goneL_len]; omega)]
noncomputable def keysP (W : (Nat → Bool) → Bool) (n i : Nat) : List Nat := (List.range i).filter fun j => !gone W n n j
theorem keysP_in {W : (Nat → Bool) → Bool} {n i : Nat} (h : gone W n n i = false) : cs (keysP W n i) ++ [(i : Int)] = cs (keysP W n (i + 1)) := by
  rw [← cs_snoc]; unfold keysP; rw [List.range_succ, List.filter_append]; simp [h]
theorem keysP_out {W : (Nat → Bool) → Bool} {n i : Nat} (h : gone W n n i = true) : cs (keysP W n i) = cs (keysP W n (i + 1)) := by
  unfold keysP; rw [List.range_succ, List.filter_append]; simp [h]
theorem keysP_len (W : (Nat → Bool) → Bool) (n i : Nat) : (cs (keysP W n i)).length ≤ i := by
  unfold cs keysP; rw [List.length_map]; exact Nat.le_trans (List.length_filter_le ..) (by rw [List.length_range]; exact Nat.le_refl _)
def revP (l : List Int) (i : Nat) : List Int := (List.range l.length).map fun j => if j < i ∨ l.length - 1 - j < i then gt0 l (l.length - 1 - j) else gt0 l j
theorem revP_len (l : List Int) (i : Nat) : (revP l i).length = l.length := by unfold revP; simp
theorem revP_at {l : List Int} {i j : Nat} (h : j < l.length) : (revP l i)[j]? = some (if j < i ∨ l.length - 1 - j < i then gt0 l (l.length - 1 - j) else gt0 l j) := by unfold revP; simp [h]
theorem revP_zero (l : List Int) : l = revP l 0 := by
  apply List.ext_getElem?
  intro j
  by_cases h : j < l.length
  · rw [revP_at h, if_neg (by omega), gt0_get h]
  · rw [List.getElem?_eq_none (by omega), List.getElem?_eq_none (by rw [revP_len]; omega)]
theorem revP_next {l : List Int} {i : Nat} (h : i < l.length - 1 - i) : ((revP l i).set i (gt0 (revP l i) (l.length - 1 - i))).set (l.length - 1 - i) (gt0 (revP l i) i) = revP l (i + 1) := by
  have e1 : gt0 (revP l i) (l.length - 1 - i) = gt0 l (l.length - 1 - i) := by rw [gt0, revP_at (by omega), if_neg (by omega)]; rfl
  have e2 : gt0 (revP l i) i = gt0 l i := by rw [gt0, revP_at (by omega), if_neg (by omega)]; rfl
  apply List.ext_getElem?
  intro j
  by_cases hj : j < l.length
  · rw [revP_at hj, List.getElem?_set, List.getElem?_set, List.length_set, revP_len, e1, e2]
    by_cases a : l.length - 1 - i = j
    · rw [if_pos a, if_pos (by omega), if_pos (by omega), show l.length - 1 - j = i by omega]
    · rw [if_neg a]
      by_cases b : i = j
      · subst b; rw [if_pos rfl, if_pos hj, if_pos (by omega)]
      · rw [if_neg b, revP_at hj]
        by_cases c : j < i ∨ l.length - 1 - j < i
        · rw [if_pos c, if_pos (by omega)]
        · rw [if_neg c, if_neg (by omega)]
  · rw [List.getElem?_eq_none (by rw [List.length_set, List.length_set, revP_len]; omega), List.getElem?_eq_none (by rw [revP_len]; omega)]
theorem revP_end {l : List Int} {i : Nat} (h : ¬ i < l.length - 1 - i) : revP l i = l.reverse := by
  apply List.ext_getElem?
  intro j
  by_cases hj : j < l.length
  · rw [revP_at hj, List.getElem?_reverse hj]
    split
    · rw [gt0_get (by omega)]
    · rw [gt0_get (by omega), show l.length - 1 - j = j by omega]
  · rw [List.getElem?_eq_none (by rw [revP_len]; omega), List.getElem?_eq_none (by rw [List.length_reverse]; omega)]
theorem wrap64 {n : Int} (h : 0 ≤ n ∧ n < 18446744073709551616) : IntKind.u64.wrap n = n := by
  unfold IntKind.wrap IntKind.signed IntKind.bits
  simp
  omega
theorem of64 {n : Nat} (h : n < 2 ^ 64) : (BitVec.ofInt IntKind.u64.bits (n : Int)).toNat = n := by
  show (BitVec.ofInt 64 (n : Int)).toNat = n
  rw [BitVec.toNat_ofInt]; omega
theorem sh_bit {o i : Nat} (ho : o < 2 ^ 64) (hi : i < 64) : IntKind.u64.wrap (BitVec.ofInt IntKind.u64.bits ((o : Int).fdiv (2 ^ Nat.min i IntKind.u64.bits)) &&& BitVec.ofInt IntKind.u64.bits 1).toNat = if o.testBit i = true then 1 else 0 := by
  have e0 : Nat.min i IntKind.u64.bits = i := Nat.min_eq_left (show i ≤ 64 by omega)
  have e1 : (o : Int).fdiv (2 ^ i) = ((o / 2 ^ i : Nat) : Int) := by
    rw [Int.fdiv_eq_ediv_of_nonneg _ (by exact Int.pow_nonneg (by decide))]
    simp
  have e2 : o / 2 ^ i < 2 ^ 64 := Nat.lt_of_le_of_lt (Nat.div_le_self _ _) ho
  have e3 : (BitVec.ofInt IntKind.u64.bits ((o / 2 ^ i : Nat) : Int) &&& BitVec.ofInt IntKind.u64.bits 1).toNat = o / 2 ^ i % 2 := by
    rw [BitVec.toNat_and, of64 e2, show (BitVec.ofInt IntKind.u64.bits 1).toNat = 1 by decide, Nat.and_one_is_mod]
  rw [e0, e1, e3, Nat.testBit_eq_decide_div_mod_eq]
  have e4 := Nat.mod_lt (o / 2 ^ i) (show 0 < 2 by decide)
  rcases (show o / 2 ^ i % 2 = 0 ∨ o / 2 ^ i % 2 = 1 by omega) with e | e <;> rw [e] <;> decide
theorem one_bit {i : Nat} (hi : i < 64) : IntKind.u64.wrap (1 * 2 ^ Nat.min i IntKind.u64.bits) = ((2 ^ i : Nat) : Int) := by
  have e0 : Nat.min i IntKind.u64.bits = i := Nat.min_eq_left (show i ≤ 64 by omega)
  have h1 : (2 : Nat) ^ i < 2 ^ 64 := Nat.pow_lt_pow_right (by decide) hi
  rw [e0, Int.one_mul, show ((2 : Int) ^ i) = ((2 ^ i : Nat) : Int) by simp]
  generalize (2 : Nat) ^ i = n at h1
  exact wrap64 (by omega)
theorem or_bit {a b : Nat} (ha : a < 2 ^ 64) (hb : b < 2 ^ 64) : IntKind.u64.wrap (BitVec.ofInt IntKind.u64.bits (a : Int) ||| BitVec.ofInt IntKind.u64.bits (b : Int)).toNat = ((a ||| b : Nat) : Int) := by
  have h : a ||| b < 2 ^ 64 := Nat.or_lt_two_pow ha hb
  rw [BitVec.toNat_or, of64 ha, of64 hb, wrap64 (by constructor <;> omega)]
def bits (o : Nat) : Nat → Bool := fun i => o.testBit i
theorem bits_one (i : Nat) : bits (2 ^ i) = upd1 (fun _ => false) i := funext fun j => by
  unfold bits upd1
  rw [Nat.testBit_two_pow]
  by_cases h : j = i
  · subst h; simp
  · rw [if_neg h]; exact decide_eq_false (fun q => h q.symm)
theorem bits_or (a i : Nat) : bits (a ||| 2 ^ i) = upd1 (bits a) i := funext fun j => by
  unfold bits upd1
  rw [Nat.testBit_or, Nat.testBit_two_pow]
  by_cases h : j = i
  · subst h; simp
  · rw [if_neg h, decide_eq_false (fun q => h q.symm), Bool.or_false]
theorem bits_zero : bits 0 = fun _ => false := funext fun j => by unfold bits; exact Nat.zero_testBit j
def Kn (W : (Nat → Bool) → Bool) (m : List (Int × Value)) : Prop := ∀ (o : Nat) (v : Value), mget m (o : Int) = some v → v = .int .i64 (if W (bits o) = true then 1 else -1)
theorem Kn.nil (W : (Nat → Bool) → Bool) : Kn W [] := fun o v h => by cases h
theorem Kn.set {W : (Nat → Bool) → Bool} {m : List (Int × Value)} (h : Kn W m) {o : Nat} {v : Value} (hv : v = .int .i64 (if W (bits o) = true then 1 else -1)) : Kn W (mset m (o : Int) v) := fun p u q => by
  rw [mget_mset] at q
  split at q
  · rename_i e
    have e' : p = o := by omega
    subst e'; cases q; exact hv
  · exact h p u q
theorem Kn.get {W : (Nat → Bool) → Bool} {m : List (Int × Value)} (h : Kn W m) (o : Nat) : (mget m (o : Int)).getD (.int .i64 0) = .int .i64 0 ∨ (mget m (o : Int)).getD (.int .i64 0) = .int .i64 (if W (bits o) = true then 1 else -1) := by
  cases e : mget m (o : Int) with
  | none => exact .inl rfl
  | some v => exact .inr (h o v e)
theorem Kn.val {W : (Nat → Bool) → Bool} {m : List (Int × Value)} (h : Kn W m) (o : Nat) : ∃ z : Int, (mget m (o : Int)).getD (.int .i64 0) = .int .i64 z ∧ (z = 0 ∨ z = if W (bits o) = true then 1 else -1) := by
  rcases h.get o with e | e
  · exact ⟨0, e, .inl rfl⟩
  · exact ⟨_, e, .inr rfl⟩
theorem Kn.now {W : (Nat → Bool) → Bool} {m : List (Int × Value)} (h : Kn W m) {o : Nat} {v w : Value} (hw : w = .int .i64 (if W (bits o) = true then 1 else -1)) : Kn W (mset (mset m (o : Int) v) (o : Int) w) := fun p u q => by
  rw [mget_mset] at q
  split at q
  · rename_i e
    have e' : p = o := by omega
    subst e'; cases q; exact hw
  · rename_i e
    rw [mget_mset, if_neg e] at q
    exact h p u q
theorem sgn_pos {w : Bool} : decide (0 < (if w = true then (1 : Int) else -1)) = w := by cases w <;> decide
theorem sgn_dec {w : Bool} {z : Int} (h : ¬ z = 0) (q : z = 0 ∨ z = if w = true then 1 else -1) : decide (0 < z) = w := by
  rcases q with q | q
  · exact absurd q h
  · rw [q]; exact sgn_pos
theorem bit_no {b : Bool} (h : (if b = true then (1 : Int) else 0) = 0) : b = false := by cases b with | false => rfl | true => exact absurd h (by decide)
theorem bit_yes {b : Bool} (h : ¬ (if b = true then (1 : Int) else 0) = 0) : b = true := by cases b with | false => exact absurd rfl h | true => rfl
noncomputable def goneN (W : (Nat → Bool) → Bool) (n : Nat) : Nat → Nat
  | 0 => 0
  | k + 1 => if W (bits (goneN W n k ||| 2 ^ (n - 1 - k))) = true then goneN W n k ||| 2 ^ (n - 1 - k) else goneN W n k
theorem bits_goneN {W : (Nat → Bool) → Bool} {n : Nat} : ∀ k, bits (goneN W n k) = gone W n k
  | 0 => bits_zero
  | k + 1 => by
    have ih := bits_goneN (W := W) (n := n) k
    unfold goneN
    rw [gone_succ, bits_or, ih]
    split
    · rw [bits_or, ih]
    · exact ih
theorem goneN_lt {W : (Nat → Bool) → Bool} {n : Nat} (hn : n ≤ 64) : ∀ {k}, k ≤ n → goneN W n k < 2 ^ 64
  | 0, _ => by unfold goneN; decide
  | k + 1, hk => by
    have ih := goneN_lt (W := W) hn (k := k) (by omega)
    unfold goneN
    split
    · exact Nat.or_lt_two_pow ih (Nat.pow_lt_pow_right (by decide) (by omega))
    · exact ih
theorem goneN_yes {W : (Nat → Bool) → Bool} {n k : Nat} (h : W (upd1 (gone W n k) (n - 1 - k)) = true) : goneN W n (k + 1) = goneN W n k ||| 2 ^ (n - 1 - k) := by
  rw [goneN, bits_or, bits_goneN, if_pos h]
theorem goneN_no {W : (Nat → Bool) → Bool} {n k : Nat} (h : W (upd1 (gone W n k) (n - 1 - k)) = false) : goneN W n (k + 1) = goneN W n k := by
  rw [goneN, bits_or, bits_goneN, if_neg (by rw [h]; decide)]
noncomputable def outK (W : (Nat → Bool) → Bool) (n : Nat) : Nat → List Nat
  | 0 => []
  | k + 1 => if W (upd1 (gone W n k) (n - 1 - k)) = true then outK W n k else outK W n k ++ [n - 1 - k]
theorem outK_yes {W : (Nat → Bool) → Bool} {n k : Nat} (h : W (upd1 (gone W n k) (n - 1 - k)) = true) : outK W n (k + 1) = outK W n k := by rw [outK, if_pos h]
theorem outK_no {W : (Nat → Bool) → Bool} {n k : Nat} (h : W (upd1 (gone W n k) (n - 1 - k)) = false) : outK W n (k + 1) = outK W n k ++ [n - 1 - k] := by rw [outK, if_neg (by rw [h]; decide)]
theorem outK_len {W : (Nat → Bool) → Bool} {n : Nat} : ∀ k, (outK W n k).length ≤ k
  | 0 => Nat.le_refl _
  | k + 1 => by
    have ih := outK_len (W := W) (n := n) k
    unfold outK
    split
    · omega
    · rw [List.length_append]; simp; omega
theorem outK_rev {W : (Nat → Bool) → Bool} {n : Nat} : ∀ k, k ≤ n → (outK W n k).reverse = (List.range' (n - k) k).filter fun j => !gone W n n j
  | 0, _ => by simp [outK]
  | k + 1, hk => by
    have ih := outK_rev (W := W) (n := n) k (by omega)
    have h1 : gone W n n (n - 1 - k) = W (upd1 (gone W n k) (n - 1 - k)) := by
      rw [← gone_at (W := W) (show k < n by omega)]
      have h2 : ∀ d, k + 1 + d ≤ n → gone W n (k + 1 + d) (n - 1 - k) = gone W n (k + 1) (n - 1 - k) := fun d => by
        induction d with
        | zero => intro _; rfl
        | succ d ih => intro hd; rw [← Nat.add_assoc, gone_high (by omega)]; exact ih (by omega)
      have := h2 (n - (k + 1)) (by omega)
      rw [show k + 1 + (n - (k + 1)) = n by omega] at this
      exact this
    rw [show n - (k + 1) = n - 1 - k by omega, List.range'_succ, show n - 1 - k + 1 = n - k by omega, List.filter_cons]
    cases e : W (upd1 (gone W n k) (n - 1 - k)) with
    | true => rw [outK_yes e, ih, h1, e]; rfl
    | false => rw [outK_no e, List.reverse_append, ih, h1, e]; rfl
theorem outK_keys {W : (Nat → Bool) → Bool} {n : Nat} : (cs (outK W n n)).reverse = cs (keysP W n n) := by
  unfold cs keysP
  rw [← List.map_reverse, outK_rev n (Nat.le_refl _), Nat.sub_self, List.range_eq_range']
def knO (W : (Nat → Bool) → Bool) (bm : Nat) : OA := OA.ex fun m => OA.and (Kn W m) (mapO bm .u64 m)
theorem knO_mk {W : (Nat → Bool) → Bool} {bm : Nat} {m : List (Int × Value)} (hk : Kn W m) {hp h : Heap} (q : Sep hp [mapO bm .u64 m] h) : (knO W bm).p hp h := by
  obtain ⟨h1, h2, a, b, c, ⟨es, clock, d1, d2⟩, e⟩ := q
  exact ⟨m, hk, es, clock, a _ _ d1, d2⟩
theorem go_kn {C : Ctx} {k : List It} {E : Env} {Ps : List PA} {Os rr : List OA} {W : (Nat → Bool) → Bool} {bm : Nat} (h : Rem (knO W bm) Os rr) (g : ∀ m, Kn W m → Go C k E Ps (mapO bm .u64 m :: rr)) : Go C k E Ps Os :=
  go_oex h fun m => go_oand .here (g m)
section
variable {W : (Nat → Bool) → Bool} {n : Nat}
end
end Go.Proofs.YtmomkfedcmogmaaGreat.SL
namespace Go.Proofs.YtmomkfedcmogmaaGreat.SL
open Go Md
theorem ref30Less (a : List Fa) (A : Option Addr) (k : Nat) (b : List Fa) (B : Option Addr) (kb : Nat) (hn : a.length ≤ 1000000) :
    Spec Tryz.prog 31 #[.slice A a.length k, .slice B b.length kb] [sl tFa A k a, sl tFa B kb b] [] (fun v Ps' Os' => ∃ A' c', v = .slice A' (less a b).length c' ∧ Ps' = [sl tFa A' c' (less a b)] ∧ Os' = []) := by
 refine zSp _ Tryz.func31 Tryz.ntmps31 (fun _ _ _ => ?_)
 refine zR 10 ?_
 refine go_len (xs := a) zM (fun la ma => ?_)
 refine go_own_nil tFa 27 none ?_
 refine go_same (B := ol tFa 27 none 0 (less (a.take (0)) b)) .here (by rfl) ?_
 refine zR 4 ?_
 refine zO (X := Nat × Option Addr × Nat) (fun x => [(5, .slice x.2.1 (less (a.take (x.1)) b).length x.2.2), (6, .int .i64 (x.1 : Int))]) [0, 1] (fun x => [ol tFa 27 x.2.1 x.2.2 (less (a.take (x.1)) b)]) (fun x => x.1 ≤ a.length) (fun x => a.length - x.1) (0, none, 0) (Nat.zero_le _) ?_
 intro ⟨i, A3, c3⟩ hi
 simp only at hi ⊢
 have hsl := less_take a b i
 refine zD' 8 ?_ ?_
 ·intro hq1
  refine zR 2 ?_
  rw [show a.take i = a from List.take_of_length_le (by omega)]
  refine go_freeze_ol (xs := less a b) zM ?_
  refine zT 4 rfl ⟨A3, c3, rfl, rfl, rfl⟩
 intro hq1
 refine zR 4 ?_
 refine go_elem_fa (xs := a) zM (i) (List.getElem?_eq_getElem (by omega)) (fun b0 o0 A0 c0 hA => ?_); cases hA
 refine zI 4 ?_
 refine zL 0 ?_
 refine zC3 0 (ref13Has B kb b a[i] A0 c0) ?_
 refine zB' 2 ?_ ?_
 ·intro g1
  (try simp only [dcs, ne_eq] at g1)
  refine zR 7 ?_
  refine go_i64n 6 (i + 1) rfl ?_
  rw [less_no (by omega) g1]
  refine zz (i + 1, A3, c3) (by show i + 1 ≤ _; omega) (by show _ - (i + 1) < _ - i; omega)
 intro g1
 (try simp only [dcs, ne_eq] at g1)
 refine zI 4 ?_
 refine zL 0 ?_
 refine zV 0 ?_
 intro b1
 refine go_append1 (T := tFa) (xs := less (a.take (i)) b) Tk (a[i]) rfl rfl rfl rfl rfl rfl rfl rfl rfl zM zM rfl (ent_fa zM) (by omega) zH ?_
 intro A4 c4
 refine zE 2 [0, 1, 5, 6] ?_
 refine zR 6 ?_
 refine go_i64n 6 (i + 1) rfl ?_
 rw [less_yes (by omega) g1]
 refine zz (i + 1, A4, c4) (by show i + 1 ≤ _; omega) (by show _ - (i + 1) < _ - i; omega)
theorem ref30Without (l : List Cl) (LA : Option Addr) (lc : Nat) (gl : ∀ c ∈ l, c.ok) (hb0l : ∀ x ∈ l, x.b.length ≤ 1000) (hlll : l.length ≤ 20) (hbigl : ∀ c ∈ l, ∀ F N : List Fa, F.length ≤ 60 → (goL c F [] N c.b ch0 true).length ≤ 216000) (a : List Fa) (A : Option Addr) (k : Nat) (g : List Bool) (G : Option Addr) (gc : Nat) (f : Fa) (FA : Option Addr) (fk : Nat) (most : Int) (hm : most ≤ 60) (hfl : a.length ≤ 60) (hg : g.length = a.length) :
    Spec Tryz.prog 38 #[.slice LA l.length lc, .slice A a.length k, .slice G g.length gc, .agg #[.int .u32 f.p, .slice FA f.a.length fk], .int .i64 most] [sl tCl LA lc l, sl tFa A k a, sl tU FA fk f.a] [ol tBool 4 G gc g] (fun v Ps' Os' => v = .bool (isW l (kq (gB g) a a.length) f most) ∧ Ps' = [] ∧ Os' = [ol tBool 4 G gc g]) := by
 refine zSp _ Tryz.func38 Tryz.ntmps38 (fun _ _ _ => ?_)
 refine zX 2 ?_
 intro bq
 refine go_freeze_pt (b := bq) zM ?_
 refine zR 8 ?_
 refine go_len (xs := a) zM (fun la ma => ?_)
 refine go_own_nil tFa 27 none ?_
 refine go_same (B := ol tFa 27 none 0 (kq (gB g) a (0))) .here (by rfl) ?_
 refine zR 4 ?_
 refine zO (X := Nat × Option Addr × Nat) (fun x => [(11, .slice x.2.1 (kq (gB g) a (x.1)).length x.2.2), (12, .int .i64 (x.1 : Int))]) [0, 1, 2, 4, 8] (fun x => [ol tFa 27 x.2.1 x.2.2 (kq (gB g) a (x.1))]) (fun x => x.1 ≤ a.length) (fun x => a.length - x.1) (0, none, 0) (Nat.zero_le _) ?_
 intro ⟨i, A3, c3⟩ hi
 simp only at hi ⊢
 have hsl := kq_len (gB g) a i
 refine zD' 8 ?_ ?_
 ·intro hq1
  refine zR 2 ?_
  obtain rfl : i = a.length := by omega
  refine go_freeze_ol (xs := kq (gB g) a (a.length)) zM ?_
  refine zC 4 (ref15Of l LA lc (kq (gB g) a (a.length)) A3 c3 most gl hb0l hlll (by omega) hm hbigl) ?_
  rintro _ _ _ ⟨A1, k1, r1, e1, hM1, rfl, rfl, rfl⟩
  refine zE 6 [8, 13, 14] ?_
  refine zG' 5 42 ?_ ?_
  ·intro g2
   (try simp only [dcs, ne_eq] at g2)
   refine zT 6 rfl ⟨congrArg Value.bool (by rw [isW_and gl hM1, decide_eq_false g2, Bool.false_and]), rfl, rfl⟩
  intro g2
  (try simp only [dcs, ne_eq] at g2)
  refine zL 1 ?_
  refine zC3 0 (ref13Has A1 k1 (r1.getD []) f FA fk) ?_
  refine zT 3 rfl ⟨congrArg Value.bool (by rw [isW_and gl hM1, decide_eq_true g2, Bool.true_and]), rfl, rfl⟩
 intro hq1
 refine zR 4 ?_
 refine go_ol_addr (xs := g) zM (by omega) (fun bL hL => ?_); subst hL
 refine zI 3 ?_
 refine go_val0 rfl (load_val (cs := [.bool (g[i]'(by omega))]) Tk rfl rfl rfl (at_ol (T := tBool) (fun y : Bool => [.bool y]) (fun _ _ _ h => h) 0 (xs := g) (j := i) zM (List.getElem?_eq_getElem (by omega)) rfl) rfl) rfl ?_
 refine zB' 2 ?_ ?_
 ·intro g1
  (try simp only [dcs, ne_eq] at g1)
  refine zR 7 ?_
  refine go_i64n 12 (i + 1) rfl ?_
  rw [kq_yes (by omega) ((gB_at (by omega)).trans g1)]
  refine zz (i + 1, A3, c3) (by show i + 1 ≤ _; omega) (by show _ - (i + 1) < _ - i; omega)
 intro g1
 (try simp only [dcs, ne_eq] at g1)
 refine go_elem_fa (xs := a) zM (i) (List.getElem?_eq_getElem (by omega)) (fun b0 o0 A0 c0 hA => ?_); cases hA
 refine zI 4 ?_
 refine zL 0 ?_
 refine zV 0 ?_
 intro b1
 refine go_append1 (T := tFa) (xs := kq (gB g) a (i)) Tk (a[i]) rfl rfl rfl rfl rfl rfl rfl rfl rfl zM zM rfl (ent_fa zM) (by omega) zH ?_
 intro A4 c4
 refine zE 2 [0, 1, 2, 4, 8, 11, 12] ?_
 refine zR 6 ?_
 refine go_i64n 12 (i + 1) rfl ?_
 rw [kq_no (by omega) ((gB_at (by omega)).trans g1)]
 refine zz (i + 1, A4, c4) (by show i + 1 ≤ _; omega) (by show _ - (i + 1) < _ - i; omega)
theorem ref30Asks (l : List Cl) (LA : Option Addr) (lc : Nat) (gl : ∀ c ∈ l, c.ok) (hb0l : ∀ x ∈ l, x.b.length ≤ 1000) (hlll : l.length ≤ 20) (hbigl : ∀ c ∈ l, ∀ F N : List Fa, F.length ≤ 60 → (goL c F [] N c.b ch0 true).length ≤ 216000) (a : List Fa) (A : Option Addr) (k : Nat) (f : Fa) (FA : Option Addr) (fk : Nat) (most : Int) (hm : most ≤ 60) (hfl : a.length ≤ 60) :
    Spec Tryz.prog 37 #[.slice LA l.length lc, .slice A a.length k, .agg #[.int .u32 f.p, .slice FA f.a.length fk], .int .i64 most] [sl tCl LA lc l, sl tFa A k a, sl tU FA fk f.a] [] (fun v Ps' Os' => ∃ e, AskR l a f most e ∧ v = .int .i64 e ∧ Ps' = [] ∧ Os' = []) := by
 refine zSp _ Tryz.func37 Tryz.ntmps37 (fun _ _ _ => ?_)
 refine zX 2 ?_
 intro bq
 refine go_freeze_pt (b := bq) zM ?_
 refine zD 9 ?_ ?_
 ·intro hq1
  exfalso; omega
 intro hq1
 refine zC 6 (ref15Of l LA lc a A k most gl hb0l hlll (by omega) hm hbigl) ?_
 rintro _ _ _ ⟨A1, k1, r1, e1, hM1, rfl, rfl, rfl⟩
 refine zE 6 [6, 9, 10] ?_
 refine zG' 6 23 ?_ ?_
 ·intro g2
  (try simp only [dcs, ne_eq] at g2)
  refine zDf 6 ?_
  refine zE 6 [8] ?_
  refine zT 0 rfl ⟨e1, ⟨r1, e1, hM1, by rw [if_neg g2]⟩, rfl, rfl, rfl⟩
 intro g2
 (try simp only [dcs, ne_eq] at g2)
 refine zL 1 ?_
 refine zC3 0 (ref13Has A1 k1 (r1.getD []) f FA fk) ?_
 refine zB 3 ?_ ?_
 ·intro g3
  (try simp only [dcs, ne_eq] at g3)
  refine zT 4 rfl ⟨4, ⟨r1, e1, hM1, by rw [if_pos g2, if_neg g3]⟩, rfl, rfl, rfl⟩
 intro g3
 (try simp only [dcs, ne_eq] at g3)
 refine zE 6 [8] ?_
 refine zT 0 rfl ⟨e1, ⟨r1, e1, hM1, by rw [if_pos g2, if_pos g3]; exact g2⟩, rfl, rfl, rfl⟩
theorem ref30Same (A : Option Addr) (c : Nat) (l : List Int) (B : Option Addr) (d : Nat) (m : List Int) :
    Spec Tryz.prog 16 #[.slice A l.length c, .slice B m.length d] [sl tI A c l, sl tI B d m] [] (fun v Ps' Os' => v = .bool (decide (l = m)) ∧ Ps' = [] ∧ Os' = []) := by
 refine zSp _ Tryz.func16 Tryz.ntmps16 (fun _ _ _ => ?_)
 refine zR 6 ?_
 refine go_len (xs := l) zM (fun l0 m0 => ?_)
 refine go_len (xs := m) zM (fun l1 m1 => ?_)
 refine zN 7 ?_ ?_
 ·intro g1
  refine zT 4 rfl ⟨by rw [decide_eq_false (fun q => g1 (by rw [q]))], rfl, rfl⟩
 intro g1
 refine zR 3 ?_
 have hl : l.length = m.length := by omega
 refine zR 4 ?_
 refine zO (X := Nat) (fun k => [(5, .int .i64 (k : Int))]) [0, 1] (fun _ => []) (fun k => k ≤ l.length ∧ l.take k = m.take k) (fun k => l.length - k) 0 ⟨by omega, by simp⟩ ?_
 intro k ⟨hk, hz⟩
 refine zD' 8 ?_ ?_
 ·intro hq1
  refine zT 5 rfl ⟨by rw [decide_eq_true (show l = m by rw [List.take_of_length_le (show l.length ≤ k by omega), List.take_of_length_le (show m.length ≤ k by omega)] at hz; exact hz)], rfl, rfl⟩
 intro hq1
 refine zR 4 ?_
 refine go_elem_int (xs := l) (c := c) zM (k) (List.getElem?_eq_getElem (by omega)) (fun b0 o0 hA => ?_); cases hA
 refine go_elem_int (xs := m) (c := d) zM (k) (List.getElem?_eq_getElem (by omega)) (fun b2 o2 hA => ?_); cases hA
 refine zY 0 [1, 4, 7, 13, 16, 19, 11, 23, 25] ?_
 refine zI 2 ?_
 refine zI 2 ?_
 refine zK 0 ?_
 refine zK 0 ?_
 refine zE 2 [0, 1, 5, 25] ?_
 refine zN 0 ?_ ?_
 ·intro g2
  refine zT 4 rfl ⟨by rw [decide_eq_false (fun q => g2 (by subst q; rfl))], rfl, rfl⟩
 intro g2
 refine zR 7 ?_
 refine zi 5 ?_
 refine zz (k + 1) (⟨by omega, take_next (by omega) (by omega) hz g2⟩) (by omega)
end Go.Proofs.YtmomkfedcmogmaaGreat.SL

