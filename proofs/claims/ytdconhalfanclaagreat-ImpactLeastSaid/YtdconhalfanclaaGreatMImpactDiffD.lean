/- Engine, data and contracts: parts of the proof of ImpactDiff, put together (Graphd DU Graphe Graphf DG DJ DK DN DO DP DH DI DQ DR DV Safed Safee Safef Safeg Strata Stratb DW Stratc DX Joina Joinb Joinc Joind Joine Joinf). -/
import Derived.Test.YtdconhalfanclaaGreatMImpactDiffC
import Derived.Test.YtdconhalfanclaaGreatMImpactDiffA
import Derived.Test.YtdconhalfanclaaGreatMImpactDiffB
set_option linter.unusedVariables false
set_option linter.unusedSimpArgs false
set_option maxHeartbeats 2000000
set_option maxRecDepth 20000
namespace Go.Proofs.YtdconhalfanclaaGreat.SL
open Go
set_option maxHeartbeats 4000000 in
theorem insertW (A : Option Addr) (c : Nat) (l : List Int) (k bv : Nat) (q : Int) (hk : k ≤ l.length) (hn : l.length ≤ 1000000) :
    Spec Tryz.prog 160 #[.slice A l.length c, .int .i64 (k : Int), .slice (some ⟨bv, 0, none⟩) 1 1] [] [olw 3 A c (l), pt bv 3 [Value.int IntKind.i64 q]] (fun v Ps' Os' => ∃ A2 c2, v = .slice A2 (l.take k ++ q :: l.drop k).length c2 ∧ Ps' = [] ∧ Os' = [olw 3 A2 c2 (l.take k ++ q :: l.drop k)]) := by
 refine zSp _ Tryz.func160 Tryz.ntmps160 (fun _ _ _ => ?_)
 refine zR 1 ?_
 refine go_len_olw (xs := l) zM (fun l0 m0 => ?_)
 refine zR 7 ?_
 refine go_val0 rfl (slice_val' Tk rfl rfl rfl rfl k l.length c _ (by first | rfl | exact ⟨_, rfl⟩ | exact ⟨rfl, rfl⟩) (by first | rfl | exact ⟨_, rfl⟩ | exact ⟨rfl, rfl⟩) (by first | rfl | exact ⟨_, rfl⟩ | exact ⟨rfl, rfl⟩) hk (by omega) (by omega) rfl) rfl ?_
 refine zD 13 ?_ ?_
 ·intro hq1
  exfalso; omega
 intro hq1
 refine zE 14 [0, 1, 2, 7, 8, 22] ?_
 refine zD 0 ?_ ?_
 ·intro ck
  obtain rfl : k = l.length := by omega
  rw [List.take_length, List.drop_length]
  refine zR 1 ?_
  by_cases hz : 0 < c
  ·skip
   refine zR 3 ?_
   refine go_append1w (xs := l) Tk rfl rfl rfl rfl rfl rfl rfl rfl zM zM (by omega) hz zH ?_
   intro A2 c2
   refine zT 2 rfl ⟨_, _, rfl, rfl, rfl⟩
  ·skip
   refine zR 3 ?_
   obtain rfl : l = [] := List.eq_nil_of_length_eq_zero (by omega)
   obtain rfl : c = 0 := by omega
   refine go_own_nil tI 3 A ?_
   refine go_append1 (T := tI) (xs := []) Tk q rfl rfl rfl rfl rfl rfl rfl rfl rfl zM zM rfl ent_int (by simp) zH ?_
   intro A2 c2
   refine go_ol_olw (xs := [] ++ [q]) zM ?_
   refine zT 2 rfl ⟨_, _, rfl, rfl, rfl⟩
 intro ck
 refine zR 7 ?_
 refine zi 28 ?_
 refine zD 4 ?_ ?_
 ·intro cc
  refine go_olw_open (xs := l) zM (by omega) (fun b oo cur hA h1 h2 h3 h4 => ?_); cases hA
  have h5 : (cur.drop oo).length = c := by rw [List.length_drop]; omega
  have hil := ints_len l
  have h6 : ∀ i v, ((ints l).drop k)[i]? = some v → cur[oo + k * 1 + i]? = some v := fun i v hv => by
    rw [← h2, List.getElem?_drop] at hv
    have hi : k + i < l.length := by have := (List.getElem?_eq_some_iff.1 hv).1; rw [List.length_take] at this; omega
    rw [List.getElem?_take, if_pos hi, List.getElem?_drop] at hv
    rw [show oo + k * 1 + i = oo + (k + i) by omega]; exact hv
  have hdl : ((ints l).drop k).length = l.length - k := by rw [List.length_drop, hil]
  have hone : oneCells ((ints l).drop k) = true := oneCells_drop _ (ints_one l)
  have hR : ints (l.take k ++ q :: l.drop k) = (ints l).take (k * 1) ++ ([Value.int IntKind.i64 q] ++ (ints l).drop (k * 1)) := by simp [ints, List.map_take, List.map_drop]
  have hRl : (l.take k ++ q :: l.drop k).length = l.length + 1 := by simp; omega
  refine zR 4 ?_
  refine go_val0 rfl (slice_val' Tk rfl rfl rfl rfl 0 k c (.slice (some ⟨b, oo, none⟩) k c) (by first | rfl | exact ⟨_, rfl⟩ | exact ⟨rfl, rfl⟩) (by first | rfl | exact ⟨_, rfl⟩ | exact ⟨rfl, rfl⟩) (by first | rfl | exact ⟨_, rfl⟩ | exact ⟨rfl, rfl⟩) (by omega) (by omega) (by omega) (by rw [sub0]; rfl)) rfl ?_
  refine zR 3 ?_
  refine zi 37 ?_
  refine zR 2 ?_
  refine go_i64n 39 (l.length + 1 - k) rfl ?_
  refine go_append_zerosW (m := l.length + 1 - k) (old := (ints l).take (k * 1)) Tk rfl rfl rfl rfl rfl rfl rfl rfl rfl rfl (at_part (b := b) (cur := cur) zM (by show _ = k * 1; rw [List.length_take, hil]; omega) (by show oo + k * 1 ≤ _; omega) (by show (cur.drop oo).take (k * 1) = _; rw [← h2, List.take_take]; congr 1; omega)) (by omega) (by omega) (by omega) rfl zH ?_
  intro b2 c2 cur2 g1 g2 g3 g4
  rw [show k + (l.length + 1 - k) = l.length + 1 from by omega]
  have g1' : cur2.length = c2 * 1 := g1
  have g2' : cur2.take (k * 1) = (ints l).take (k * 1) := g2
  have hins := ins_cells (n := l.length) (s := 1) (v := [Value.int IntKind.i64 q]) (by rw [hil]; omega) rfl g1' g2' hk (by omega) (0 + k * 1) (0 + (k + 1) * 1) (Nat.zero_add _) (Nat.zero_add _)
  refine zE 2 [0, 1, 2, 7, 9] ?_
  refine zR 4 ?_
  refine go_val0 rfl (slice_val' Tk rfl rfl rfl rfl k (l.length + 1) c2 (.slice (some ⟨b2, 0 + k * 1, none⟩) (l.length + 1 - k) (c2 - k)) (by first | rfl | exact ⟨_, rfl⟩ | exact ⟨rfl, rfl⟩) (by first | rfl | exact ⟨_, rfl⟩ | exact ⟨rfl, rfl⟩) (by first | rfl | exact ⟨_, rfl⟩ | exact ⟨rfl, rfl⟩) (by omega) (by omega) (by omega) (by rw [subN (by omega)]; rfl)) rfl ?_
  refine zR 1 ?_
  refine go_copy (b := b2) (news := [Value.int IntKind.i64 q]) Tk rfl rfl rfl rfl rfl rfl rfl zM 1 (by show Nat.min 1 _ = 1; exact Nat.min_eq_left (by omega)) (at_pt (b := bv) zM rfl) rfl hins.2.2.1 zH ?_
  refine zY 2 [1, 4, 7, 10, 13, 16, 19, 22, 24] ?_
  refine zR 4 ?_
  refine zi 49 ?_
  refine go_val1 rfl (slice_val' Tk rfl rfl rfl rfl (k + 1) (l.length + 1) c2 (.slice (some ⟨b2, 0 + (k + 1) * 1, none⟩) (l.length + 1 - (k + 1)) (c2 - (k + 1))) (by first | rfl | exact ⟨_, rfl⟩ | exact ⟨rfl, rfl⟩) (by first | rfl | exact ⟨_, rfl⟩ | exact ⟨rfl, rfl⟩) (by first | rfl | exact ⟨_, rfl⟩ | exact ⟨rfl, rfl⟩) (by omega) (by omega) (by omega) (by rw [subN (by omega)]; rfl)) rfl ?_
  refine zR 2 ?_
  refine go_val1 rfl (slice_val' Tk rfl rfl rfl rfl k l.length c (.slice (some ⟨b, oo + k * 1, none⟩) (l.length - k) (c - k)) (by first | rfl | exact ⟨_, rfl⟩ | exact ⟨rfl, rfl⟩) (by first | rfl | exact ⟨_, rfl⟩ | exact ⟨rfl, rfl⟩) (by first | rfl | exact ⟨_, rfl⟩ | exact ⟨rfl, rfl⟩) (by omega) (by omega) (by omega) (by rw [subN (by omega)]; rfl)) rfl ?_
  refine go_copy (b := b2) (b2 := b) (news := (ints l).drop (k * 1)) Tk rfl rfl rfl rfl rfl rfl rfl zM (l.length - k) (by show Nat.min _ _ = _; exact Nat.min_eq_left (by omega)) (at_any (b := b) (cur := cur) zM (by show _ = (l.length - k) * 1; rw [Nat.mul_one, Nat.mul_one]; exact hdl) (fun i v hv => h6 i v (by rw [Nat.mul_one] at hv; exact hv))) (by rw [Nat.mul_one]; exact hone) hins.2.2.2 zQ ?_
  refine go_olw_close (b := b2) (oo := 0) (c := c2) (l.take k ++ q :: l.drop k) zM (by have := hins.2.1; omega) (by rw [List.drop_zero, hRl, hR]; have := hins.1; rw [Nat.mul_one (l.length + 1)] at this; exact this) (by omega) g4 ?_
  rw [← hRl]
  refine zE 1 [9] ?_
  refine zT 5 rfl ⟨_, _, rfl, rfl, rfl⟩
 intro cc
 refine go_olw_open (xs := l) zM (by omega) (fun b oo cur hA h1 h2 h3 h4 => ?_); cases hA
 have h5 : (cur.drop oo).length = c := by rw [List.length_drop]; omega
 have hil := ints_len l
 have h6 : ∀ i v, ((ints l).drop k)[i]? = some v → cur[oo + k * 1 + i]? = some v := fun i v hv => by
   rw [← h2, List.getElem?_drop] at hv
   have hi : k + i < l.length := by have := (List.getElem?_eq_some_iff.1 hv).1; rw [List.length_take] at this; omega
   rw [List.getElem?_take, if_pos hi, List.getElem?_drop] at hv
   rw [show oo + k * 1 + i = oo + (k + i) by omega]; exact hv
 have hdl : ((ints l).drop k).length = l.length - k := by rw [List.length_drop, hil]
 have hone : oneCells ((ints l).drop k) = true := oneCells_drop _ (ints_one l)
 have hR : ints (l.take k ++ q :: l.drop k) = (ints l).take (k * 1) ++ ([Value.int IntKind.i64 q] ++ (ints l).drop (k * 1)) := by simp [ints, List.map_take, List.map_drop]
 have hRl : (l.take k ++ q :: l.drop k).length = l.length + 1 := by simp; omega
 refine zR 7 ?_
 refine zi 59 ?_
 refine go_val0 rfl (slice_val' Tk rfl rfl rfl rfl 0 (l.length + 1) c (.slice (some ⟨b, oo, none⟩) (l.length + 1) c) (by first | rfl | exact ⟨_, rfl⟩ | exact ⟨rfl, rfl⟩) (by first | rfl | exact ⟨_, rfl⟩ | exact ⟨rfl, rfl⟩) (by first | rfl | exact ⟨_, rfl⟩ | exact ⟨rfl, rfl⟩) (by omega) (by omega) (by omega) (by rw [sub0]; rfl)) rfl ?_
 refine zE 2 [0, 1, 2, 7, 8] ?_
 refine zR 8 ?_
 refine zi 65 ?_
 refine go_val0 rfl (slice_val' Tk rfl rfl rfl rfl (k + 1) (l.length + 1) c (.slice (some ⟨b, oo + (k + 1) * 1, none⟩) (l.length + 1 - (k + 1)) (c - (k + 1))) (by first | rfl | exact ⟨_, rfl⟩ | exact ⟨rfl, rfl⟩) (by first | rfl | exact ⟨_, rfl⟩ | exact ⟨rfl, rfl⟩) (by first | rfl | exact ⟨_, rfl⟩ | exact ⟨rfl, rfl⟩) (by omega) (by omega) (by omega) (by rw [subN (by omega)]; rfl)) rfl ?_
 refine go_val0 rfl (ext_val Tryz.func182 (by kernel_rfl) (by kernel_rfl) (by kernel_rfl) (e := Extern.SlicesOverlaps.overlaps #[41, 41] #[4]) (by kernel_rfl) rfl (by rfl) (apart_run Tk (tS := 41) rfl rfl (ba := bv) (bb := b) zM zM (fun e => by rw [e] at h1; simp at h1; omega))) rfl ?_
 refine zDt 2 ?_
 refine zR 1 ?_
 have hins := ins_cells2 (n := l.length) (s := 1) (v := [Value.int IntKind.i64 q]) (by rw [hil]; omega) rfl (show (cur.drop oo).length = c * 1 by omega) (by rw [Nat.mul_one]; exact h2) hk (by omega) (0 + k * 1) (0 + (k + 1) * 1) (Nat.zero_add _) (Nat.zero_add _)
 refine zY 0 [1, 4, 7, 10, 13, 16, 19, 22, 24] ?_
 refine zR 4 ?_
 refine zi 72 ?_
 refine go_val1 rfl (slice_val' Tk rfl rfl rfl rfl (k + 1) (l.length + 1) c (.slice (some ⟨b, oo + (k + 1) * 1, none⟩) (l.length + 1 - (k + 1)) (c - (k + 1))) (by first | rfl | exact ⟨_, rfl⟩ | exact ⟨rfl, rfl⟩) (by first | rfl | exact ⟨_, rfl⟩ | exact ⟨rfl, rfl⟩) (by first | rfl | exact ⟨_, rfl⟩ | exact ⟨rfl, rfl⟩) (by omega) (by omega) (by omega) (by rw [subN (by omega)]; rfl)) rfl ?_
 refine zR 2 ?_
 refine go_val1 rfl (slice_val' Tk rfl rfl rfl rfl k (l.length + 1) c (.slice (some ⟨b, oo + k * 1, none⟩) (l.length + 1 - k) (c - k)) (by first | rfl | exact ⟨_, rfl⟩ | exact ⟨rfl, rfl⟩) (by first | rfl | exact ⟨_, rfl⟩ | exact ⟨rfl, rfl⟩) (by first | rfl | exact ⟨_, rfl⟩ | exact ⟨rfl, rfl⟩) (by omega) (by omega) (by omega) (by rw [subN (by omega)]; rfl)) rfl ?_
 refine go_copy (b := b) (b2 := b) (news := (ints l).drop (k * 1)) Tk rfl rfl rfl rfl rfl rfl rfl zM (l.length - k) (by show Nat.min _ _ = _; rw [show l.length + 1 - (k + 1) = l.length - k from by omega]; exact Nat.min_eq_right (by omega)) (at_any (b := b) (cur := cur) zM (by show _ = (l.length - k) * 1; rw [Nat.mul_one, Nat.mul_one]; exact hdl) (fun i v hv => h6 i v (by rw [Nat.mul_one] at hv; exact hv))) (by rw [Nat.mul_one]; exact hone) (by show oo + (k + 1) * 1 + (l.length - k) * 1 ≤ _; omega) zQ ?_
 refine zE 1 [0, 1, 2] ?_
 refine zR 4 ?_
 refine go_val0 rfl (slice_val' Tk rfl rfl rfl rfl k (l.length + 1) c (.slice (some ⟨b, oo + k * 1, none⟩) (l.length + 1 - k) (c - k)) (by first | rfl | exact ⟨_, rfl⟩ | exact ⟨rfl, rfl⟩) (by first | rfl | exact ⟨_, rfl⟩ | exact ⟨rfl, rfl⟩) (by first | rfl | exact ⟨_, rfl⟩ | exact ⟨rfl, rfl⟩) (by omega) (by omega) (by omega) (by rw [subN (by omega)]; rfl)) rfl ?_
 refine zR 1 ?_
 have hpl : (putS (oo + (k + 1) * 1) ((ints l).drop (k * 1)) cur).length = cur.length := putS_len (by rw [Nat.mul_one, Nat.mul_one, hdl]; omega)
 refine go_copy (b := b) (news := [Value.int IntKind.i64 q]) Tk rfl rfl rfl rfl rfl rfl rfl zM 1 (by show Nat.min 1 _ = 1; exact Nat.min_eq_left (by omega)) (at_pt (b := bv) zM rfl) rfl (by rw [hpl]; show oo + k * 1 + 1 * 1 ≤ _; omega) zH ?_
 refine go_olw_close (b := b) (oo := oo) (c := c) (l.take k ++ q :: l.drop k) zM (by rw [putS_len (by rw [hpl]; show oo + k * 1 + 1 ≤ _; omega), hpl]; exact h1) (by rw [putS_drop (by omega) (by rw [hpl]; omega), putS_drop (by omega) (by omega), show oo + k * 1 - oo = 0 + k * 1 by omega, show oo + (k + 1) * 1 - oo = 0 + (k + 1) * 1 by omega, hRl, hR]; have := hins.1; rw [Nat.mul_one (l.length + 1)] at this; exact this) (by omega) h4 ?_
 rw [← hRl]
 refine zT 6 rfl ⟨_, _, rfl, rfl, rfl⟩
def CmpSome (g : FuncId) (cap : Array Value) (PS : List PA) (l : List Int) (y : Int) : Prop := ∀ x ∈ l, Spec Tryz.prog g (Value.int .i64 x :: Value.int .i64 y :: cap.toList).toArray PS [] (fun v Ps' Os' => (∃ z, v = .int .i64 z) ∧ Ps' = [] ∧ Os' = [])
theorem binI (A : Option Addr) (c : Nat) (l : List Int) (y : Int) (g : FuncId) (cap : Array Value) (P1 P2 P3 : PA) (hc : CmpSome g cap [P1, P2, P3] l y) (hn : l.length ≤ 1000000) :
    Spec Tryz.prog 159 #[.slice A l.length c, .int .i64 y, .func (.func g) #[] cap] [sl tI A c l, P1, P2, P3] [] (fun v Ps' Os' => (∃ (i : Nat) (f : Bool), i ≤ l.length ∧ v = .tuple #[.int .i64 (i : Int), .bool f]) ∧ Ps' = [] ∧ Os' = []) := by
 refine zSp _ Tryz.func159 Tryz.ntmps159 (fun _ _ _ => ?_)
 refine zR 1 ?_
 refine go_len (xs := l) zM (fun l0 m0 => ?_)
 refine zR 18 ?_
 refine zO (X := Nat × Nat) (fun x => [(9, .int .i64 (x.1 : Int)), (10, .int .i64 (x.2 : Int))]) [0, 1, 2, 8] (fun _ => []) (fun x => x.1 ≤ x.2 ∧ x.2 ≤ l.length) (fun x => x.2 - x.1) (0, l.length) ⟨by omega, by omega⟩ ?_
 intro ⟨i, j⟩ ⟨hij, hj⟩
 simp only at hij hj ⊢
 refine zD' 7 ?_ ?_
 ·intro hq1
  refine zR 2 ?_
  by_cases hin : i < l.length
  ·skip
   refine go_elem_int (xs := l) zM (i) (List.getElem?_eq_getElem (by omega)) (fun b0 o0 hA => ?_); cases hA
   refine zR 5 ?_
   refine go_re 38 (.bool true) (by show some (Value.bool (decide _)) = _; rw [decide_eq_true (by omega)]) ?_
   refine zI 4 ?_
   refine zL 0 ?_
   refine zC 1 (hc l[i] (List.getElem_mem _)) ?_
   rintro _ _ _ ⟨⟨z, rfl⟩, rfl, rfl⟩
   refine zE 5 [6, 7] ?_
   refine zT 0 rfl ⟨⟨i, _, by omega, rfl⟩, rfl, rfl⟩
  ·skip
   refine zR 5 ?_
   refine go_re 38 (.bool false) (by show some (Value.bool (decide _)) = _; rw [decide_eq_false (by omega)]) ?_
   refine zE 13 [6, 7] ?_
   refine zT 0 rfl ⟨⟨i, _, by omega, rfl⟩, rfl, rfl⟩
 intro hq1
 refine zR 7 ?_
 refine zi 20 ?_
 refine zR 1 ?_
 refine go_re 21 (.int .u64 ((i + j : Nat) : Int)) (by show some (Value.int _ _) = _; rw [wrap_u64 (by omega)]; rfl) ?_
 refine zR 1 ?_
 refine go_re 22 (.int .u64 (((i + j) / 2 : Nat) : Int)) (by show some (Value.int _ _) = _; rw [← half]) ?_
 refine zR 1 ?_
 refine zi 23 ?_
 obtain ⟨h, hh⟩ : ∃ h, h = (i + j) / 2 := ⟨_, rfl⟩
 rw [← hh]
 have hih : i ≤ h ∧ h < j := by omega
 refine zR 3 ?_
 refine go_elem_int (xs := l) zM (h) (List.getElem?_eq_getElem (by omega)) (fun b0 o0 hA => ?_); cases hA
 refine zI 4 ?_
 refine zL 0 ?_
 refine zC 1 (hc l[h] (List.getElem_mem _)) ?_
 rintro _ _ _ ⟨⟨z, rfl⟩, rfl, rfl⟩
 refine zE 2 [0, 1, 2, 8, 9, 10, 11, 31] ?_
 refine zD' 0 ?_ ?_
 ·intro c2
  refine zR 5 ?_
  refine zz (i, h) ⟨by show i ≤ h; omega, by show h ≤ _; omega⟩ (by show h - i < j - i; omega)
 intro c2
 refine zR 3 ?_
 refine go_i64n 33 (h + 1) rfl ?_
 refine zR 3 ?_
 refine zz (h + 1, j) ⟨by show h + 1 ≤ j; omega, hj⟩ (by show j - (h + 1) < j - i; omega)
end Go.Proofs.YtdconhalfanclaaGreat.SL
namespace Go.Proofs.YtdconhalfanclaaGreat.SL
open Tj
def wsA (ws : List Wt) (a : Nat) : List Int := ((ws[a]?).map (·.s)).getD []
def ldA (ld : List (Rw Int)) (b : Nat) : List Int := ((ld[b]?).map (·.l)).getD []
theorem wsA_at {ws : List Wt} {a : Nat} {x : Wt} (h : ws[a]? = some x) : wsA ws a = x.s := by rw [wsA, h]; rfl
theorem ldA_at {ld : List (Rw Int)} {a : Nat} {x : Rw Int} (h : ld[a]? = some x) : ldA ld a = x.l := by rw [ldA, h]; rfl
theorem wsA_set {ws : List Wt} {a : Nat} (x : Wt) (h : a < ws.length) (u : Nat) : wsA (ws.set a x) u = if u = a then x.s else wsA ws u := by
  simp only [wsA, set_at]
  by_cases e : u = a
  · subst e; simp [h]
  · rw [if_neg (fun q => e q.1.symm), if_neg e]
theorem ldA_set {ld : List (Rw Int)} {a : Nat} (x : Rw Int) (h : a < ld.length) (u : Nat) : ldA (ld.set a x) u = if u = a then x.l else ldA ld u := by
  simp only [ldA, set_at]
  by_cases e : u = a
  · subst e; simp [h]
  · rw [if_neg (fun q => e q.1.symm), if_neg e]
structure WI (E : Nat → List Nat) (of : Nat → Int) (np : Nat) (done : Nat → Nat → Prop) (ws : List Wt) (ld : List (Rw Int)) : Prop where
  lw : ws.length = np
  ll : ld.length = np
  nd : ∀ a, (wsA ws a).Nodup ∧ ∀ b ∈ wsA ws a, ∃ m : Nat, b = (m : Int) ∧ m < a
  ldn : ∀ b, (ldA ld b).Nodup ∧ ∀ x ∈ ldA ld b, ∃ m : Nat, x = (m : Int) ∧ m < np
  iff : ∀ a b : Nat, (a : Int) ∈ ldA ld b ↔ (b : Int) ∈ wsA ws a
  cov : ∀ v i t, done v i → (E v)[i]? = some t → of v = of t ∨ ∃ a b : Nat, of v = (a : Int) ∧ of t = (b : Int) ∧ (b : Int) ∈ wsA ws a
theorem WI.start (E : Nat → List Nat) (of : Nat → Int) (np : Nat) : WI E of np (fun _ _ => False) (List.replicate np ⟨none, []⟩) (List.replicate np ⟨none, 0, []⟩) := by
  have h1 : ∀ a, wsA (List.replicate np ⟨none, []⟩) a = [] := fun a => by
    unfold wsA; rw [List.getElem?_replicate]; split <;> rfl
  have h2 : ∀ a, ldA (List.replicate np (⟨none, 0, []⟩ : Rw Int)) a = [] := fun a => by
    unfold ldA; rw [List.getElem?_replicate]; split <;> rfl
  exact ⟨by simp, by simp, fun a => by rw [h1]; exact ⟨.nil, fun _ h => nomatch h⟩, fun b => by rw [h2]; exact ⟨.nil, fun _ h => nomatch h⟩, fun a b => by rw [h1, h2]; simp, fun _ _ _ h => h.elim⟩
theorem WI.more {E : Nat → List Nat} {of : Nat → Int} {np : Nat} {done done' : Nat → Nat → Prop} {ws : List Wt} {ld : List (Rw Int)} (h : WI E of np done ws ld)
    (hd : ∀ v i t, done' v i → (E v)[i]? = some t → done v i ∨ of v = of t ∨ ∃ a b : Nat, of v = (a : Int) ∧ of t = (b : Int) ∧ (b : Int) ∈ wsA ws a) : WI E of np done' ws ld :=
  ⟨h.lw, h.ll, h.nd, h.ldn, h.iff, fun v i t h1 h2 => (hd v i t h1 h2).elim (fun q => h.cov v i t q h2) id⟩
theorem WI.add {E : Nat → List Nat} {of : Nat → Int} {np : Nat} {done : Nat → Nat → Prop} {ws : List Wt} {ld : List (Rw Int)} (h : WI E of np done ws ld) {a b : Nat} (hb : b < a) (ha : a < np) (hn : ¬ (b : Int) ∈ wsA ws a) {x : Wt} (hx : x.s = wsA ws a ++ [(b : Int)]) {y : Rw Int} (hy : y.l = ldA ld b ++ [(a : Int)]) :
    WI E of np done (ws.set a x) (ld.set b y) := by
  have hla : a < ws.length := by rw [h.lw]; exact ha
  have hlb : b < ld.length := by rw [h.ll]; omega
  have up : ∀ u m, m ∈ wsA ws u → m ∈ wsA (ws.set a x) u := fun u m hm => by
    rw [wsA_set x hla]; split
    · rename_i e; subst e; rw [hx]; exact List.mem_append_left _ hm
    · exact hm
  refine ⟨by rw [List.length_set, h.lw], by rw [List.length_set, h.ll], fun u => ?_, fun u => ?_, fun u v => ?_, fun v i t h1 h2 => ?_⟩
  · rw [wsA_set x hla]
    split
    · rename_i e; subst e
      rw [hx]
      refine ⟨List.nodup_append.2 ⟨(h.nd u).1, by simp, fun p hp q hq e => hn (by rw [List.mem_singleton.1 hq] at e; rw [← e]; exact hp)⟩, fun p hp => ?_⟩
      rcases List.mem_append.1 hp with q | q
      · exact (h.nd u).2 p q
      · exact ⟨b, List.mem_singleton.1 q, hb⟩
    · exact h.nd u
  · rw [ldA_set y hlb]
    split
    · rename_i e; subst e
      rw [hy]
      refine ⟨List.nodup_append.2 ⟨(h.ldn u).1, by simp, fun p hp q hq e => hn ((h.iff a u).1 (by rw [List.mem_singleton.1 hq] at e; rw [← e]; exact hp))⟩, fun p hp => ?_⟩
      rcases List.mem_append.1 hp with q | q
      · exact (h.ldn u).2 p q
      · exact ⟨a, List.mem_singleton.1 q, ha⟩
    · exact h.ldn u
  · rw [wsA_set x hla, ldA_set y hlb]
    have key := h.iff u v
    by_cases e1 : v = b <;> by_cases e2 : u = a
    · subst e1; subst e2; rw [if_pos rfl, if_pos rfl, hx, hy]; simp
    · subst e1
      rw [if_pos rfl, if_neg e2, hy]
      simp only [List.mem_append, List.mem_singleton]
      rw [key]
      exact ⟨fun q => q.elim id (fun q => absurd (by omega) e2), .inl⟩
    · subst e2
      rw [if_neg e1, if_pos rfl, hx]
      simp only [List.mem_append, List.mem_singleton]
      rw [key]
      exact ⟨.inl, fun q => q.elim id (fun q => absurd (by omega) e1)⟩
    · rw [if_neg e1, if_neg e2]; exact key
  · rcases h.cov v i t h1 h2 with q | ⟨p, m, q1, q2, q3⟩
    · exact .inl q
    · exact .inr ⟨p, m, q1, q2, up _ _ q3⟩
def nats (l : List Int) : List Nat := l.map Int.toNat
structure QI (W : Nat → List Nat) (np : Nat) (g : Nat → Nat → Prop) (ws : List Wt) : Prop where
  lw : ws.length = np
  nd : ∀ a, (wsA ws a).Nodup
  inw : ∀ a x, x ∈ wsA ws a → ∃ m : Nat, x = (m : Int) ∧ m ∈ W a ∧ ¬ g a m
  all : ∀ a, a < np → ∀ m ∈ W a, ¬ g a m → (m : Int) ∈ wsA ws a
theorem QI.congr {W : Nat → List Nat} {np : Nat} {g g' : Nat → Nat → Prop} {ws : List Wt} (h : QI W np g ws) (e : ∀ a m, m ∈ W a → (g' a m ↔ g a m)) : QI W np g' ws :=
  ⟨h.lw, h.nd, fun a x hx => by obtain ⟨m, h1, h2, h3⟩ := h.inw a x hx; exact ⟨m, h1, h2, fun q => h3 ((e a m h2).1 q)⟩, fun a ha m hm hg => h.all a ha m hm (fun q => hg ((e a m hm).2 q))⟩
theorem QI.empty {W : Nat → List Nat} {np : Nat} {g : Nat → Nat → Prop} {ws : List Wt} (h : QI W np g ws) {a : Nat} (ha : a < np) : wsA ws a = [] ↔ ∀ m ∈ W a, g a m := by
  constructor
  · intro e m hm
    exact Classical.byContradiction fun q => by have := h.all a ha m hm q; rw [e] at this; cases this
  · intro hg
    cases e : wsA ws a with
    | nil => rfl
    | cons x l => obtain ⟨m, _, h2, h3⟩ := h.inw a x (by rw [e]; exact .head _); exact absurd (hg m h2) h3
theorem QI.del {W : Nat → List Nat} {np : Nat} {g : Nat → Nat → Prop} {ws : List Wt} (h : QI W np g ws) {a k : Nat} (ha : a < np) {x : Wt} (hx : x.s = (wsA ws a).erase (k : Int)) : QI W np (fun u m => g u m ∨ (u = a ∧ m = k)) (ws.set a x) := by
  have hla : a < ws.length := by rw [h.lw]; exact ha
  refine ⟨by rw [List.length_set, h.lw], fun u => ?_, fun u y hy => ?_, fun u hu m hm hg => ?_⟩
  · rw [wsA_set x hla]; split
    · rename_i e; subst e; rw [hx]; exact (h.nd u).erase _
    · exact h.nd u
  · rw [wsA_set x hla] at hy
    split at hy
    · rename_i e; subst e
      rw [hx, (h.nd u).mem_erase_iff] at hy
      obtain ⟨m, h1, h2, h3⟩ := h.inw u y hy.2
      exact ⟨m, h1, h2, fun q => q.elim h3 (fun q => hy.1 (by rw [h1, q.2]))⟩
    · rename_i e
      obtain ⟨m, h1, h2, h3⟩ := h.inw u y hy
      exact ⟨m, h1, h2, fun q => q.elim h3 (fun q => e q.1)⟩
  · rw [wsA_set x hla]
    split
    · rename_i e; subst e
      rw [hx, (h.nd u).mem_erase_iff]
      exact ⟨fun q => hg (.inr ⟨rfl, by omega⟩), h.all u hu m hm (fun q => hg (.inl q))⟩
    · exact h.all u hu m hm (fun q => hg (.inl q))
structure PartsOK (E : Nat → List Nat) (n : Nat) (ps : List (List Nat)) : Prop where
  ne : ∀ p ∈ ps, p ≠ []
  nd : ps.flatten.Nodup
  cover : ∀ v, v ∈ ps.flatten ↔ v < n
  reach : ∀ p ∈ ps, ∀ u ∈ p, ∀ v ∈ p, Rch E u v
  order : ∀ i p, ps[i]? = some p → ∀ u ∈ p, ∀ t ∈ E u, t ∈ (ps.take (i + 1)).flatten
theorem nats_mem {l : List Int} (h : ∀ y ∈ l, ∃ u : Nat, y = (u : Int)) {u : Nat} : u ∈ nats l ↔ (u : Int) ∈ l := by
  simp only [nats, List.mem_map]
  constructor
  · rintro ⟨y, hy, rfl⟩; obtain ⟨w, rfl⟩ := h y hy; simpa using hy
  · intro hu; exact ⟨_, hu, by simp⟩
theorem nats_cs {l : List Int} (h : ∀ y ∈ l, ∃ u : Nat, y = (u : Int)) : cs (nats l) = l := by
  induction l with
  | nil => rfl
  | cons y l ih =>
    obtain ⟨u, rfl⟩ := h y (.head _)
    show ((((u : Int).toNat : Nat) : Int)) :: cs (nats l) = _
    rw [ih (fun z hz => h z (.tail _ hz))]; simp
def rowAt (R : List (Rw Int)) (k : Nat) : List Int := ((R[k]?).map (·.l)).getD []
theorem rowAt_at {R : List (Rw Int)} {a : Nat} {x : Rw Int} (h : R[a]? = some x) : rowAt R a = x.l := by rw [rowAt, h]; rfl
theorem parts_ok {E : Nat → List Nat} {n : Nat} {g : GS} (I : FI E n g []) (hseen : ∀ v, v < n → 0 < ordOf g v) (hE : ∀ v, ∀ t ∈ E v, t < n) {W : Nat → List Nat} (hW : ∀ v t, v < n → t ∈ E v → ofOf g v = ofOf g t ∨ ∃ a b : Nat, ofOf g v = (a : Int) ∧ ofOf g t = (b : Int) ∧ b ∈ W a)
    (hlt : ∀ a b, b ∈ W a → b < a) {O : List Nat} (hO : Lv.Ord W g.R.length O []) : PartsOK E n (O.map fun k => nats (rowAt g.R k)) := by
  have hin : ∀ k ∈ O, k < g.R.length := fun k hk => hO.lt k (List.mem_append_left _ hk)
  have row : ∀ k, k < g.R.length → (rowAt g.R k ≠ [] ∧ (rowAt g.R k).Nodup ∧ (∀ u : Nat, (u : Int) ∈ rowAt g.R k ↔ ofOf g u = (k : Int)) ∧ ∀ y ∈ rowAt g.R k, ∃ u : Nat, y = (u : Int) ∧ u < n) := fun k hk => by
    have h1 := List.getElem?_eq_getElem hk
    rw [rowAt_at h1]; exact I.pr k _ h1
  have row' : ∀ k, k < g.R.length → ∀ u : Nat, u ∈ nats (rowAt g.R k) ↔ ofOf g u = (k : Int) := fun k hk u => by
    rw [nats_mem (fun y hy => by obtain ⟨w, e, _⟩ := (row k hk).2.2.2 y hy; exact ⟨w, e⟩)]; exact (row k hk).2.2.1 u
  have dn : ∀ v, v < n → 0 ≤ ofOf g v ∧ ∀ t ∈ E v, 0 < ordOf g t ∧ 0 ≤ ofOf g t ∧ ofOf g t ≤ ofOf g v := fun v hv => done I.inv rfl v (hseen v hv)
  have inR : ∀ v, v < n → ∃ k, k < g.R.length ∧ ofOf g v = (k : Int) := fun v hv => by
    have h1 := (dn v hv).1
    have h2 : ofOf g v < (g.R.length : Int) := I.inv.ofLt v h1
    exact ⟨(ofOf g v).toNat, by omega, by omega⟩
  have fl : ∀ (L : List Nat), (∀ k ∈ L, k < g.R.length) → ∀ v, v ∈ (L.map fun k => nats (rowAt g.R k)).flatten ↔ ∃ k ∈ L, ofOf g v = (k : Int) := fun L hL v => by
    rw [List.mem_flatten]
    constructor
    · rintro ⟨p, hp, hv⟩
      obtain ⟨k, hk, rfl⟩ := List.mem_map.1 hp
      exact ⟨k, hk, (row' k (hL k hk) v).1 hv⟩
    · rintro ⟨k, hk, e⟩
      exact ⟨_, List.mem_map.2 ⟨k, hk, rfl⟩, (row' k (hL k hk) v).2 e⟩
  refine ⟨fun p hp => ?_, ?_, fun v => ?_, fun p hp u hu v hv => ?_, fun i p hp u hu t ht => ?_⟩
  · obtain ⟨k, hk, rfl⟩ := List.mem_map.1 hp
    intro e
    exact (row k (hin k hk)).1 (List.map_eq_nil_iff.1 e)
  · have hnd : ∀ (L : List Nat), L.Nodup → (∀ k ∈ L, k < g.R.length) → (L.map fun k => nats (rowAt g.R k)).flatten.Nodup := by
      intro L
      induction L with
      | nil => intro _ _; exact .nil
      | cons k L ih =>
        intro h1 h2
        rw [List.map_cons, List.flatten_cons, List.nodup_append]
        have hk := h2 k (.head _)
        refine ⟨?_, ih (List.nodup_cons.1 h1).2 (fun x hx => h2 x (.tail _ hx)), fun a ha b hb e => ?_⟩
        · have h3 := (row k hk).2.1
          unfold nats
          exact List.pairwise_map.2 (h3.imp_of_mem fun {a b} ha hb hab e => hab (by
            obtain ⟨w, e1, _⟩ := (row k hk).2.2.2 a ha
            obtain ⟨w', e2, _⟩ := (row k hk).2.2.2 b hb
            omega))
        · subst e
          obtain ⟨k', hk', e⟩ := (fl L (fun x hx => h2 x (.tail _ hx)) a).1 hb
          have := (row' k hk a).1 ha
          exact (List.nodup_cons.1 h1).1 (by rw [show k = k' by omega]; exact hk')
    exact hnd O (by have := hO.nd; rw [List.append_nil] at this; exact this) hin
  · rw [fl O hin]
    constructor
    · rintro ⟨k, hk, e⟩
      have h1 := (row k (hin k hk)).2.2
      obtain ⟨u, e1, e2⟩ := h1.2 (v : Int) ((h1.1 v).2 e)
      omega
    · intro hv
      obtain ⟨k, hk, e⟩ := inR v hv
      exact ⟨k, hO.whole (fun a _ b hb => hlt a b hb) k hk, e⟩
  · obtain ⟨k, hk, rfl⟩ := List.mem_map.1 hp
    have h1 := (row' k (hin k hk) u).1 hu
    have h2 := (row' k (hin k hk) v).1 hv
    exact I.inv.both u v (by show 0 ≤ ofOf g u; omega) (by show ofOf g u = ofOf g v; omega)
  · rw [List.getElem?_map] at hp
    cases hk : O[i]? with
    | none => rw [hk] at hp; cases hp
    | some k =>
      rw [hk] at hp; cases hp
      have hi := (List.getElem?_eq_some_iff.1 hk).1
      have hkO : k ∈ O := List.mem_of_getElem? hk
      have h1 := (row' k (hin k hkO) u).1 hu
      have hu' : u < n := by
        have h2 := (row k (hin k hkO)).2.2
        obtain ⟨w, e1, e2⟩ := h2.2 (u : Int) ((h2.1 u).2 h1)
        omega
      have htn := hE u t ht
      rw [← List.map_take, fl (O.take (i + 1)) (fun x hx => hin x (List.mem_of_mem_take hx))]
      have htk : O.take (i + 1) = O.take i ++ [k] := tk_next hk
      rcases hW u t hu' ht with e | ⟨a, b, e1, e2, e3⟩
      · exact ⟨k, by rw [htk]; exact List.mem_append_right _ (.head _), by omega⟩
      · have hak : a = k := by omega
        subst hak
        have hsp : O = O.take i ++ a :: O.drop (i + 1) := by
          have := List.take_append_drop i O
          rw [List.drop_eq_getElem_cons hi, show O[i] = a from (List.getElem?_eq_some_iff.1 hk).2] at this
          exact this.symm
        exact ⟨b, by rw [htk]; exact List.mem_append_left _ (hO.set _ _ _ hsp b e3), e2⟩
end Go.Proofs.YtdconhalfanclaaGreat.SL
namespace Go.Proofs.YtdconhalfanclaaGreat.SL
open Go
theorem gj_next {O La : List Nat} {j a kk u m : Nat} (hLj : La[j]? = some a) : (m ∈ O ∨ (m = kk ∧ u ∈ La.take (j + 1))) ↔ ((m ∈ O ∨ (m = kk ∧ u ∈ La.take j)) ∨ (u = a ∧ m = kk)) := by
  rw [tk_next hLj, List.mem_append, List.mem_singleton]
  constructor
  · rintro (h | ⟨h1, h2⟩)
    · exact .inl (.inl h)
    · exact h2.elim (fun h => .inl (.inr ⟨h1, h⟩)) (fun h => .inr ⟨h, h1⟩)
  · rintro (h | h)
    · exact h.elim .inl (fun h => .inr ⟨h.1, .inl h.2⟩)
    · exact .inr ⟨h.2, .inr h.1⟩
theorem nats_of_cs (l : List Nat) : nats (cs l) = l := by simp [nats, cs, Function.comp_def]
theorem nats_nodup {l : List Int} (h : l.Nodup) (hn : ∀ y ∈ l, ∃ u : Nat, y = (u : Int)) : (nats l).Nodup :=
  List.pairwise_map.2 (h.imp_of_mem fun {a b} ha hb hab e => hab (by obtain ⟨w, e1⟩ := hn a ha; obtain ⟨w', e2⟩ := hn b hb; omega))
theorem nodup_small {l : List Int} {np : Nat} (h : l.Nodup) (hn : ∀ y ∈ l, ∃ u : Nat, y = (u : Int) ∧ u < np) : l.length ≤ np := by
  have h1 := nats_nodup h (fun y hy => by obtain ⟨u, e, _⟩ := hn y hy; exact ⟨u, e⟩)
  have h2 := nodup_lenN h1 (b := List.range np) (fun x hx => by
    obtain ⟨y, hy, rfl⟩ := List.mem_map.1 hx
    obtain ⟨u, e, hu⟩ := hn y hy
    rw [List.mem_range]; omega)
  rw [List.length_range] at h2
  simpa [nats] using h2
theorem nodup_take {l : List Nat} (h : l.Nodup) {j a : Nat} (hj : l[j]? = some a) : ¬ a ∈ l.take j := by
  intro q
  have h1 := List.take_append_drop j l
  have hlt := (List.getElem?_eq_some_iff.1 hj).1
  rw [List.drop_eq_getElem_cons hlt, (List.getElem?_eq_some_iff.1 hj).2] at h1
  rw [← h1] at h
  exact (List.nodup_append.1 h).2.2 a q a (.head _) rfl
theorem not_out {W : Nat → List Nat} {cnt kk : Nat} {O : List Nat} {rest : List Int} (hO : Lv.Ord W cnt O (nats ((kk : Int) :: rest))) : ¬ kk ∈ O := fun q =>
  (List.nodup_append.1 hO.nd).2.2 kk q kk (by simp [nats]) rfl
theorem ready_lt {W : Nat → List Nat} {cnt kk : Nat} {O La : List Nat} {rest r5 : List Int} {j : Nat} {p : Nat → Bool} (hO : Lv.Ord W cnt O (nats ((kk : Int) :: rest))) (hr : r5.Perm (rest ++ cs ((La.take j).filter p))) (hL : ∀ a ∈ La, a < cnt) (hn : ∀ y ∈ (kk : Int) :: rest, ∃ m : Nat, y = (m : Int)) : ∀ x ∈ r5, ∃ m : Nat, x = (m : Int) ∧ m < cnt := fun x hx => by
  rcases List.mem_append.1 (hr.mem_iff.1 hx) with q | q
  · obtain ⟨m, e⟩ := hn x (.tail _ q)
    refine ⟨m, e, hO.lt m (List.mem_append_right _ ?_)⟩
    rw [nats_mem (fun y hy => hn y hy)]; rw [← e]; exact .tail _ q
  · obtain ⟨m, hm, e⟩ := mem_cs.1 q
    exact ⟨m, e.symm, hL m (List.mem_of_mem_take (List.mem_filter.1 hm).1)⟩
theorem nats_perm {a b : List Int} (h : a.Perm b) : (nats a).Perm (nats b) := h.map _
theorem start_ok {E : Nat → List Nat} {of : Nat → Int} {np : Nat} {D : Nat → Nat → Prop} {ws : List Wt} {ld : List (Rw Int)} {rI : List Int} (hWI : WI E of np D ws ld) (hWm : ∀ a (m : Nat), m ∈ nats (wsA ws a) ↔ (m : Int) ∈ wsA ws a) (hr : rI.Perm (cs ((List.range np).filter fun a => decide (wsA ws a = [])))) :
    Lv.Ord (fun a => nats (wsA ws a)) np [] (nats rI) ∧ (∀ y ∈ rI, ∃ m : Nat, y = (m : Int)) ∧ QI (fun a => nats (wsA ws a)) np (fun _ m => m ∈ ([] : List Nat)) ws := by
  have hp : (nats rI).Perm ((List.range np).filter fun a => decide (wsA ws a = [])) := by have := nats_perm hr; rwa [nats_of_cs] at this
  have hm : ∀ a, a ∈ nats rI ↔ a < np ∧ wsA ws a = [] := fun a => by rw [hp.mem_iff, List.mem_filter, List.mem_range]; simp
  refine ⟨⟨by rw [List.nil_append]; exact hp.symm.nodup (List.nodup_range.filter _), fun a ha => ((hm a).1 ha).1, fun a ha b hb => ?_, fun a ha hb => (hm a).2 ⟨ha, ?_⟩, fun l a r e => by simp at e⟩, fun y hy => ?_, ⟨hWI.lw, fun a => (hWI.nd a).1, fun a x hx => ?_, fun a _ m hm' _ => (hWm a m).1 hm'⟩⟩
  · have h1 := ((hm a).1 ha).2
    have h2 : b ∈ nats (wsA ws a) := hb
    rw [h1] at h2; cases h2
  · cases e : wsA ws a with
    | nil => rfl
    | cons x l =>
      obtain ⟨m, e1, _⟩ := (hWI.nd a).2 x (by rw [e]; exact .head _)
      have := hb m ((hWm a m).2 (by rw [e, ← e1]; exact .head _))
      cases this
  · obtain ⟨m, _, e⟩ := mem_cs.1 (hr.mem_iff.1 hy); exact ⟨m, e.symm⟩
  · obtain ⟨m, e, _⟩ := (hWI.nd a).2 x hx
    exact ⟨m, e, (hWm a m).2 (by rw [← e]; exact hx), fun q => nomatch q⟩
theorem next_ok {E : Nat → List Nat} {of : Nat → Int} {np : Nat} {D : Nat → Nat → Prop} {ws ws5 : List Wt} {ld : List (Rw Int)} {O La : List Nat} {kk j : Nat} {rest r5 : List Int} (hO : Lv.Ord (fun a => nats (wsA ws a)) np O (nats ((kk : Int) :: rest))) (hn : ∀ y ∈ (kk : Int) :: rest, ∃ m : Nat, y = (m : Int))
    (hQ : QI (fun a => nats (wsA ws a)) np (fun a m => m ∈ O ∨ (m = kk ∧ a ∈ La.take j)) ws5) (hWI : WI E of np D ws ld) (hWm : ∀ a (m : Nat), m ∈ nats (wsA ws a) ↔ (m : Int) ∈ wsA ws a) (hLa : La = nats (ldA ld kk)) (hr : r5.Perm (rest ++ cs ((La.take j).filter fun a => decide (∀ x ∈ nats (wsA ws a), x ∈ O ++ [kk])))) (hlast : La.length ≤ j) :
    Lv.Ord (fun a => nats (wsA ws a)) np (O ++ [kk]) (nats r5) ∧ (∀ y ∈ r5, ∃ m : Nat, y = (m : Int)) ∧ QI (fun a => nats (wsA ws a)) np (fun _ m => m ∈ O ++ [kk]) ws5 := by
  rw [List.take_of_length_le hlast] at hr hQ
  have hnc : ∀ y ∈ ldA ld kk, ∃ m : Nat, y = (m : Int) := fun y hy => by obtain ⟨m, e, _⟩ := (hWI.ldn kk).2 y hy; exact ⟨m, e⟩
  have hmem : ∀ a, a ∈ La ↔ a < np ∧ kk ∈ nats (wsA ws a) := fun a => by
    rw [hLa, nats_mem hnc, hWm]
    constructor
    · intro h
      obtain ⟨m, e, hm⟩ := (hWI.ldn kk).2 _ h
      exact ⟨by omega, (hWI.iff a kk).1 h⟩
    · intro h; exact (hWI.iff a kk).2 h.2
  have hnat : nats ((kk : Int) :: rest) = kk :: nats rest := by simp [nats]
  rw [hnat] at hO
  have hp := nats_perm hr
  rw [show nats (rest ++ _) = nats rest ++ nats _ from List.map_append, nats_of_cs] at hp
  refine ⟨hO.next (come := La.filter fun a => decide (∀ x ∈ nats (wsA ws a), x ∈ O ++ [kk])) ?_ (fun a => ?_) hp, fun y hy => ?_, hQ.congr (fun a m hm => ?_)⟩
  · rw [hLa]; exact (nats_nodup (hWI.ldn kk).1 hnc).filter _
  · rw [List.mem_filter, hmem, decide_eq_true_eq]; exact and_assoc
  · rcases List.mem_append.1 (hr.mem_iff.1 hy) with q | q
    · exact hn y (.tail _ q)
    · obtain ⟨m, _, e⟩ := mem_cs.1 q; exact ⟨m, e.symm⟩
  · have hm' : m ∈ nats (wsA ws a) := hm
    rw [List.mem_append, List.mem_singleton]
    constructor
    · rintro (h | h)
      · exact .inl h
      · subst h
        refine .inr ⟨rfl, (hmem a).2 ⟨?_, hm'⟩⟩
        have h1 : wsA ws a ≠ [] := fun e => by rw [e] at hm'; cases hm'
        have : a < ws.length := Classical.byContradiction fun q => h1 (by rw [wsA, List.getElem?_eq_none (by omega)]; rfl)
        rw [← hWI.lw]; exact this
    · rintro (h | h)
      · exact .inl h
      · exact .inr h.1
theorem set_same {α : Type} {l : List α} {j : Nat} {x : α} (h : l[j]? = some x) : l.set j x = l := by
  apply List.ext_getElem?; intro i; rw [set_at]; split
  · rename_i e; rw [← e.1, h]
  · rfl
theorem reps_wt {h : Heap} : ∀ {xs : List Wt} {cs : List Value}, Reps tWt h xs cs ↔ cs = xs.map fun x : Wt => Value.map x.b
  | [], cs => Iff.rfl
  | x :: xs, cs => by
    constructor
    · rintro ⟨a, b, e, r, s⟩
      have h1 : a = [.map x.b] := r
      rw [e, h1, reps_wt.1 s]; rfl
    · rintro rfl; exact ⟨[.map x.b], _, rfl, rfl, reps_wt.2 rfl⟩
section
variable {C : Ctx} {k : List It} {E : Env} {Ps : List PA} {Os : List OA}
theorem go_ws_same {e : Nat} {A : Option Addr} {c : Nat} {xs : List Wt} {rr : List OA} (ys : List Wt) (h : Rem (ol tWt e A c xs) Os rr) (hb : xs.map (fun x : Wt => x.b) = ys.map (fun x : Wt => x.b)) (g : Go C k E Ps (ol tWt e A c ys :: rr)) : Go C k E Ps Os := by
  have hl : xs.length = ys.length := by have := congrArg List.length hb; simpa using this
  refine go_imp (ol tWt e A c xs) [ol tWt e A c ys] h (fun hp hh q => sep_one ?_) g
  obtain ⟨cs, r, s⟩ := q
  refine ⟨cs, by rw [← hl]; exact r, ?_⟩
  rw [reps_wt] at s ⊢
  have h1 : ∀ zs : List Wt, (zs.map fun x : Wt => Value.map x.b) = (zs.map fun x : Wt => x.b).map Value.map := fun zs => by rw [List.map_map]; rfl
  rw [s, h1, h1, hb]
theorem go_wts_back {R : List Wt} {rr : List OA} (x : Wt) (j : Nat) (hj : R[j]? = some x) (h : Takes Os [wtO x, OA.all ((R.map wtO).eraseIdx j)] rr) (g : Go C k E Ps (wts R :: rr)) : Go C k E Ps Os :=
  go_wts_in x j (List.getElem?_eq_some_iff.1 hj).1 h (by rw [set_same hj]; exact g)
theorem go_elem_Rw {α : Type} {A : Option Addr} {c : Nat} {R : List (Rw α)} (h : sl (tRw α) A c R ∈ Ps) (j : Nat) {x : Rw α} (hj : R[j]? = some x) (g : ∀ b o, A = some ⟨b, o, none⟩ → Go C k E (cl b (o + j * 1) [.slice x.A x.l.length x.c] :: Ps) Os) : Go C k E Ps Os :=
  go_elem h j hj fun b o cs hA => fun a w hp ho hf hs hb => by
    have e : cs = fcRw x := hs.ps _ (.tail _ (.head _))
    subst e
    exact g b o hA a w hp ho hf ⟨hs.inp, hs.ino, hs.dj, forall_cons (hs.ps _ (.head _)) fun p hp => hs.ps p (.tail _ (.tail _ hp)), hs.os⟩ hb
def rdy (b : Nat) (l : List Int) : OA := OA.ex fun A : Option Addr => OA.ex fun c : Nat => OA.all [pt b 41 [.slice A l.length c], olw 3 A c l]
theorem go_rdy {b : Nat} {l : List Int} {rr : List OA} (h : Rem (rdy b l) Os rr) (g : ∀ (A : Option Addr) (c : Nat), Go C k E Ps ([pt b 41 [.slice A l.length c], olw 3 A c l] ++ rr)) : Go C k E Ps Os :=
  go_oex h fun A => go_oex .here fun c => go_oall .here (g A c)
theorem go_rdy_mk {b : Nat} (l : List Int) {A : Option Addr} {c : Nat} {rr : List OA} (h : Takes Os [pt b 41 [.slice A l.length c], olw 3 A c l] rr) (g : Go C k E Ps (rdy b l :: rr)) : Go C k E Ps Os :=
  go_fold [pt b 41 [.slice A l.length c], olw 3 A c l] (rdy b l) h (fun _ _ q => ⟨A, c, q⟩) g
end
def rwAt (R : List (Rw Int)) (k : Nat) : Rw Int := (R[k]?).getD ⟨none, 0, []⟩
theorem rwAt_at {R : List (Rw Int)} {k : Nat} (h : k < R.length) : R[k]? = some (rwAt R k) := by rw [rwAt, List.getElem?_eq_getElem h]; rfl
theorem rwAt_l (R : List (Rw Int)) (k : Nat) : (rwAt R k).l = rowAt R k := by unfold rwAt rowAt; cases R[k]? <;> rfl
theorem cs_inj_mem {l : List Nat} {m : Nat} : (m : Int) ∈ cs l ↔ m ∈ l := by rw [mem_cs]; exact ⟨fun ⟨n, h, e⟩ => by rw [show m = n by omega]; exact h, fun h => ⟨m, h, rfl⟩⟩
theorem byFirst (bX bF bS bo outc n : Nat) (g : GS) (hA : Option Addr) (hc : Nat) (ofA : Option Addr) (ofc : Nat) (pA : Option Addr) (pc : Nat) (hne : ∀ (k : Nat) (x : Rw Int), g.R[k]? = some x → x.l ≠ []) (a b : Nat) (ha : a < g.R.length) (hb : b < g.R.length) :
    Spec Tryz.prog 157 #[.int .i64 (a : Int), .int .i64 (b : Int), .pointer (some ⟨bX, 0, none⟩)] [cl bX 0 [.pointer (some ⟨bF, 0, none⟩)], cl bF 0 [.slice (some ⟨bo, 0, none⟩) n outc, .slice (some ⟨bS, 0, none⟩) n n, .slice hA (cs g.held).length hc, .slice ofA n ofc, .slice pA g.R.length pc, .int .i64 (g.order : Int)], PA.all [sl (tRw Int) pA pc g.R, pas (tInt .i64) g.R]] [] (fun v Ps' Os' => (∃ z, v = .int .i64 z) ∧ Ps' = [] ∧ Os' = []) := by
 refine zSp _ Tryz.func157 Tryz.ntmps157 (fun _ _ _ => ?_)
 refine zR 5 ?_
 refine go_pall (l := [sl (tRw Int) pA pc g.R, pas (tInt .i64) g.R]) zM ?_
 obtain ⟨f1, r1, hr1⟩ : ∃ f r, (rwAt g.R a).l = f :: r := by
   have := hne a _ (rwAt_at ha)
   cases hl : (rwAt g.R a).l with
   | nil => exact absurd hl this
   | cons f r => exact ⟨f, r, rfl⟩
 refine go_elem_Rw (R := g.R) zM a (rwAt_at ha) (fun b1 o1 hA1 => ?_); cases hA1
 refine go_pas_at (R := g.R) zM a (rwAt_at ha) ?_
 refine go_elem_int (xs := (rwAt g.R a).l) zM 0 (x := f1) (by rw [hr1]; rfl) (fun c1 d1 hB1 => ?_)
 obtain ⟨f2, r2, hr2⟩ : ∃ f r, (rwAt g.R b).l = f :: r := by
   have := hne b _ (rwAt_at hb)
   cases hl : (rwAt g.R b).l with
   | nil => exact absurd hl this
   | cons f r => exact ⟨f, r, rfl⟩
 refine go_elem_Rw (R := g.R) zM b (rwAt_at hb) (fun b2 o2 hA2 => ?_); cases hA2
 refine go_pas_at (R := g.R) zM b (rwAt_at hb) ?_
 refine go_elem_int (xs := (rwAt g.R b).l) zM 0 (x := f2) (by rw [hr2]; rfl) (fun c2 d2 hB2 => ?_)
 refine zY 0 [13, 40, 2, 4, 7, 11, 16, 20, 22, 26, 29, 31, 34, 38, 43, 47, 49, 53, 55, 58] ?_
 refine zK 2 ?_
 refine zK 2 ?_
 refine zI 0 ?_
 refine zK 0 ?_
 refine go_re 12 (.slice (some ⟨c1, d1, none⟩) (rwAt g.R a).l.length (rwAt g.R a).c) (by rw [← hB1]; rfl) ?_
 refine go_val1 rfl (idx_val Tk rfl rfl rfl rfl rfl (by rw [hr1]; simp)) rfl ?_
 refine zK 0 ?_
 refine zK 0 ?_
 refine zK 2 ?_
 refine zI 0 ?_
 refine zK 0 ?_
 refine go_re 21 (.slice (some ⟨c2, d2, none⟩) (rwAt g.R b).l.length (rwAt g.R b).c) (by rw [← hB2]; rfl) ?_
 refine go_val1 rfl (idx_val Tk rfl rfl rfl rfl rfl (by rw [hr2]; simp)) rfl ?_
 refine zK 0 ?_
 refine zE 3 [5] ?_
 refine zT 0 rfl ⟨⟨_, rfl⟩, rfl, rfl⟩
theorem addReady (b11 b12 : Nat) (bX bF bS bo outc n : Nat) (g : GS) (hA : Option Addr) (hc : Nat) (ofA : Option Addr) (ofc : Nat) (pA : Option Addr) (pc : Nat) (hne : ∀ (k : Nat) (x : Rw Int), g.R[k]? = some x → x.l ≠ []) (k : Nat) (hk : k < g.R.length) (l : List Int) (hl : ∀ x ∈ l, ∃ m : Nat, x = (m : Int) ∧ m < g.R.length) (hn : l.length ≤ 1000000) :
    Spec Tryz.prog 158 #[.int .i64 (k : Int), .pointer (some ⟨b12, 0, none⟩), .pointer (some ⟨b11, 0, none⟩)] [cl b11 0 [.func (.func 157) #[] #[.pointer (some ⟨bX, 0, none⟩)]], cl bX 0 [.pointer (some ⟨bF, 0, none⟩)], cl bF 0 [.slice (some ⟨bo, 0, none⟩) n outc, .slice (some ⟨bS, 0, none⟩) n n, .slice hA (cs g.held).length hc, .slice ofA n ofc, .slice pA g.R.length pc, .int .i64 (g.order : Int)], PA.all [sl (tRw Int) pA pc g.R, pas (tInt .i64) g.R]] [rdy b12 l] (fun v Ps' Os' => ∃ l', l'.Perm ((k : Int) :: l) ∧ v = .tuple #[] ∧ Ps' = [] ∧ Os' = [rdy b12 l']) := by
 refine zSp _ Tryz.func158 Tryz.ntmps158 (fun _ _ _ => ?_)
 refine zR 1 ?_
 refine go_rdy (b := b12) zM (fun A9 c9 => ?_)
 refine zL 1 ?_
 refine zL 1 ?_
 refine zC 0 ((Spec.lend (binI A9 c9 l (k : Int) 157 #[.pointer (some ⟨bX, 0, none⟩)] (cl bX 0 [.pointer (some ⟨bF, 0, none⟩)]) (cl bF 0 [.slice (some ⟨bo, 0, none⟩) n outc, .slice (some ⟨bS, 0, none⟩) n n, .slice hA (cs g.held).length hc, .slice ofA n ofc, .slice pA g.R.length pc, .int .i64 (g.order : Int)]) (PA.all [sl (tRw Int) pA pc g.R, pas (tInt .i64) g.R]) (fun x hx => by obtain ⟨m, rfl, hm⟩ := hl x hx; exact byFirst bX bF bS bo outc n g hA hc ofA ofc pA pc hne m k hm hk) hn) (olw 3 A9 c9 l) win_sl (fun v P' O' h => ⟨h.2.1, fun B hB => by rw [h.2.2] at hB; cases hB⟩))) ?_
 rintro _ _ _ ⟨_, ⟨⟨i, fd, hi, rfl⟩, _, rfl⟩, rfl, rfl⟩
 refine zL 7 ?_
 refine zV 2 ?_
 intro bV
 refine zC 0 (insertW A9 c9 l i bV (k : Int) hi hn) ?_
 rintro _ _ _ ⟨A8, c8, rfl, rfl, rfl⟩
 refine zS 0 ?_
 refine zR 1 ?_
 refine go_rdy_mk (b := b12) (l.take i ++ (k : Int) :: l.drop i) zM ?_
 refine zT 0 rfl ⟨l.take i ++ (k : Int) :: l.drop i, by have := List.perm_middle (a := (k : Int)) (l₁ := l.take i) (l₂ := l.drop i); rwa [List.take_append_drop] at this, rfl, rfl, rfl⟩
set_option maxHeartbeats 8000000 in
theorem fOrdered (bF bS bo outc n : Nat) (out : List (List Nat)) (hol : out.length = n) (hot : ∀ l ∈ out, ∀ t ∈ l, t < n) (hln : ∀ l ∈ out, l.length ≤ 100000) (hn : n ≤ 100000) (g : GS) (I : FI (Eo out) n g []) (hseen : ∀ v, v < n → 0 < ordOf g v) :
    Spec Tryz.prog 132 #[.pointer (some ⟨bF, 0, none⟩)] [sl (tSl (tInt .i64)) (some ⟨bo, 0, none⟩) outc (out.map cs)] [fin 202 204 3 41 bF bS (some ⟨bo, 0, none⟩) outc n (g)] (fun v' Ps' Os' => ∃ (A : Option Addr) (c : Nat) (ps : List (List Nat)), PartsOK (Eo out) n ps ∧ v' = .slice A ps.length c ∧ Ps' = [sl (tSl (tInt .i64)) A c (ps.map cs)] ∧ Os' = []) := by
 refine zSp _ Tryz.func132 Tryz.ntmps132 (fun _ _ _ => ?_)
 refine zR 1 ?_
 have htl := I.td_len
 have holl := I.ol
 have hne : ∀ (k : Nat) (x : Rw Int), g.R[k]? = some x → x.l ≠ [] := fun k x h => (I.pr k x h).1
 have hEn : ∀ v, ∀ t ∈ Eo out v, t < n := fun v t ht => by
   by_cases hv : v < out.length
   · exact hot _ (Eo_mem hv) t ht
   · unfold Eo at ht; rw [List.getElem?_eq_none (by omega)] at ht; cases ht
 have hdn : ∀ v, v < n → 0 ≤ ofOf g v ∧ ∀ t ∈ Eo out v, 0 < ordOf g t ∧ 0 ≤ ofOf g t ∧ ofOf g t ≤ ofOf g v := fun v hv => Tj.done I.inv rfl v (hseen v hv)
 have hofl : ∀ v, 0 ≤ ofOf g v → ofOf g v < (g.R.length : Int) := fun v h => I.inv.ofLt v h
 refine go_fin_ (bF := bF) zM (fun hA hc ofA ofc pA pc => ?_)
 refine go_freeze_pt (b := bF) zM ?_
 refine go_freeze_ol (xs := g.of) zM ?_
 refine go_freeze_ol (xs := g.R) zM ?_
 refine go_mkall [sl (tRw Int) pA pc g.R, pas (tInt .i64) g.R] zM ?_
 refine zX 1 ?_
 intro bX
 refine zR 2 ?_
 refine go_freeze_pt (b := bX) zM ?_
 refine zL 2 ?_
 refine zL 2 ?_
 refine zR 1 ?_
 refine go_make tWt ⟨none, []⟩ g.R.length Tk rfl rfl rfl rfl rfl rfl rfl rfl rfl (fun _ => rfl) (by omega) zH ?_
 intro bW
 refine go_wts_reps g.R.length ?_
 refine zL 4 ?_
 refine zL 2 ?_
 refine zR 1 ?_
 refine go_make (tRw Int) ⟨none, 0, []⟩ g.R.length Tk rfl rfl rfl rfl rfl rfl rfl rfl rfl (fun _ => rfl) (by omega) zH ?_
 intro bD
 refine go_inn_reps (tInt .i64) 3 g.R.length ?_
 refine zE 2 [1, 3, 4] ?_
 refine zL 3 ?_
 refine zL 2 ?_
 refine zR 4 ?_
 refine go_loop' (X := Nat × List Wt × List (Rw Int)) (fun x => [(36, .int .i64 (x.1 : Int))]) [(1, _), (3, _), (4, _), (34, _), (35, _)] (fun x => [ol tWt 235 (some ⟨bW, 0, none⟩) g.R.length (x.2.1), wts x.2.1, ol (tRw Int) 41 (some ⟨bD, 0, none⟩) g.R.length (x.2.2), inn (tInt .i64) 3 (x.2.2)]) (fun x => x.1 ≤ n ∧ WI (Eo out) (ofOf g) g.R.length (fun v' _ => v' < x.1) x.2.1 x.2.2) (fun x => n - x.1) ((0, _, _)) zA zM ⟨by omega, (WI.start _ _ _).more (fun v i t h _ => absurd h (Nat.not_lt_zero _))⟩ ?_
 intro ⟨v, ws, ld⟩ ⟨hv, hWI⟩
 simp only at hv hWI ⊢
 refine zD 5 ?_ ?_
 ·intro g4
  refine zR 4 ?_
  refine go_elem_row (T := tInt .i64) (xss := out.map cs) zM v (Eo_at (show v < out.length by omega)) (fun b1 o1 A1 c5 hA1 => ?_); cases hA1
  have hcv := cs_len (Eo out v)
  have hlv := hln _ (Eo_mem (show v < out.length by omega))
  refine zI 2 ?_
  refine zL 0 ?_
  refine zR 10 ?_
  refine zO (X := Nat × List Wt × List (Rw Int)) (fun x => [(43, .int .i64 (x.1 : Int))]) [1, 3, 4, 5, 34, 35, 36, 41, 42] (fun x => [ol tWt 235 (some ⟨bW, 0, none⟩) g.R.length (x.2.1), wts x.2.1, ol (tRw Int) 41 (some ⟨bD, 0, none⟩) g.R.length (x.2.2), inn (tInt .i64) 3 (x.2.2)]) (fun x => x.1 ≤ (Eo out v).length ∧ WI (Eo out) (ofOf g) g.R.length (fun v' i' => v' < v ∨ (v' = v ∧ i' < x.1)) x.2.1 x.2.2) (fun x => (Eo out v).length - x.1) (0, ws, ld) ⟨Nat.zero_le _, hWI.more (fun v' i' t' hd _ => .inl (hd.elim id (fun q => absurd q.2 (Nat.not_lt_zero _))))⟩ ?_
  intro ⟨i, ws2, ld2⟩ ⟨hi, hWI2⟩
  simp only at hi hWI2 ⊢
  refine zD' 5 ?_ ?_
  ·intro hq1
   refine zR 6 ?_
   refine go_i64n 36 (v + 1) rfl ?_
   refine zz (v + 1, ws2, ld2) (⟨by show v + 1 ≤ n; omega, hWI2.more (fun v' i' t' hd he => .inl (by
     have hd' : v' < v + 1 := hd
     by_cases h1 : v' < v
     · exact .inl h1
     · obtain rfl : v' = v := by omega
       exact .inr ⟨rfl, by have := (List.getElem?_eq_some_iff.1 he).1; omega⟩))⟩) (by show n - (v + 1) < n - v; omega)
  intro hq1
  refine zR 4 ?_
  obtain ⟨t, ht⟩ : ∃ t, (Eo out v)[i]? = some t := ⟨_, List.getElem?_eq_getElem (by omega)⟩
  have htE := List.mem_of_getElem? ht
  have htn := hEn v t htE
  refine go_elem_int (xs := cs (Eo out v)) zM i (cs_get ht) (fun b2 o2 hA2 => ?_); cases hA2
  refine zI 1 ?_
  refine zL 0 ?_
  refine zR 3 ?_
  have hd1 := hdn v (by omega)
  have hd2 := hd1.2 t htE
  obtain ⟨a, hae⟩ : ∃ a : Nat, ofOf g v = (a : Int) := ⟨(ofOf g v).toNat, by omega⟩
  obtain ⟨b, hbe⟩ : ∃ b : Nat, ofOf g t = (b : Int) := ⟨(ofOf g t).toNat, by omega⟩
  have ha : a < g.R.length := by have := hofl v hd1.1; omega
  have hab : b ≤ a := by omega
  refine go_elem_int (xs := g.of) zM v (of_at (show v < g.of.length by omega)) (fun b3 o3 hA3 => ?_); cases hA3
  refine go_elem_int (xs := g.of) zM t (of_at (show t < g.of.length by omega)) (fun b4 o4 hA4 => ?_); cases hA4
  refine zY 0 [13, 34, 2, 4, 7, 11, 16, 20, 43, 23, 25, 28, 32, 37, 41, 46] ?_
  refine zK 2 ?_
  refine zK 2 ?_
  refine zI 0 ?_
  refine zK 0 ?_
  refine zK 1 ?_
  refine zK 2 ?_
  refine zI 0 ?_
  refine zK 0 ?_
  refine zR 2 ?_
  refine go_re 9 (.int .i64 (a : Int)) (by rw [← hae]; rfl) ?_
  refine go_re 10 (.int .i64 (b : Int)) (by rw [← hbe]; rfl) ?_
  refine zE 0 [1, 3, 4, 5, 9, 10, 34, 35, 36, 41, 42, 43] ?_
  refine zR 2 ?_
  obtain ⟨⟨mb, ms⟩, hx⟩ : ∃ x, ws2[a]? = some x := ⟨_, List.getElem?_eq_getElem (by rw [hWI2.lw]; exact ha)⟩
  have hwx : wsA ws2 a = ms := wsA_at hx
  refine go_wts_out a hx zM ?_
  refine zG 5 64 ?_ ?_
  ·intro g5
   (try simp only [dcs, ne_eq] at g5)
   refine zR 9 ?_
   refine go_wts_back ⟨mb, ms⟩ a hx zM ?_
   refine zDt 0 ?_
   refine zR 5 ?_
   refine go_i64n 43 (i + 1) rfl ?_
   refine zz (i + 1, ws2, ld2) (⟨by show i + 1 ≤ _; omega, hWI2.more (fun v' i' t' hd he => by
     rcases hd with h | ⟨h1, h2⟩
     · exact .inl (.inl h)
     · by_cases h3 : i' < i
       · exact .inl (.inr ⟨h1, h3⟩)
       · obtain rfl : i' = i := by omega
         subst h1
         have het : t' = t := Option.some.inj (he.symm.trans ht)
         subst het
         exact .inr (.inl (by omega)))⟩) (by show _ - (i + 1) < _ - i; omega)
  intro g5
  (try simp only [dcs, ne_eq] at g5)
  refine zI 2 ?_
  refine go_val0 rfl (load_val (cs := [.map ((⟨mb, ms⟩ : Wt)).b]) Tk rfl rfl rfl (at_ol fcWt tWt_fc 0 (xs := ws2) (j := a) (x := (⟨mb, ms⟩ : Wt)) zM hx rfl) rfl) rfl ?_
  refine zR 1 ?_
  refine go_val0 rfl (lookup_wt (X := ⟨mb, ms⟩) Tk rfl rfl rfl rfl rfl rfl zM) rfl ?_
  refine zR 3 ?_
  refine go_wts_back ⟨mb, ms⟩ a hx zM ?_
  refine zB 0 ?_ ?_
  ·intro g6
   (try simp only [dcs, ne_eq] at g6)
   have hin : (b : Int) ∈ ms := Classical.byContradiction fun q => by rw [if_neg q] at g6; exact absurd g6 (by decide)
   refine zR 5 ?_
   refine go_i64n 43 (i + 1) rfl ?_
   refine zz (i + 1, ws2, ld2) (⟨by show i + 1 ≤ _; omega, hWI2.more (fun v' i' t' hd he => by
     rcases hd with h | ⟨h1, h2⟩
     · exact .inl (.inl h)
     · by_cases h3 : i' < i
       · exact .inl (.inr ⟨h1, h3⟩)
       · obtain rfl : i' = i := by omega
         subst h1
         have het : t' = t := Option.some.inj (he.symm.trans ht)
         subst het
         exact .inr (.inr ⟨a, b, hae, hbe, by rw [hwx]; exact hin⟩))⟩) (by show _ - (i + 1) < _ - i; omega)
  intro g6
  (try simp only [dcs, ne_eq] at g6)
  have hin : ¬ (b : Int) ∈ ms := fun q => by rw [if_pos q] at g6; exact absurd g6 (by decide)
  have hba : b < a := by omega
  refine zR 3 ?_
  refine go_wts_out a hx zM ?_
  refine zI 3 ?_
  refine go_val0 rfl (load_val (cs := [.map ((⟨mb, ms⟩ : Wt)).b]) Tk rfl rfl rfl (at_ol fcWt tWt_fc 0 (xs := ws2) (j := a) (x := (⟨mb, ms⟩ : Wt)) zM hx rfl) rfl) rfl ?_
  refine go_val0 rfl (eqnil_wt Tk rfl rfl rfl rfl) rfl ?_
  refine zR 1 ?_
  refine zU (X := Nat) (fun _ => []) [1, 3, 4, 5, 9, 10, 34, 35, 36, 41, 42, 43, 65, 66, 67, 68, 69, 70, 71] (fun bm => [ol tWt 235 (some ⟨bW, 0, none⟩) g.R.length (ws2.set a ⟨some bm, ms⟩), wtO ⟨some bm, ms⟩]) ([ol tWt 235 (some ⟨bW, 0, none⟩) g.R.length (ws2), wtO ⟨mb, ms⟩]) (fun _ => True) ?_ ?_
  ·skip
   refine zB' 0 ?_ ?_
   ·intro g7
    obtain ⟨bm, rfl⟩ : ∃ bm, mb = some bm := by cases mb with | none => cases g7 | some bm => exact ⟨bm, rfl⟩
    refine go_same (A := ol tWt 235 (some ⟨bW, 0, none⟩) g.R.length (ws2)) (B := ol tWt 235 (some ⟨bW, 0, none⟩) g.R.length (ws2.set a ⟨some bm, ms⟩)) zM (by rw [set_same hx]) ?_
    refine zR 1 ?_
    refine zz (bm) (trivial) (by decide)
   intro g7
   obtain rfl : mb = none := by cases mb with | none => rfl | some _ => cases g7
   refine go_wt_none (s := ms) zM (fun hms => ?_); subst hms
   refine zR 3 ?_
   refine go_makemap (kk := .i64) rfl rfl rfl zH ?_
   intro bm
   refine zI 0 ?_
   refine go_store_el (T := tWt) (xs := ws2) (j := a) Tk ⟨some bm, []⟩ rfl rfl rfl rfl rfl rfl zM (by rw [hWI2.lw]; exact ha) rfl rfl ent_Wt zF ?_
   refine go_wt_mk (b := bm) (s := []) zM ?_
   refine zR 1 ?_
   refine zz (bm) (trivial) (by decide)
  intro bm _
  refine zR 1 ?_
  refine go_wt_some (b := bm) (s := ms) zM ?_
  refine zI 3 ?_
  refine go_val0 rfl (load_val (cs := [.map ((⟨some bm, ms⟩ : Wt)).b]) Tk rfl rfl rfl (at_ol fcWt tWt_fc 0 (xs := ws2.set a ⟨some bm, ms⟩) (j := a) (x := (⟨some bm, ms⟩ : Wt)) zM (by rw [set_at, if_pos ⟨rfl, by rw [hWI2.lw]; exact ha⟩]) rfl) rfl) rfl ?_
  refine zR 1 ?_
  refine go_mset (b := bm) (m := ones ms) Tk rfl rfl rfl rfl rfl rfl rfl rfl zM zF ?_
  refine go_same (B := mapO bm .i64 (ones (ms ++ [(b : Int)]))) .here (by rw [mset_ones, if_neg hin]) ?_
  refine go_wt_mk (b := bm) (s := ms ++ [(b : Int)]) .here ?_
  refine go_wts_in ⟨some bm, ms ++ [(b : Int)]⟩ a (by rw [hWI2.lw]; exact ha) zM ?_
  refine go_ws_same (xs := ws2.set a ⟨some bm, ms⟩) (ws2.set a ⟨some bm, ms ++ [(b : Int)]⟩) zM (by rw [List.map_set, List.map_set]) ?_
  refine zR 1 ?_
  obtain ⟨⟨yA, yc, yl⟩, hy⟩ : ∃ y, ld2[b]? = some y := ⟨_, List.getElem?_eq_getElem (by rw [hWI2.ll]; omega)⟩
  have hly : ldA ld2 b = yl := ldA_at hy
  refine go_inn_out b hy zM ?_
  refine zI 5 ?_
  refine go_val0 rfl (load_val (cs := fcRw ⟨yA, yc, yl⟩) Tk rfl rfl rfl (at_ol fcRw tRw_fc 0 (xs := ld2) (j := b) zM hy rfl) rfl) rfl ?_
  refine zV 1 ?_
  intro b1
  refine go_append1 (T := tInt .i64) (xs := yl) Tk ((a : Int)) rfl rfl rfl rfl rfl rfl rfl rfl rfl zM zM rfl ent_int (by have h1 := (hWI2.ldn b).1; rw [hly] at h1; have h2 := nodup_small h1 (fun x hx => (hWI2.ldn b).2 x (by rw [hly]; exact hx)); omega) zH ?_
  intro A3 c3
  refine zI 0 ?_
  refine go_store_el (T := tRw Int) (xs := ld2) (j := b) Tk (⟨A3, c3, yl ++ [(a : Int)]⟩ : Rw Int) rfl rfl rfl rfl rfl rfl zM (by rw [hWI2.ll]; omega) rfl rfl ent_Rw zF ?_
  refine go_inn_in ⟨A3, c3, yl ++ [(a : Int)]⟩ b (by rw [hWI2.ll]; omega) zM ?_
  refine zE 1 [1, 3, 4, 5, 34, 35, 36, 41, 42, 43, 65, 66, 67, 68, 69, 70, 71] ?_
  refine zR 5 ?_
  refine go_i64n 43 (i + 1) rfl ?_
  have hWI3 := hWI2.add hba ha (by rw [hwx]; exact hin) (x := ⟨some bm, ms ++ [(b : Int)]⟩) (by rw [hwx]) (y := ⟨A3, c3, yl ++ [(a : Int)]⟩) (by rw [hly])
  refine go_back (i + 1, _, _) zA zM zM (⟨by show i + 1 ≤ _; omega, hWI3.more (fun v' i' t' hd he => by
    rcases hd with h | ⟨h1, h2⟩
    · exact .inl (.inl h)
    · by_cases h3 : i' < i
      · exact .inl (.inr ⟨h1, h3⟩)
      · obtain rfl : i' = i := by omega
        subst h1
        have het : t' = t := Option.some.inj (he.symm.trans ht)
        subst het
        exact .inr (.inr ⟨a, b, hae, hbe, by rw [wsA_set _ (by rw [hWI2.lw]; exact ha), if_pos rfl]; exact List.mem_append_right _ (.head _)⟩))⟩) (by show _ - (i + 1) < _ - i; omega)
 intro g4
 have hvn : n = v := by omega
 subst hvn
 have hWlt : ∀ a b, b ∈ nats (wsA ws a) → b < a := fun a b hb => by
   have h1 : ∀ y ∈ wsA ws a, ∃ u : Nat, y = (u : Int) := fun y hy => by obtain ⟨m, e, _⟩ := (hWI.nd a).2 y hy; exact ⟨m, e⟩
   obtain ⟨m, e, hm⟩ := (hWI.nd a).2 _ ((nats_mem h1).1 hb)
   omega
 have hWm : ∀ a (m : Nat), m ∈ nats (wsA ws a) ↔ (m : Int) ∈ wsA ws a := fun a m => nats_mem (fun y hy => by obtain ⟨u, e, _⟩ := (hWI.nd a).2 y hy; exact ⟨u, e⟩)
 refine go_freeze_oo (T := tInt .i64) (R := ld) zM ?_
 refine zW 4 ?_
 intro b11
 refine zS 0 ?_
 refine zR 1 ?_
 refine go_freeze_pt (b := b11) zM ?_
 refine zW 2 ?_
 intro b12
 refine zR 1 ?_
 refine go_olw_nil 3 none ?_
 refine go_rdy_mk (b := b12) [] (A := none) (c := 0) zM ?_
 refine zL 8 ?_
 refine zL 2 ?_
 refine zR 4 ?_
 refine zO (X := Nat × List Int) (fun x => [(106, .int .i64 (x.1 : Int))]) [1, 3, 4, 12, 13, 105] (fun x => [rdy b12 (x.2)]) (fun x => x.1 ≤ g.R.length ∧ x.2.Perm (cs ((List.range x.1).filter fun a => decide (wsA ws a = [])))) (fun x => g.R.length - x.1) (0, []) ⟨Nat.zero_le _, .refl _⟩ ?_
 intro ⟨kk, rI⟩ ⟨hk, hrI⟩
 simp only at hk hrI ⊢
 refine zD 5 ?_ ?_
 ·intro hq2
  refine zR 9 ?_
  obtain ⟨⟨mb, ms⟩, hx⟩ : ∃ x, ws[kk]? = some x := ⟨_, List.getElem?_eq_getElem (by rw [hWI.lw]; omega)⟩
  have hwx : wsA ws kk = ms := wsA_at hx
  refine go_wts_out kk hx zM ?_
  refine zI 3 ?_
  refine go_val0 rfl (load_val (cs := [.map ((⟨mb, ms⟩ : Wt)).b]) Tk rfl rfl rfl (at_ol fcWt tWt_fc 0 (xs := ws) (j := kk) (x := (⟨mb, ms⟩ : Wt)) zM hx rfl) rfl) rfl ?_
  refine go_val0 rfl (len_wt (x := ⟨mb, ms⟩) Tk rfl rfl rfl zM) rfl ?_
  refine zR 2 ?_
  refine go_wts_back ⟨mb, ms⟩ kk hx zM ?_
  refine zD' 0 ?_ ?_
  ·intro g8
   have he : ¬ wsA ws kk = [] := fun e => g8 (by rw [hwx] at e; rw [e]; rfl)
   refine zR 6 ?_
   refine go_i64n 106 (kk + 1) rfl ?_
   refine zz (kk + 1, rI) (⟨by show kk + 1 ≤ _; omega, by rw [List.range_succ, List.filter_append, List.filter_cons, if_neg (by simpa using he)]; simpa using hrI⟩) (by show _ - (kk + 1) < _ - kk; omega)
  intro g8
  have he : wsA ws kk = [] := by rw [hwx]; exact List.eq_nil_of_length_eq_zero (by have q : ((ms.length : Nat) : Int) = 0 := g8; omega)
  refine zC 3 (addReady b11 b12 bX bF bS bo outc n g hA hc ofA ofc pA pc hne kk (by omega) rI (fun x hx => by obtain ⟨m, hm, e⟩ := mem_cs.1 (hrI.mem_iff.1 hx); exact ⟨m, e.symm, by have := List.mem_range.1 (List.mem_filter.1 hm).1; omega⟩) (by rw [hrI.length_eq, cs_len]; have := List.length_filter_le (fun a => decide (wsA ws a = [])) (List.range kk); rw [List.length_range] at this; omega)) ?_
  rintro _ _ _ ⟨r2, hr2, rfl, rfl, rfl⟩
  refine zE 1 [1, 3, 4, 12, 13, 105, 106] ?_
  refine zR 5 ?_
  refine go_i64n 106 (kk + 1) rfl ?_
  refine zz (kk + 1, r2) (⟨by show kk + 1 ≤ _; omega, by rw [List.range_succ, List.filter_append, List.filter_cons, if_pos (by simpa using he)]; rw [cs_app]; exact hr2.trans ((List.Perm.cons _ hrI).trans (List.perm_append_singleton _ _).symm)⟩) (by show _ - (kk + 1) < _ - kk; omega)
 intro hq2
 refine zR 2 ?_
 have hkn : kk = g.R.length := by omega
 subst hkn
 refine go_own_nil (tRw Int) 41 none ?_
 refine zR 5 ?_
 refine zO (X := List Nat × List Int × List Wt × Option Addr × Nat) (fun x => [(15, .slice x.2.2.2.1 ((x.1).map (rwAt g.R)).length x.2.2.2.2)]) [1, 3, 4, 12, 13] (fun x => [rdy b12 (x.2.1), ol tWt 235 (some ⟨bW, 0, none⟩) g.R.length (x.2.2.1), wts x.2.2.1, ol (tRw Int) 41 x.2.2.2.1 x.2.2.2.2 ((x.1).map (rwAt g.R))]) (fun x => Lv.Ord (fun a => nats (wsA ws a)) g.R.length x.1 (nats x.2.1) ∧ (∀ y ∈ x.2.1, ∃ m : Nat, y = (m : Int)) ∧ QI (fun a => nats (wsA ws a)) g.R.length (fun _ m => m ∈ x.1) x.2.2.1) (fun x => g.R.length - x.1.length) ([], rI, ws, none, 0) (by exact start_ok hWI hWm hrI) ?_
 intro ⟨O, rJ, ws3, A7, c7⟩ ⟨hO, hrJ, hQ⟩
 simp only at hO hrJ hQ ⊢
 have hOl : (O ++ nats rJ).length ≤ g.R.length := by have := nodup_lenN hO.nd (b := List.range g.R.length) (fun x hx => List.mem_range.2 (hO.lt x hx)); rwa [List.length_range] at this
 rw [List.length_append] at hOl
 have hnl : (nats rJ).length = rJ.length := by simp [nats]
 refine zR 2 ?_
 refine go_rdy (b := b12) zM (fun A9 c9 => ?_)
 refine zL 1 ?_
 refine zR 3 ?_
 refine go_rdy_mk (b := b12) rJ zM ?_
 refine zD' 0 ?_ ?_
 ·intro g9
  obtain rfl : rJ = [] := List.eq_nil_of_length_eq_zero (by omega)
  refine zR 2 ?_
  refine go_pall (l := [sl (tRw Int) pA pc g.R, pas (tInt .i64) g.R]) zM ?_
  have hOin : ∀ k ∈ O, k < g.R.length := fun k hk => hO.lt k (List.mem_append_left _ hk)
  refine go_ent (pas (tInt .i64) ((O).map (rwAt g.R))) (fun hh a p hp => by
    obtain ⟨x, hx, rfl⟩ := List.mem_map.1 hp
    obtain ⟨k, hk, rfl⟩ := List.mem_map.1 hx
    exact a (pas (tInt .i64) g.R) zM _ (List.mem_map.2 ⟨_, List.mem_of_getElem? (rwAt_at (hOin k hk)), rfl⟩)) ?_
  refine go_ofRw (R := (O).map (rwAt g.R)) zM zM ?_
  refine go_freeze_ol (xs := ((O).map (rwAt g.R)).map (·.l)) zM ?_
  have hps : ((O).map (rwAt g.R)).map (·.l) = (O.map fun k => nats (rowAt g.R k)).map cs := by
    rw [List.map_map, List.map_map]
    refine List.map_congr_left (fun k hk => ?_)
    show (rwAt g.R k).l = cs (nats (rowAt g.R k))
    rw [rwAt_l, nats_cs]
    intro y hy
    have h1 := List.getElem?_eq_getElem (hOin k hk)
    rw [rowAt_at h1] at hy
    obtain ⟨u, e, _⟩ := (I.pr k _ h1).2.2.2 y hy
    exact ⟨u, e⟩
  rw [hps]
  refine zR 4 ?_
  refine go_ret ⟨rfl, rfl⟩ _ _ (res1 (by rfl) (.tmp rfl)) ⟨_, _, O.map fun k => nats (rowAt g.R k), parts_ok I hseen hEn (W := (fun a => nats (wsA ws a))) (fun v t hv ht => by
    obtain ⟨i, hi, e⟩ := List.getElem_of_mem ht
    rcases hWI.cov v i t hv (by rw [← e]; exact List.getElem?_eq_getElem hi) with h | ⟨a, b, h1, h2, h3⟩
    · exact .inl h
    · exact .inr ⟨a, b, h1, h2, (hWm a b).2 h3⟩) hWlt hO, by rw [List.length_map, List.length_map], rfl, rfl⟩ zM zM
 intro g9
 obtain ⟨x, rest, rfl⟩ : ∃ x rest, rJ = x :: rest := by cases rJ with | nil => simp at g9 | cons x rest => exact ⟨x, rest, rfl⟩
 obtain ⟨kk, rfl⟩ := hrJ x (.head _)
 have hkO : kk < g.R.length := hO.lt kk (List.mem_append_right _ (by simp [nats]))
 refine zR 3 ?_
 refine go_rdy (b := b12) zM (fun A9 c9 => ?_)
 refine go_olw_open (xs := (kk : Int) :: rest) zM (by simp) (fun bq oq cur hAq h1 h2 h3 h4 => ?_); cases hAq
 have h5 : cur[oq + 0 * 1]? = some (.int .i64 (kk : Int)) := by
   have := congrArg (fun l : List Value => l[0]?) h2
   simp only [List.getElem?_take, List.getElem?_drop] at this
   rw [if_pos (by simp)] at this
   rw [show oq + 0 * 1 = oq + 0 by omega, this]; rfl
 refine zL 1 ?_
 refine go_val0 rfl (idx_val Tk rfl rfl rfl rfl rfl (by simp)) rfl ?_
 refine go_val0 rfl (load_val (cs := [.int .i64 (kk : Int)]) Tk rfl rfl rfl (at_one (b := bq) (cur := cur) zM h5) rfl) rfl ?_
 refine zR 2 ?_
 refine go_olw_close (b := bq) (oo := oq) (c := c9) ((kk : Int) :: rest) zM h1 h2 h3 h4 ?_
 refine zR 1 ?_
 refine go_len_olw (xs := (kk : Int) :: rest) zM (fun l9 m9 => ?_)
 have l9' : rest.length + 1 ≤ c9 := l9
 refine zL 1 ?_
 refine go_val0 rfl (slice_val' Tk rfl rfl rfl rfl 1 (rest.length + 1) c9 (.slice (if c9 = 1 then (some ⟨bq, oq, none⟩) else (some (⟨bq, oq, none⟩ : Addr)).map (·.add (1 * 1))) rest.length (c9 - 1)) (by first | rfl | exact ⟨_, rfl⟩ | exact ⟨rfl, rfl⟩) (by first | rfl | exact ⟨_, rfl⟩ | exact ⟨rfl, rfl⟩) (by first | rfl | exact ⟨_, rfl⟩ | exact ⟨rfl, rfl⟩) (by omega) (by omega) (by omega) rfl) rfl ?_
 refine zS 0 ?_
 refine zR 1 ?_
 refine go_olw_tail (x := (kk : Int)) (xs := rest) zM ?_
 refine go_rdy_mk (b := b12) rest zM ?_
 refine zR 1 ?_
 refine go_pall (l := [sl (tRw Int) pA pc g.R, pas (tInt .i64) g.R]) zM ?_
 refine go_elem_Rw (R := g.R) zM kk (rwAt_at hkO) (fun b6 o6 hA6 => ?_)
 refine zL 2 ?_
 refine zL 2 ?_
 refine go_re 131 (.slice (some ⟨b6, o6, none⟩) g.R.length pc) (by rw [← hA6]; rfl) ?_
 refine zI 1 ?_
 refine zL 0 ?_
 refine zV 0 ?_
 intro b2
 refine go_append1 (T := tRw Int) (xs := (O).map (rwAt g.R)) Tk (rwAt g.R kk) rfl rfl rfl rfl rfl rfl rfl rfl rfl zM zM rfl ent_Rw (by rw [List.length_map]; omega) zH ?_
 intro A3 c3
 rw [show (O).map (rwAt g.R) ++ [rwAt g.R kk] = (O ++ [kk]).map (rwAt g.R) by rw [List.map_append]; rfl]
 refine zE 2 [1, 3, 4, 12, 13, 15, 16] ?_
 refine zR 1 ?_
 obtain ⟨La, hLa⟩ : ∃ La, La = nats (ldA ld kk) := ⟨_, rfl⟩
 have hlc : cs La = ldA ld kk := by rw [hLa]; exact nats_cs (fun y hy => by obtain ⟨m, e, _⟩ := (hWI.ldn kk).2 y hy; exact ⟨m, e⟩)
 have hLal := cs_len La
 have hLnd : La.Nodup := by rw [hLa]; exact nats_nodup (hWI.ldn kk).1 (fun y hy => by obtain ⟨m, e, _⟩ := (hWI.ldn kk).2 y hy; exact ⟨m, e⟩)
 have hLlt : ∀ a ∈ La, a < g.R.length ∧ kk ∈ nats (wsA ws a) := fun a ha => by
   have h1 : (a : Int) ∈ ldA ld kk := by rw [← hlc]; exact cs_inj_mem.2 ha
   obtain ⟨m, e, hm⟩ := (hWI.ldn kk).2 _ h1
   exact ⟨by omega, (hWm a kk).2 ((hWI.iff a kk).1 h1)⟩
 have hLsm : La.length ≤ g.R.length := by have := nodup_lenN hLnd (b := List.range g.R.length) (fun x hx => List.mem_range.2 (hLlt x hx).1); rwa [List.length_range] at this
 refine go_elem_row (T := tInt .i64) (xss := ld.map (·.l)) zM kk (xs := cs La) (by rw [List.getElem?_map, List.getElem?_eq_getElem (by rw [hWI.ll]; exact hkO), hlc, ldA, List.getElem?_eq_getElem (by rw [hWI.ll]; exact hkO)]; rfl) (fun b7 o7 A8 c8 hA8 => ?_); cases hA8
 refine zI 3 ?_
 refine zL 0 ?_
 refine zR 4 ?_
 refine zO (X := Nat × List Int × List Wt) (fun x => [(142, .int .i64 (x.1 : Int))]) [1, 3, 4, 12, 13, 15, 16, 140, 141] (fun x => [rdy b12 (x.2.1), ol tWt 235 (some ⟨bW, 0, none⟩) g.R.length (x.2.2), wts x.2.2]) (fun x => x.1 ≤ La.length ∧ x.2.1.Perm (rest ++ cs ((La.take (x.1)).filter fun a => decide (∀ x ∈ nats (wsA ws a), x ∈ O ++ [kk]))) ∧ QI (fun a => nats (wsA ws a)) g.R.length (fun a m => m ∈ O ∨ (m = kk ∧ a ∈ La.take (x.1))) x.2.2) (fun x => La.length - x.1) (0, rest, ws3) ⟨Nat.zero_le _, by simp [cs], hQ.congr (fun a m _ => by simp)⟩ ?_
 intro ⟨j, r5, ws5⟩ ⟨hj, hr5, hQ2⟩
 simp only at hj hr5 hQ2 ⊢
 refine zD' 5 ?_ ?_
 ·intro g10
  have hlast : La.length ≤ j := by omega
  refine zR 2 ?_
  have hfin := next_ok hO hrJ hQ2 hWI hWm hLa hr5 hlast
  refine zz (O ++ [kk], r5, ws5, A3, c3) (⟨hfin.1, hfin.2.1, hfin.2.2⟩) (by show _ - (O ++ [kk]).length < _ - O.length; simp only [List.length_append, List.length_singleton]; omega)
 intro g10
 obtain ⟨a, hLj⟩ : ∃ a, La[j]? = some a := ⟨_, List.getElem?_eq_getElem (by omega)⟩
 have haL : a ∈ La := List.mem_of_getElem? hLj
 have haR := (hLlt a haL).1
 have hnt : ¬ a ∈ La.take j := nodup_take hLnd hLj
 refine zR 4 ?_
 refine go_elem_int (xs := cs La) zM j (cs_get hLj) (fun b8 o8 hA9 => ?_); cases hA9
 refine zI 1 ?_
 refine zL 0 ?_
 refine zR 3 ?_
 obtain ⟨⟨mb, ms⟩, hx⟩ : ∃ x, ws5[a]? = some x := ⟨_, List.getElem?_eq_getElem (by rw [hQ2.lw]; exact haR)⟩
 have hwx : wsA ws5 a = ms := wsA_at hx
 have hkin : (kk : Int) ∈ ms := by rw [← hwx]; exact hQ2.all a haR kk (hLlt a haL).2 (fun q => q.elim (fun q => not_out hO q) (fun q => hnt q.2))
 refine go_wts_out a hx zM ?_
 obtain ⟨bm, rfl⟩ | rfl : (∃ bm, mb = some bm) ∨ mb = none := by cases mb with | none => exact .inr rfl | some bm => exact .inl ⟨bm, rfl⟩
 rotate_left
 ·refine go_wt_none (s := ms) zM (fun hms => ?_)
  rw [hms] at hkin; cases hkin
 refine zI 3 ?_
 refine go_val0 rfl (load_val (cs := [.map ((⟨some bm, ms⟩ : Wt)).b]) Tk rfl rfl rfl (at_ol fcWt tWt_fc 0 (xs := ws5) (j := a) (x := (⟨some bm, ms⟩ : Wt)) zM hx rfl) rfl) rfl ?_
 refine zR 1 ?_
 refine go_mdel (b := bm) (s := ms) Tk rfl rfl rfl rfl rfl rfl rfl zM zF ?_
 have hQ3 := hQ2.del (k := kk) haR (x := ⟨some bm, ms.erase (kk : Int)⟩) (by rw [hwx])
 replace hQ3 : QI (fun a => nats (wsA ws a)) g.R.length (fun a m => m ∈ O ∨ (m = kk ∧ a ∈ La.take (j + 1))) _ := hQ3.congr (fun u m _ => gj_next hLj)
 refine go_wts_in ⟨some bm, ms.erase (kk : Int)⟩ a (by rw [hQ2.lw]; exact haR) zM ?_
 refine go_ws_same (xs := ws5) (ws5.set a ⟨some bm, ms.erase (kk : Int)⟩) zM (by rw [List.map_set]; exact (set_same (by rw [List.getElem?_map, hx]; rfl)).symm) ?_
 have hx' : (ws5.set a ⟨some bm, ms.erase (kk : Int)⟩)[a]? = some ⟨some bm, ms.erase (kk : Int)⟩ := by rw [set_at, if_pos ⟨rfl, by rw [hQ2.lw]; exact haR⟩]
 refine zR 2 ?_
 refine go_wts_out a hx' zM ?_
 refine zI 3 ?_
 refine go_val0 rfl (load_val (cs := [.map ((⟨some bm, ms.erase (kk : Int)⟩ : Wt)).b]) Tk rfl rfl rfl (at_ol fcWt tWt_fc 0 (xs := ws5.set a ⟨some bm, ms.erase (kk : Int)⟩) (j := a) (x := (⟨some bm, ms.erase (kk : Int)⟩ : Wt)) zM hx' rfl) rfl) rfl ?_
 refine go_val0 rfl (len_wt (x := ⟨some bm, ms.erase (kk : Int)⟩) Tk rfl rfl rfl zM) rfl ?_
 refine zR 2 ?_
 refine go_wts_back ⟨some bm, ms.erase (kk : Int)⟩ a hx' zM ?_
 have hemp := hQ3.empty haR
 rw [wsA_at hx'] at hemp
 have hall_iff : (∀ x ∈ nats (wsA ws a), x ∈ O ++ [kk]) ↔ ms.erase (kk : Int) = [] := by
   rw [show (ms.erase (kk : Int) = []) ↔ _ from hemp]
   refine ⟨fun h m hm => ?_, fun h m hm => ?_⟩
   · rcases List.mem_append.1 (h m hm) with q | q
     · exact .inl q
     · exact .inr ⟨List.mem_singleton.1 q, by rw [tk_next hLj]; exact List.mem_append_right _ (.head _)⟩
   · rcases h m hm with q | q
     · exact List.mem_append_left _ q
     · rw [q.1]; exact List.mem_append_right _ (.head _)
 refine zE 0 [1, 3, 4, 12, 13, 15, 16, 18, 140, 141, 142, 156] ?_
 refine zD' 0 ?_ ?_
 ·intro g11
  have hall : ¬ ∀ x ∈ nats (wsA ws a), x ∈ O ++ [kk] := fun h => g11 (by rw [hall_iff.1 h]; rfl)
  refine zR 6 ?_
  refine go_i64n 142 (j + 1) rfl ?_
  refine go_back (j + 1, r5, _) zA zM zM (⟨by show j + 1 ≤ _; omega, by rw [tk_next hLj, List.filter_append, List.filter_cons, if_neg (by simpa using hall)]; simpa using hr5, hQ3⟩) (by show _ - (j + 1) < _ - j; omega)
 intro g11
 have hall : ∀ x ∈ nats (wsA ws a), x ∈ O ++ [kk] := hall_iff.2 (List.eq_nil_of_length_eq_zero (by have q : (((ms.erase (kk : Int)).length : Nat) : Int) = 0 := g11; omega))
 refine zC 3 (addReady b11 b12 bX bF bS bo outc n g hA hc ofA ofc pA pc hne a haR r5 (ready_lt hO hr5 (fun x hx => (hLlt x hx).1) hrJ) (by rw [hr5.length_eq, List.length_append, cs_len]; have h1 := List.length_filter_le (fun a => decide (∀ x ∈ nats (wsA ws a), x ∈ O ++ [kk])) (La.take j); rw [List.length_take] at h1; simp only [List.length_cons] at hnl hOl; omega)) ?_
 rintro _ _ _ ⟨r2, hr2, rfl, rfl, rfl⟩
 refine zR 6 ?_
 refine go_i64n 142 (j + 1) rfl ?_
 refine go_back (j + 1, r2, _) zA zM zM (⟨by show j + 1 ≤ _; omega, by rw [tk_next hLj, List.filter_append, List.filter_cons, if_pos (by simpa using hall)]; rw [cs_app, ← List.append_assoc]; exact hr2.trans ((List.Perm.cons _ hr5).trans (List.perm_append_singleton _ _).symm), hQ3⟩) (by show _ - (j + 1) < _ - j; omega)
def outsP (es : List (Nat × Nat)) (v : Nat) : List Nat := (es.filter fun e => e.1 == v).map (·.2)
theorem outsP_app (es : List (Nat × Nat)) (e : Nat × Nat) (v : Nat) : outsP (es ++ [e]) v = outsP es v ++ (if v = e.1 then [e.2] else []) := by
  unfold outsP
  rw [List.filter_append, List.map_append]
  congr 1
  by_cases h : v = e.1
  · subst h; simp
  · rw [if_neg h]; simp [Ne.symm h]
theorem mem_outsP {es : List (Nat × Nat)} {v t : Nat} : t ∈ outsP es v ↔ (v, t) ∈ es := by
  simp only [outsP, List.mem_map, List.mem_filter, beq_iff_eq]
  constructor
  · rintro ⟨⟨a, b⟩, ⟨h1, h2⟩, h3⟩; simp only at h2 h3; subst h2; subst h3; exact h1
  · intro h; exact ⟨_, ⟨h, rfl⟩, rfl⟩
theorem outsP_len (es : List (Nat × Nat)) (v : Nat) : (outsP es v).length ≤ es.length := by
  unfold outsP; rw [List.length_map]; exact List.length_filter_le _ _
def outL (n : Nat) (es : List (Nat × Nat)) : List (List Nat) := (List.range n).map (outsP es)
theorem Eo_outL {n : Nat} {es : List (Nat × Nat)} (h : ∀ e ∈ es, e.1 < n) : Eo (outL n es) = outsP es := by
  funext v
  unfold Eo outL
  rw [List.getElem?_map]
  by_cases hv : v < n
  · rw [List.getElem?_range hv]; rfl
  · rw [List.getElem?_eq_none (by simp; omega)]
    cases e : outsP es v with
    | nil => rfl
    | cons t l => have : t ∈ outsP es v := by rw [e]; exact .head _
                  exact absurd (h _ (mem_outsP.1 this)) hv
theorem outL_rows {n : Nat} {es : List (Nat × Nat)} {ld : List (Rw Int)} (hl : ld.length = n) (h : ∀ v, v < n → ldA ld v = cs (outsP es v)) : ld.map (·.l) = (outL n es).map cs := by
  apply List.ext_getElem?
  intro i
  unfold outL
  rw [List.getElem?_map, List.map_map, List.getElem?_map]
  by_cases hi : i < n
  · have h1 := h i hi
    rw [ldA, List.getElem?_eq_getElem (by omega)] at h1
    rw [List.getElem?_eq_getElem (by omega), List.getElem?_range hi]
    simp only [Option.map_some, Option.getD_some, Function.comp] at h1 ⊢
    rw [h1]
  · rw [List.getElem?_eq_none (by omega), List.getElem?_eq_none (by simp; omega)]; rfl
def g0 (n : Nat) : GS := ⟨List.replicate n (0, 0), [], List.replicate n (-1), [], 0⟩
theorem zs_rep (n : Nat) : zs (List.replicate n (0, 0)) = n := by unfold zs; rw [List.filter_replicate]; simp
theorem FI.start (E : Nat → List Nat) (n : Nat) : FI E n (g0 n) [] := by
  have h1 : ∀ v, ordOf (g0 n) v = 0 := fun v => by unfold ordOf g0; simp only [List.getElem?_replicate]; split <;> rfl
  have h2 : ∀ v, lowOf (g0 n) v = 0 := fun v => by unfold lowOf g0; simp only [List.getElem?_replicate]; split <;> rfl
  have h3 : ∀ v, ofOf (g0 n) v = -1 := fun v => by unfold ofOf g0; simp only [List.getElem?_replicate]; split <;> rfl
  refine ⟨by simp [g0], by simp [g0], (fun x hx => nomatch hx), by show 0 + zs (List.replicate n (0, 0)) = n; rw [zs_rep]; omega, Nat.le_refl _, fun v _ => h2 v, ?_, fun k x h => by simp [g0] at h⟩
  have e : toSt (g0 n) [] = ⟨fun _ => 0, fun _ => 0, fun _ => -1, [], 0, 0, []⟩ := by
    unfold toSt
    rw [show ordOf (g0 n) = fun _ => 0 from funext h1, show lowOf (g0 n) = fun _ => 0 from funext h2, show ofOf (g0 n) = fun _ => -1 from funext h3]
    rfl
  rw [e]; exact Tj.inv_none E
theorem sn_zero1 {a b : Nat} (h : (decide ((a : Int) = 0) && (decide ((b : Int) = 0) && true)) = true) : a = 0 := by
  simp only [Bool.and_eq_true, decide_eq_true_eq] at h; omega
theorem sn_zero2 {a b : Nat} (h : (decide ((a : Int) = 0) && (decide ((b : Int) = 0) && true)) = false) (ha : a = 0) (hb : b = 0) : False := by
  subst ha; subst hb; exact absurd h (by decide)
theorem go_elem_Sn {C : Ctx} {k : List It} {E : Env} {Ps : List PA} {Os : List OA} {A : Option Addr} {c : Nat} {R : List (Nat × Nat)} (h : sl tSn A c R ∈ Ps) (j : Nat) {x : Nat × Nat} (hj : R[j]? = some x) (g : ∀ b o, A = some ⟨b, o, none⟩ → Go C k E (cl b (o + j * 2) [.int .i64 (x.1 : Int), .int .i64 (x.2 : Int)] :: Ps) Os) : Go C k E Ps Os :=
  go_elem h j hj fun b o cs hA => fun a w hp ho hf hs hb => by
    have e : cs = fcSn x := tSn_fc _ _ _ (hs.ps _ (.tail _ (.head _)))
    subst e
    exact g b o hA a w hp ho hf ⟨hs.inp, hs.ino, hs.dj, forall_cons (hs.ps _ (.head _)) fun p hp => hs.ps p (.tail _ (.tail _ hp)), hs.os⟩ hb
set_option maxHeartbeats 8000000 in
theorem graphParts (n : Nat) (EA : Option Addr) (ec : Nat) (es : List (Nat × Nat)) (hn : n ≤ 4096) (hel : es.length ≤ 16384) (he : ∀ e ∈ es, e.1 < n ∧ e.2 < n) :
    Spec Tryz.prog 102 #[.int .i64 (n : Int), .slice EA es.length ec] [sl tSn EA ec es] [] (fun v Ps' Os' => ∃ (A : Option Addr) (c : Nat) (ps : List (List Nat)), PartsOK (outsP es) n ps ∧ v = .tuple #[.slice A ps.length c, .int .i64 0] ∧ Ps' = [sl (tSl (tInt .i64)) A c (ps.map cs)] ∧ Os' = []) := by
 refine zSp _ Tryz.func102 Tryz.ntmps102 (fun _ _ _ => ?_)
 refine zR 1 ?_
 have hE1 : ∀ e ∈ es, e.1 < n := fun e h => (he e h).1
 have hEo := Eo_outL hE1
 have hll : (outL n es).length = n := by simp [outL]
 have hrow : ∀ l ∈ outL n es, (∀ t ∈ l, t < n) ∧ l.length ≤ 100000 := fun l hl => by
   obtain ⟨v, _, rfl⟩ := List.mem_map.1 hl
   exact ⟨fun t ht => (he _ (mem_outsP.1 ht)).2, Nat.le_trans (outsP_len es v) (by omega)⟩
 refine go_len (xs := es) zM (fun l0 m0 => ?_)
 refine zR 11 ?_
 refine go_re 13 (.bool false) (by show some (Value.bool _) = _; rw [decide_eq_false (by omega)]) ?_
 refine zDf 2 ?_
 refine zR 4 ?_
 refine go_re 16 (.bool false) (by show some (Value.bool _) = _; rw [decide_eq_false (by omega)]) ?_
 refine zDf 2 ?_
 refine zR 4 ?_
 refine go_re 19 (.bool false) (by show some (Value.bool _) = _; rw [decide_eq_false (by omega)]) ?_
 refine zDf 2 ?_
 refine zR 3 ?_
 refine zU (X := Nat × Nat × Nat × Nat) (fun x => [(6, .pointer (some ⟨x.1, 0, none⟩))]) [0, 1] (fun x => [pt x.1 202 [.slice (some ⟨x.2.1, 0, none⟩) n n, .slice (some ⟨x.2.2.1, 0, none⟩) n n, .slice none 0 0, .slice (some ⟨x.2.2.2, 0, none⟩) n n, .slice none 0 0, .int .i64 0], ol (tRw Int) 41 (some ⟨x.2.1, 0, none⟩) n (List.replicate n ⟨none, 0, []⟩), ol tSn 204 (some ⟨x.2.2.1, 0, none⟩) n (List.replicate n (0, 0)), ol (tInt .i64) 3 (some ⟨x.2.2.2, 0, none⟩) n (List.replicate n (-1))]) ([]) (fun _ => True) ?_ ?_
 ·skip
  refine go_draw'  [] (SL.pre [(1, 0), (1, 2), (1, 5)] (.two (SL.pre [(0, 1)] (.two (SL.pre [(0, 3), (0, 4), (0, 6), (1, 7), (0, 8), (1, 9)] .nil) (SL.pre [(0, 4)] (.two (SL.pre [(0, 3), (0, 6), (1, 7), (0, 8), (1, 9)] .nil) (SL.pre [(0, 6), (0, 3), (1, 7), (0, 8), (1, 9)] .nil))))) (.two (SL.pre [(0, 3)] (.two (SL.pre [(0, 1), (0, 4), (0, 6), (1, 7), (0, 8), (1, 9)] .nil) (SL.pre [(0, 4)] (.two (SL.pre [(0, 1), (0, 6), (1, 7), (0, 8), (1, 9)] .nil) (SL.pre [(0, 6), (0, 1), (1, 7), (0, 8), (1, 9)] .nil))))) (SL.pre [(0, 4)] (.two (SL.pre [(0, 1)] (.two (SL.pre [(0, 3), (0, 6), (1, 7), (0, 8), (1, 9)] .nil) (SL.pre [(0, 6), (0, 3), (1, 7), (0, 8), (1, 9)] .nil))) (.two (SL.pre [(0, 3)] (.two (SL.pre [(0, 1), (0, 6), (1, 7), (0, 8), (1, 9)] .nil) (SL.pre [(0, 6), (0, 1), (1, 7), (0, 8), (1, 9)] .nil))) (SL.pre [(0, 6)] (.two (SL.pre [(0, 1), (0, 3), (1, 7), (0, 8), (1, 9)] .nil) (SL.pre [(0, 3), (0, 1), (1, 7), (0, 8), (1, 9)] .nil))))))))) mixed rfl (by kernel_rfl) ?_
  refine zR 3 ?_
  refine go_two ?_ ?_
  ·skip
   refine go_make (tRw Int) ⟨none, 0, []⟩ n Tk rfl rfl rfl rfl rfl rfl rfl rfl rfl (fun _ => rfl) (by omega) zQ ?_
   intro bo
   refine go_two ?_ ?_
   ·skip
    refine go_make tSn (0, 0) n Tk rfl rfl rfl rfl rfl rfl rfl rfl rfl (fun h => tSn_mk h (0, 0)) (by omega) zQ ?_
    intro bS
    refine zV 0 ?_
    intro bu
    refine go_lit_int (kk := .i64) (b := bu) [-1] zM (by simp) ?_
    refine zC 0 (repeatI (some ⟨bu, 0, none⟩) 1 n (-1) (by omega)) ?_
    rintro _ _ _ ⟨bR, rfl, rfl, rfl⟩
    refine go_val1 rfl (fun a w hp ho hf hs => build_val Tk rfl rfl rfl (by rfl) a w hf) rfl ?_
    refine zX 0 ?_
    intro bF
    refine zR 2 ?_
    refine zz (bF, bo, bS, bR) (trivial) (by decide)
   refine zV 0 ?_
   intro bu
   refine go_lit_int (kk := .i64) (b := bu) [-1] zM (by simp) ?_
   refine go_two ?_ ?_
   ·skip
    refine go_make tSn (0, 0) n Tk rfl rfl rfl rfl rfl rfl rfl rfl rfl (fun h => tSn_mk h (0, 0)) (by omega) zQ ?_
    intro bS
    refine zC 0 (repeatI (some ⟨bu, 0, none⟩) 1 n (-1) (by omega)) ?_
    rintro _ _ _ ⟨bR, rfl, rfl, rfl⟩
    refine go_val1 rfl (fun a w hp ho hf hs => build_val Tk rfl rfl rfl (by rfl) a w hf) rfl ?_
    refine zX 0 ?_
    intro bF
    refine zR 2 ?_
    refine zz (bF, bo, bS, bR) (trivial) (by decide)
   refine zC 0 (repeatI (some ⟨bu, 0, none⟩) 1 n (-1) (by omega)) ?_
   rintro _ _ _ ⟨bR, rfl, rfl, rfl⟩
   refine go_make tSn (0, 0) n Tk rfl rfl rfl rfl rfl rfl rfl rfl rfl (fun h => tSn_mk h (0, 0)) (by omega) zQ ?_
   intro bS
   refine go_val1 rfl (fun a w hp ho hf hs => build_val Tk rfl rfl rfl (by rfl) a w hf) rfl ?_
   refine zX 0 ?_
   intro bF
   refine zR 2 ?_
   refine zz (bF, bo, bS, bR) (trivial) (by decide)
  refine go_two ?_ ?_
  ·skip
   refine go_make tSn (0, 0) n Tk rfl rfl rfl rfl rfl rfl rfl rfl rfl (fun h => tSn_mk h (0, 0)) (by omega) zQ ?_
   intro bS
   refine go_two ?_ ?_
   ·skip
    refine go_make (tRw Int) ⟨none, 0, []⟩ n Tk rfl rfl rfl rfl rfl rfl rfl rfl rfl (fun _ => rfl) (by omega) zQ ?_
    intro bo
    refine zV 0 ?_
    intro bu
    refine go_lit_int (kk := .i64) (b := bu) [-1] zM (by simp) ?_
    refine zC 0 (repeatI (some ⟨bu, 0, none⟩) 1 n (-1) (by omega)) ?_
    rintro _ _ _ ⟨bR, rfl, rfl, rfl⟩
    refine go_val1 rfl (fun a w hp ho hf hs => build_val Tk rfl rfl rfl (by rfl) a w hf) rfl ?_
    refine zX 0 ?_
    intro bF
    refine zR 2 ?_
    refine zz (bF, bo, bS, bR) (trivial) (by decide)
   refine zV 0 ?_
   intro bu
   refine go_lit_int (kk := .i64) (b := bu) [-1] zM (by simp) ?_
   refine go_two ?_ ?_
   ·skip
    refine go_make (tRw Int) ⟨none, 0, []⟩ n Tk rfl rfl rfl rfl rfl rfl rfl rfl rfl (fun _ => rfl) (by omega) zQ ?_
    intro bo
    refine zC 0 (repeatI (some ⟨bu, 0, none⟩) 1 n (-1) (by omega)) ?_
    rintro _ _ _ ⟨bR, rfl, rfl, rfl⟩
    refine go_val1 rfl (fun a w hp ho hf hs => build_val Tk rfl rfl rfl (by rfl) a w hf) rfl ?_
    refine zX 0 ?_
    intro bF
    refine zR 2 ?_
    refine zz (bF, bo, bS, bR) (trivial) (by decide)
   refine zC 0 (repeatI (some ⟨bu, 0, none⟩) 1 n (-1) (by omega)) ?_
   rintro _ _ _ ⟨bR, rfl, rfl, rfl⟩
   refine go_make (tRw Int) ⟨none, 0, []⟩ n Tk rfl rfl rfl rfl rfl rfl rfl rfl rfl (fun _ => rfl) (by omega) zQ ?_
   intro bo
   refine go_val1 rfl (fun a w hp ho hf hs => build_val Tk rfl rfl rfl (by rfl) a w hf) rfl ?_
   refine zX 0 ?_
   intro bF
   refine zR 2 ?_
   refine zz (bF, bo, bS, bR) (trivial) (by decide)
  refine zV 0 ?_
  intro bu
  refine go_lit_int (kk := .i64) (b := bu) [-1] zM (by simp) ?_
  refine go_two ?_ ?_
  ·skip
   refine go_make (tRw Int) ⟨none, 0, []⟩ n Tk rfl rfl rfl rfl rfl rfl rfl rfl rfl (fun _ => rfl) (by omega) zQ ?_
   intro bo
   refine go_two ?_ ?_
   ·skip
    refine go_make tSn (0, 0) n Tk rfl rfl rfl rfl rfl rfl rfl rfl rfl (fun h => tSn_mk h (0, 0)) (by omega) zQ ?_
    intro bS
    refine zC 0 (repeatI (some ⟨bu, 0, none⟩) 1 n (-1) (by omega)) ?_
    rintro _ _ _ ⟨bR, rfl, rfl, rfl⟩
    refine go_val1 rfl (fun a w hp ho hf hs => build_val Tk rfl rfl rfl (by rfl) a w hf) rfl ?_
    refine zX 0 ?_
    intro bF
    refine zR 2 ?_
    refine zz (bF, bo, bS, bR) (trivial) (by decide)
   refine zC 0 (repeatI (some ⟨bu, 0, none⟩) 1 n (-1) (by omega)) ?_
   rintro _ _ _ ⟨bR, rfl, rfl, rfl⟩
   refine go_make tSn (0, 0) n Tk rfl rfl rfl rfl rfl rfl rfl rfl rfl (fun h => tSn_mk h (0, 0)) (by omega) zQ ?_
   intro bS
   refine go_val1 rfl (fun a w hp ho hf hs => build_val Tk rfl rfl rfl (by rfl) a w hf) rfl ?_
   refine zX 0 ?_
   intro bF
   refine zR 2 ?_
   refine zz (bF, bo, bS, bR) (trivial) (by decide)
  refine go_two ?_ ?_
  ·skip
   refine go_make tSn (0, 0) n Tk rfl rfl rfl rfl rfl rfl rfl rfl rfl (fun h => tSn_mk h (0, 0)) (by omega) zQ ?_
   intro bS
   refine go_two ?_ ?_
   ·skip
    refine go_make (tRw Int) ⟨none, 0, []⟩ n Tk rfl rfl rfl rfl rfl rfl rfl rfl rfl (fun _ => rfl) (by omega) zQ ?_
    intro bo
    refine zC 0 (repeatI (some ⟨bu, 0, none⟩) 1 n (-1) (by omega)) ?_
    rintro _ _ _ ⟨bR, rfl, rfl, rfl⟩
    refine go_val1 rfl (fun a w hp ho hf hs => build_val Tk rfl rfl rfl (by rfl) a w hf) rfl ?_
    refine zX 0 ?_
    intro bF
    refine zR 2 ?_
    refine zz (bF, bo, bS, bR) (trivial) (by decide)
   refine zC 0 (repeatI (some ⟨bu, 0, none⟩) 1 n (-1) (by omega)) ?_
   rintro _ _ _ ⟨bR, rfl, rfl, rfl⟩
   refine go_make (tRw Int) ⟨none, 0, []⟩ n Tk rfl rfl rfl rfl rfl rfl rfl rfl rfl (fun _ => rfl) (by omega) zQ ?_
   intro bo
   refine go_val1 rfl (fun a w hp ho hf hs => build_val Tk rfl rfl rfl (by rfl) a w hf) rfl ?_
   refine zX 0 ?_
   intro bF
   refine zR 2 ?_
   refine zz (bF, bo, bS, bR) (trivial) (by decide)
  refine zC 0 (repeatI (some ⟨bu, 0, none⟩) 1 n (-1) (by omega)) ?_
  rintro _ _ _ ⟨bR, rfl, rfl, rfl⟩
  refine go_two ?_ ?_
  ·skip
   refine go_make (tRw Int) ⟨none, 0, []⟩ n Tk rfl rfl rfl rfl rfl rfl rfl rfl rfl (fun _ => rfl) (by omega) zQ ?_
   intro bo
   refine go_make tSn (0, 0) n Tk rfl rfl rfl rfl rfl rfl rfl rfl rfl (fun h => tSn_mk h (0, 0)) (by omega) zQ ?_
   intro bS
   refine go_val1 rfl (fun a w hp ho hf hs => build_val Tk rfl rfl rfl (by rfl) a w hf) rfl ?_
   refine zX 0 ?_
   intro bF
   refine zR 2 ?_
   refine zz (bF, bo, bS, bR) (trivial) (by decide)
  refine go_make tSn (0, 0) n Tk rfl rfl rfl rfl rfl rfl rfl rfl rfl (fun h => tSn_mk h (0, 0)) (by omega) zQ ?_
  intro bS
  refine go_make (tRw Int) ⟨none, 0, []⟩ n Tk rfl rfl rfl rfl rfl rfl rfl rfl rfl (fun _ => rfl) (by omega) zQ ?_
  intro bo
  refine go_val1 rfl (fun a w hp ho hf hs => build_val Tk rfl rfl rfl (by rfl) a w hf) rfl ?_
  refine zX 0 ?_
  intro bF
  refine zR 2 ?_
  refine zz (bF, bo, bS, bR) (trivial) (by decide)
 intro ⟨bF, bo, bS, bR⟩ _
 simp only
 refine go_inn_reps (tInt .i64) 3 n ?_
 refine zR 8 ?_
 refine zO (X := Nat × List (Rw Int)) (fun x => [(31, .int .i64 (x.1 : Int))]) [0, 6, 29, 30] (fun x => [ol (tRw Int) 41 (some ⟨bo, 0, none⟩) n (x.2), inn (tInt .i64) 3 x.2]) (fun x => x.1 ≤ es.length ∧ x.2.length = n ∧ ∀ v, v < n → ldA x.2 v = cs (outsP (es.take x.1) v)) (fun x => es.length - x.1) (0, List.replicate n ⟨none, 0, []⟩) ⟨Nat.zero_le _, by simp, fun v hv => by rw [ldA, List.getElem?_replicate, if_pos hv]; rfl⟩ ?_
 intro ⟨k, ld⟩ ⟨hk, hld, hrs⟩
 simp only at hk hld hrs ⊢
 refine zD 5 ?_ ?_
 ·intro g1
  obtain ⟨⟨a, b⟩, hek⟩ : ∃ e, es[k]? = some e := ⟨_, List.getElem?_eq_getElem (by omega)⟩
  have hek' : es[k]'(by omega) = (a, b) := (List.getElem?_eq_some_iff.1 hek).2
  have hab := he (a, b) (List.mem_of_getElem? hek)
  simp only at hab
  refine zR 4 ?_
  refine go_elem_Sn (R := es) zM k hek (fun b1 o1 hA1 => ?_); cases hA1
  simp only
  refine zI 1 ?_
  refine zL 0 ?_
  refine zW 0 ?_
  intro bE
  refine zS 0 ?_
  refine zIA 4 ?_
  refine zL 0 ?_
  refine zIA 0 ?_
  refine zL 0 ?_
  refine go_val0 rfl (min_val rfl rfl rfl) rfl ?_
  refine zR 1 ?_
  refine go_re 40 (.bool false) (by show some (Value.bool _) = _; rw [decide_eq_false (by split <;> omega)]) ?_
  refine zIA 1 ?_
  refine zL 0 ?_
  refine zIA 0 ?_
  refine zL 0 ?_
  refine go_val0 rfl (max_val rfl rfl rfl) rfl ?_
  refine zR 2 ?_
  refine go_re 48 (.bool false) (by show some (Value.bool _) = _; rw [decide_eq_false (by split <;> omega)]) ?_
  refine zDf 2 ?_
  refine zR 1 ?_
  obtain ⟨⟨yA, yc, yl⟩, hy⟩ : ∃ y, ld[a]? = some y := ⟨_, List.getElem?_eq_getElem (by omega)⟩
  have hly : ldA ld a = yl := ldA_at hy
  have hyl : yl.length ≤ 16384 := by rw [← hly, hrs a hab.1, cs_len]; have := outsP_len (es.take k) a; rw [List.length_take] at this; omega
  refine go_inn_out a hy zM ?_
  refine go_draw ([]) ([pt bF 202 [.slice (some ⟨bo, 0, none⟩) n n, .slice (some ⟨bS, 0, none⟩) n n, .slice none 0 0, .slice (some ⟨bR, 0, none⟩) n n, .slice none 0 0, .int .i64 0], ol (tRw Int) 41 (some ⟨bo, 0, none⟩) n (ld), pt bE 165 [.int .i64 (a : Int), .int .i64 (b : Int)]]) [3, 5, 9, 11, 13, 15] (SL.pre [(1, 0), (1, 1), (1, 2), (1, 4), (1, 6), (1, 7), (1, 8), (1, 10), (1, 14), (2, 3), (2, 5), (2, 9), (2, 11), (1, 12), (2, 13), (2, 15), (0, 16), (0, 17), (1, 18), (0, 19)] .nil) mixed rfl (by kernel_rfl) ?_
  refine zIA 3 ?_
  refine zIA 3 ?_
  refine zIA 0 ?_
  refine zK 0 ?_
  refine zK 0 ?_
  refine zK 0 ?_
  refine zK 0 ?_
  refine zI 0 ?_
  refine go_val2a rfl (load_val (cs := fcRw ⟨yA, yc, yl⟩) Tk rfl rfl rfl (at_ol fcRw tRw_fc 0 (xs := ld) (j := a) zM hy rfl) rfl) rfl ?_
  refine zK 0 ?_
  refine go_bslice Tk rfl rfl rfl rfl rfl rfl rfl rfl (fun _ _ => satA) ?_
  intro b1
  refine go_append1 (T := tInt .i64) (xs := yl) Tk ((b : Int)) rfl rfl rfl rfl rfl rfl rfl rfl rfl zM zM rfl ent_int (by omega) zH ?_
  intro A3 c3
  refine zI 0 ?_
  refine zSE 0 (tRw Int) ld a (⟨A3, c3, yl ++ [(b : Int)]⟩ : Rw Int) ent_Rw ?_
  refine go_inn_in (R := ld) ⟨A3, c3, yl ++ [(b : Int)]⟩ a (by omega) zM ?_
  refine zE 1 [0, 6, 29, 30, 31, 42, 43, 44, 45, 46, 47, 48] ?_
  refine zR 5 ?_
  refine go_i64n 31 (k + 1) rfl ?_
  refine zz (k + 1, ld.set a ⟨A3, c3, yl ++ [(b : Int)]⟩) (⟨by show k + 1 ≤ _; omega, by rw [List.length_set]; exact hld, fun v hv => by
    rw [ldA_set _ (by omega), List.take_succ_eq_append_getElem (show k < es.length by omega), hek', outsP_app]
    by_cases e : v = a
    · subst e; rw [if_pos rfl, if_pos rfl, cs_app, ← hrs v hv, hly]; rfl
    · rw [if_neg e, if_neg e, List.append_nil]; exact hrs v hv⟩) (by show _ - (k + 1) < _ - k; omega)
 intro g1
 refine zR 3 ?_
 refine go_freeze_oo (T := tInt .i64) (R := ld) zM ?_
 have hks : k = es.length := by omega
 rw [outL_rows hld (fun v hv => by rw [hrs v hv, hks, List.take_length])]
 refine go_own_nil (tInt .i64) 3 none ?_
 refine go_own_nil (tRw Int) 41 none ?_
 refine go_pas_nil (tInt .i64) ?_
 refine zL 4 ?_
 refine zR 3 ?_
 refine go_fin_mk (tf := 202) (te := 204) (ti := 3) (tp := 41) (outA := some ⟨bo, 0, none⟩) (outc := n) (n := n) (bF := bF) (bS := bS) ⟨none, 0, some ⟨bR, 0, none⟩, n, none, 0⟩ (g0 n) zM zM ?_
 refine zR 1 ?_
 refine zO (X := Nat × GS) (fun x => [(75, .int .i64 (x.1 : Int))]) [6, 73, 74] (fun x => [fin 202 204 3 41 bF bS (some ⟨bo, 0, none⟩) n n (x.2)]) (fun x => x.1 ≤ n ∧ FI (Eo (outL n es)) n x.2 [] ∧ ∀ v, v < x.1 → 0 < ordOf x.2 v) (fun x => n - x.1) (0, g0 n) ⟨Nat.zero_le _, FI.start _ _, fun v h => absurd h (Nat.not_lt_zero _)⟩ ?_
 intro ⟨v, g⟩ ⟨hv, I, hsn⟩
 simp only at hv I hsn ⊢
 have hsl := I.sl
 refine zD' 5 ?_ ?_
 ·intro hq1
  refine zC 4 (fOrdered bF bS bo n n (outL n es) hll (fun l hl => (hrow l hl).1) (fun l hl => (hrow l hl).2) (by omega) g I (fun u hu => hsn u (by omega))) ?_
  rintro _ _ _ ⟨Ap, cp, ps, hps, rfl, rfl, rfl⟩
  rw [hEo] at hps
  refine zT 3 rfl ⟨Ap, cp, ps, hps, rfl, rfl, rfl⟩
 intro hq1
 refine zR 4 ?_
 refine go_fin_ (bF := bF) zM (fun hA hc ofA ofc pA pc => ?_)
 refine zI 2 ?_
 refine go_val0 rfl (load_val (cs := fcSn (ordOf g v, lowOf g v)) Tk rfl rfl rfl (at_ol fcSn tSn_fc 0 (xs := g.seen) (j := v) zM (seen_at (show v < g.seen.length by omega)) rfl) rfl) rfl ?_
 refine zW 0 ?_
 intro bT
 refine zS 1 ?_
 refine zR 1 ?_
 refine go_fin_mk (outA := some ⟨bo, 0, none⟩) (outc := n) (n := n) (bF := bF) (bS := bS) ⟨hA, hc, ofA, ofc, pA, pc⟩ (g) zM zM ?_
 refine zR 1 ?_
 refine zU (X := Bool) (fun x => [(93, .bool x)]) [6, 9, 73, 74, 75] (fun _ => [fin 202 204 3 41 bF bS (some ⟨bo, 0, none⟩) n n (g)]) ([fin 202 204 3 41 bF bS (some ⟨bo, 0, none⟩) n n (g)]) (fun x => x = true ↔ ordOf g v = 0) ?_ ?_
 ·skip
  refine go_fin_ (bF := bF) zM (fun hA hc ofA ofc pA pc => ?_)
  refine zY 0 [4, 2, 7, 10, 13, 16, 19, 25, 23, 28, 32, 35, 37, 40] ?_
  refine go_val1 rfl (fun a w hp ho hf hs => build_val Tk rfl rfl rfl (by rfl) a w hf) rfl ?_
  refine zK 0 ?_
  refine go_val1 rfl (seq_val Tk rfl rfl rfl rfl (by rfl) rfl (by kernel_rfl) (by kernel_rfl)) rfl ?_
  refine zG' 1 83 ?_ ?_
  ·intro g5
   (try simp only [dcs, ne_eq] at g5)
   refine zJ 4 ?_
   refine zJ 1 ?_
   refine zJ 0 ?_
   refine zR 3 ?_
   refine go_fin_mk (outA := some ⟨bo, 0, none⟩) (outc := n) (n := n) (bF := bF) (bS := bS) ⟨hA, hc, ofA, ofc, pA, pc⟩ (g) zM zM ?_
   refine zz (false) (⟨fun h => (nomatch h), fun h => (sn_zero2 g5 h (I.z v h)).elim⟩) (by decide)
  intro g5
  (try simp only [dcs, ne_eq] at g5)
  refine zK 4 ?_
  refine zI 0 ?_
  refine go_val2a rfl (load_val (cs := fcSn (ordOf g v, lowOf g v)) Tk rfl rfl rfl (at_ol fcSn tSn_fc 0 (xs := g.seen) (j := v) zM (seen_at (show v < g.seen.length by omega)) rfl) rfl) rfl ?_
  refine zK 0 ?_
  refine go_val1 rfl (seq_val Tk rfl rfl rfl rfl (by rfl) rfl (by kernel_rfl) (by kernel_rfl)) rfl ?_
  refine go_re 92 (.bool true) (by show some (Value.bool _) = _; first | rfl | simp) ?_
  refine zR 2 ?_
  refine go_fin_mk (outA := some ⟨bo, 0, none⟩) (outc := n) (n := n) (bF := bF) (bS := bS) ⟨hA, hc, ofA, ofc, pA, pc⟩ (g) zM zM ?_
  refine zz (true) (⟨fun _ => sn_zero1 g5, fun _ => rfl⟩) (by decide)
 intro cr hcr
 refine zB' 0 ?_ ?_
 ·intro g6
  (try simp only [dcs, ne_eq] at g6)
  have h0' : 0 < ordOf g v := Nat.pos_of_ne_zero (fun h => by rw [hcr.2 h] at g6; cases g6)
  refine zR 6 ?_
  refine go_i64n 75 (v + 1) rfl ?_
  refine zz (v + 1, g) (⟨by show v + 1 ≤ n; omega, I, fun u hu => by
    have hu' : u < v + 1 := hu
    by_cases e : u = v
    · rw [e]; exact h0'
    · exact hsn u (by omega)⟩) (by show n - (v + 1) < n - v; omega)
 intro g6
 (try simp only [dcs, ne_eq] at g6)
 have h0' : ordOf g v = 0 := hcr.1 g6
 refine zC 3 (fFrom bF bS bo n n (outL n es) hll (fun l hl => (hrow l hl).1) (fun l hl => (hrow l hl).2) (by omega) g I v (by omega) h0') ?_
 rintro _ _ _ ⟨g2, I2, hm2, h2, rfl, rfl, rfl⟩
 refine zR 6 ?_
 refine go_i64n 75 (v + 1) rfl ?_
 refine zz (v + 1, g2) (⟨by show v + 1 ≤ n; omega, I2, fun u hu => by
   have hu' : u < v + 1 := hu
   by_cases e : u = v
   · rw [e]; exact h2
   · exact hm2 u (hsn u (by omega))⟩) (by show n - (v + 1) < n - v; omega)
end Go.Proofs.YtdconhalfanclaaGreat.SL
namespace Go.Proofs.YtdconhalfanclaaGreat.SL
def Cl.ok (c : Cl) : Prop := c.h.ok ∧ ∀ l ∈ c.b, l.a.ok
theorem may_vok {a : Am} (h : mayA a = true) (g : a.ok) : vok a := fun t ht e => by
  unfold mayA at h
  simp only [Bool.and_eq_true, Bool.not_eq_true', List.any_eq_false, decide_eq_true_eq, not_and] at h
  have := h.2 t ht e
  exact ⟨(g.2 t ht).1, by omega⟩
theorem may_len6 {a : Am} (h : mayA a = true) : a.a.length ≤ 6 := by
  unfold mayA at h
  simp only [Bool.and_eq_true, decide_eq_true_eq] at h
  exact h.1
theorem mayC_iff {c : Cl} : mayC c = true ↔ c.b.length ≤ 8 ∧ mayA c.h = true ∧ ∀ l ∈ c.b, mayA l.a = true := by
  unfold mayC
  simp only [Bool.and_eq_true, decide_eq_true_eq, Bool.not_eq_true', List.any_eq_false, Bool.not_eq_true, Bool.not_eq_false', Bool.not_eq_false]
theorem mayC_of {c : Cl} (h : mayC c = true) : c.b.length ≤ 8 ∧ mayA c.h = true ∧ ∀ l ∈ c.b, mayA l.a = true := mayC_iff.1 h
def heldP (c : Cl) : Prop := (∀ t ∈ c.h.a, t.v = true → t.n ∈ heldBy c) ∧ ∀ l ∈ c.b, l.no = true → ∀ t ∈ l.a.a, t.v = true → t.n ∈ heldBy c
theorem heldC_iff {c : Cl} : heldC c = true ↔ heldP c := by
  unfold heldC heldP
  simp only [Bool.and_eq_true, List.all_eq_true, decide_eq_true_eq, List.mem_filter]
  constructor
  · intro h
    exact ⟨fun t ht e => h.2 _ (mem_vars.2 ⟨t, ht, e, rfl⟩), fun l hl e t ht et => h.1 l ⟨hl, e⟩ _ (mem_vars.2 ⟨t, ht, et, rfl⟩)⟩
  · intro h
    refine ⟨fun l hl v hv => ?_, fun v hv => ?_⟩
    · obtain ⟨t, ht, e, rfl⟩ := mem_vars.1 hv
      exact h.2 l hl.1 hl.2 t ht e
    · obtain ⟨t, ht, e, rfl⟩ := mem_vars.1 hv
      exact h.1 t ht e
theorem right_of {c : Cl} (hm : mayC c = true) (hh : heldC c = true) (ho : c.ok) : RightC c := by
  obtain ⟨_, h1, h2⟩ := mayC_of hm
  obtain ⟨h3, h4⟩ := heldC_iff.1 hh
  exact ⟨may_vok h1 ho.1, fun l hl => may_vok (h2 l hl) (ho.2 l hl), h3, h4⟩
def atomsC (c : Cl) : List Am := c.h :: c.b.map (·.a)
def sameLen (ats : List Am) : Prop := ∀ a ∈ ats, ∀ b ∈ ats, a.p = b.p → a.a.length = b.a.length
theorem fitB_iff {L : Lens} {p n : Int} : fitB L p n = true ↔ ∀ k, L p = some k → k = n := by
  unfold fitB
  cases e : L p with
  | none => simp
  | some k => simp
theorem lens_fold : ∀ (ats : List Am) (x : Bool × Lens), (ats.foldl stepL x).1 = true ↔ x.1 = true ∧ (∀ a ∈ ats, ∀ k, x.2 a.p = some k → k = (a.a.length : Int)) ∧ sameLen ats
  | [], x => by simp [sameLen]
  | a :: r, x => by
    rw [List.foldl_cons, lens_fold r (stepL x a)]
    unfold stepL
    simp only [Bool.and_eq_true, fitB_iff]
    constructor
    · rintro ⟨⟨h1, h2⟩, h3, h4⟩
      have key : ∀ b ∈ r, a.p = b.p → a.a.length = b.a.length := fun b hb e => by
        cases q : x.2 a.p with
        | none =>
          have := h3 b hb a.a.length (by unfold learn; rw [if_pos ⟨e.symm, q⟩])
          omega
        | some k =>
          have g1 := h1 k q
          have := h3 b hb k (by rw [learn_old q, ← e]; exact q)
          omega
      refine ⟨h2, ?_, ?_⟩
      · intro b hb k q
        rcases List.mem_cons.1 hb with rfl | hb
        · exact h1 k q
        · by_cases e : b.p = a.p
          · have g1 := h1 k (by rw [← e]; exact q)
            have g2 := key b hb e.symm
            omega
          · exact h3 b hb k (by unfold learn; rw [if_neg (fun z => e z.1)]; exact q)
      · intro b hb d hd e
        rcases List.mem_cons.1 hb with rfl | hb <;> rcases List.mem_cons.1 hd with rfl | hd
        · rfl
        · exact key d (by assumption) e
        · exact (key b (by assumption) e.symm).symm
        · exact h4 b (by assumption) d (by assumption) e
    · rintro ⟨h1, h2, h3⟩
      refine ⟨⟨h2 a (.head _), h1⟩, fun b hb k q => ?_, fun b hb d hd => h3 b (.tail _ hb) d (.tail _ hd)⟩
      unfold learn at q
      split at q
      · rename_i e
        cases q
        have := h3 b (.tail _ hb) a (.head _) e.1
        omega
      · exact h2 b (.tail _ hb) k q
theorem clause_lens {L : Lens} {c : Cl} : (clauseL L c).1 = true ↔ (∀ a ∈ atomsC c, ∀ k, L a.p = some k → k = (a.a.length : Int)) ∧ sameLen (atomsC c) := by
  have : clauseL L c = (atomsC c).foldl stepL (true, L) := by
    unfold clauseL atomsC
    rw [List.foldl_cons, List.foldl_map]
  rw [this, lens_fold]; simp
theorem right_iff {c : Cl} : (rightC [c]).2 = 0 ↔ mayC c = true ∧ heldP c ∧ sameLen (atomsC c) := by
  have h0 : (clauseL (fun _ => none) c).1 = true ↔ sameLen (atomsC c) := by rw [clause_lens]; simp
  rw [← h0, ← heldC_iff]
  unfold rightC
  rw [if_neg (by simp)]
  unfold rightF
  by_cases e : badC (fun _ => none) c = 0
  · rw [if_pos e]
    unfold badC at e
    constructor
    · intro _
      split at e
      · cases e
      · split at e
        · cases e
        · split at e
          · cases e
          · rename_i h1 h2 h3
            exact ⟨by simpa using h1, by simpa using h2, by simpa using h3⟩
    · intro _; rfl
  · rw [if_neg e]
    constructor
    · intro h; exact absurd h e
    · rintro ⟨h1, h2, h3⟩
      exact absurd (by unfold badC; rw [h1, h2, h3]; rfl) e
theorem right_one {c : Cl} (h : (rightC [c]).2 = 0) : mayC c = true ∧ heldC c = true ∧ (clauseL (fun _ => none) c).1 = true := by
  obtain ⟨h1, h2, h3⟩ := right_iff.1 h
  exact ⟨h1, heldC_iff.2 h2, by rw [clause_lens]; exact ⟨(fun a _ k q => nomatch q), h3⟩⟩
noncomputable def headsC (c : Cl) (F R N : List Fa) (some : Bool) : List Fa := if (rightC [c]).2 = 0 then headsL c F R N some else []
theorem mem_headsC {c : Cl} (ho : c.ok) (hr : (rightC [c]).2 = 0) {F R N : List Fa} {some : Bool} {x : Fa} : x ∈ headsC c F R N some ↔ Hd c (· ∈ F) (· ∈ R) (· ∈ N) some x := by
  unfold headsC
  rw [if_pos hr, mem_headsL (right_of (right_one hr).1 (right_one hr).2.1 ho)]
theorem headsC_not {c : Cl} (hr : ¬ (rightC [c]).2 = 0) (F R N : List Fa) (some : Bool) : headsC c F R N some = [] := by unfold headsC; rw [if_neg hr]
theorem mem_headsC' {c : Cl} (ho : c.ok) {F R N : List Fa} {some : Bool} {x : Fa} : x ∈ headsC c F R N some ↔ (rightC [c]).2 = 0 ∧ Hd c (· ∈ F) (· ∈ R) (· ∈ N) some x := by
  by_cases hr : (rightC [c]).2 = 0
  · rw [mem_headsC ho hr]; simp [hr]
  · rw [headsC_not hr]; simp [hr]
theorem Hd.any {c : Cl} {F R N : Fa → Prop} {x : Fa} (h : Hd c F R N true x) (R' : Fa → Prop) : Hd c F R' N false x := by
  obtain ⟨s, h1, h2, h3, h4⟩ := h
  exact ⟨s, h1, h2, (fun e => nomatch e), h4⟩
theorem fof_self {l : List Fa} (h : rises l) : fof l = l := (fof_all h (fun _ hx => hx) (fun _ hx => hx)).symm
def notHead (l : List Cl) : Prop := ∀ c ∈ l, ∀ x ∈ c.b, x.no = true → ∀ d ∈ l, ¬ d.h.p = x.a.p
def fixP (l : List Cl) : Prop := (rightC l).2 = 0 ∧ notHead l
instance (l : List Cl) : Decidable (notHead l) := by unfold notHead; infer_instance
instance (l : List Cl) : Decidable (fixP l) := by unfold fixP; infer_instance
def fixR (l : List Cl) : Bool := decide (fixP l)
noncomputable def nws (S X : List Fa) : List Fa := fof (X.filter fun x => !decide (x ∈ S))
theorem mem_nws {S X : List Fa} {x : Fa} : x ∈ nws S X ↔ x ∈ X ∧ ¬ x ∈ S := by unfold nws; rw [mem_fof, List.mem_filter]; simp
theorem rises_nws (S X : List Fa) : rises (nws S X) := rises_fof _
theorem nws_snoc (S X : List Fa) (x : Fa) : nws S (X ++ [x]) = if x ∈ S then nws S X else fput (nws S X) x := by
  unfold nws
  rw [List.filter_append]
  by_cases e : x ∈ S
  · rw [if_pos e, List.filter_cons_of_neg (by simpa using e)]; simp
  · rw [if_neg e, List.filter_cons_of_pos (by simpa using e), List.filter_nil, fof_snoc]
theorem nws_sub {S X Y : List Fa} (h : ∀ x ∈ X, x ∈ Y) : (nws S X).length ≤ (nws S Y).length := sub_len (rises_nws _ _) fun x hx => by
  rw [mem_nws] at hx ⊢
  exact ⟨h x hx.1, hx.2⟩
theorem nws_ext {S X Y : List Fa} (h : ∀ x, ¬ x ∈ S → (x ∈ X ↔ x ∈ Y)) : nws S X = nws S Y := rises_ext (rises_nws _ _) (rises_nws _ _) fun x => by
  rw [mem_nws, mem_nws]
  exact ⟨fun ⟨a, b⟩ => ⟨(h x b).1 a, b⟩, fun ⟨a, b⟩ => ⟨(h x b).2 a, b⟩⟩
noncomputable def allH (l : List Cl) (N S : List Fa) : List Fa := l.flatMap fun c => headsC c S [] N false
noncomputable def newH (l : List Cl) (N S R : List Fa) : List Fa := l.flatMap fun c => headsC c S R N true
noncomputable def nx (l : List Cl) (N S : List Fa) : List Fa := nws S (allH l N S)
noncomputable def nextS (l : List Cl) (N S : List Fa) : List Fa := (nx l N S).foldl fput S
theorem mem_allH {l : List Cl} {N S : List Fa} {x : Fa} : x ∈ allH l N S ↔ ∃ c ∈ l, x ∈ headsC c S [] N false := by unfold allH; rw [List.mem_flatMap]
theorem mem_newH {l : List Cl} {N S R : List Fa} {x : Fa} : x ∈ newH l N S R ↔ ∃ c ∈ l, x ∈ headsC c S R N true := by unfold newH; rw [List.mem_flatMap]
theorem mem_nextS {l : List Cl} {N S : List Fa} {x : Fa} : x ∈ nextS l N S ↔ x ∈ S ∨ x ∈ allH l N S := by
  unfold nextS
  rw [foldl_mem]
  unfold nx
  rw [mem_nws]
  constructor
  · rintro (h | h)
    · exact .inl h
    · exact .inr h.1
  · rintro (h | h)
    · exact .inl h
    · by_cases e : x ∈ S
      · exact .inl e
      · exact .inr ⟨h, e⟩
theorem rises_nextS {l : List Cl} {N S : List Fa} (h : rises S) : rises (nextS l N S) := foldl_rises _ _ h
theorem semi {l : List Cl} (ho : ∀ c ∈ l, c.ok) (N S : List Fa) : nws (nextS l N S) (newH l N (nextS l N S) (nx l N S)) = nx l N (nextS l N S) := nws_ext fun x hx => by
  rw [mem_newH, mem_allH]
  constructor
  · rintro ⟨c, hc, h⟩
    rw [mem_headsC' (ho c hc)] at h
    exact ⟨c, hc, (mem_headsC' (ho c hc)).2 ⟨h.1, h.2.any _⟩⟩
  · rintro ⟨c, hc, h⟩
    rw [mem_headsC' (ho c hc)] at h
    obtain ⟨hr, s, h1, h2, _, h4⟩ := h
    refine ⟨c, hc, (mem_headsC' (ho c hc)).2 ⟨hr, s, h1, h2, fun _ => ?_, h4⟩⟩
    by_cases q : ∃ l' ∈ c.b, l'.no = false ∧ ap s l'.a ∈ nx l N S
    · exact q
    · exfalso
      refine hx (mem_nextS.2 (.inr (mem_allH.2 ⟨c, hc, (mem_headsC' (ho c hc)).2 ⟨hr, s, fun m hm e => ?_, h2, fun e => (nomatch e), h4⟩⟩)))
      have := h1 m hm e
      unfold nextS at this
      rcases (foldl_mem _ _ _).1 this with h | h
      · exact h
      · exact absurd ⟨m, hm, e, h⟩ q
noncomputable def Sq (l : List Cl) (N : List Fa) : Nat → List Fa
  | 0 => N
  | k + 1 => nextS l N (Sq l N k)
theorem rises_Sq {l : List Cl} {N : List Fa} (h : rises N) : ∀ k, rises (Sq l N k)
  | 0 => h
  | k + 1 => rises_nextS (rises_Sq h k)
theorem fput_len_new {l : List Fa} {q : Fa} (h : ¬ q ∈ l) : (fput l q).length = l.length + 1 := by rw [fput_no h]; simp; have := at_le l q; omega
theorem foldl_len_new : ∀ {X S : List Fa}, X.Nodup → (∀ x ∈ X, ¬ x ∈ S) → (X.foldl fput S).length = S.length + X.length
  | [], S, _, _ => by simp
  | x :: X, S, hn, hd => by
    rw [List.nodup_cons] at hn
    have hd' : ∀ y ∈ X, ¬ y ∈ fput S x := fun y hy q => (mem_fput.1 q).elim (fun e => hn.1 (by rw [← e]; exact hy)) (hd y (.tail _ hy))
    rw [List.foldl_cons, foldl_len_new hn.2 hd', fput_len_new (hd x (.head _)), List.length_cons]
    omega
theorem nextS_len (l : List Cl) (N S : List Fa) : (nextS l N S).length = S.length + (nx l N S).length := foldl_len_new (rises_nodup (rises_nws _ _)) fun x hx => (mem_nws.1 hx).2
theorem Sq_len (l : List Cl) (N : List Fa) (k : Nat) : (Sq l N (k + 1)).length = (Sq l N k).length + (nx l N (Sq l N k)).length := nextS_len l N _
theorem Sq_up (l : List Cl) (N : List Fa) (k : Nat) : ∀ x ∈ Sq l N k, x ∈ Sq l N (k + 1) := fun x hx => mem_nextS.2 (.inl hx)
theorem Sq_mono (l : List Cl) (N : List Fa) {j k : Nat} (h : j ≤ k) : ∀ x ∈ Sq l N j, x ∈ Sq l N k := by
  induction h with
  | refl => exact fun x hx => hx
  | step _ ih => exact fun x hx => Sq_up l N _ x (ih x hx)
inductive LeastR (l : List Cl) (N : List Fa) (most : Int) : Option (List Fa) → Nat → Int → Prop where
  | arg : (most < 0 ∨ fixR l = false) → LeastR l N most none 0 1
  | many (k : Nat) : 0 ≤ most → fixR l = true → most < ((Sq l N k).length : Int) → LeastR l N most none 0 6
  | ok (k : Nat) : 0 ≤ most → fixR l = true → ((Sq l N k).length : Int) ≤ most → (∀ j < k, ¬ nx l N (Sq l N j) = []) → nx l N (Sq l N k) = [] → LeastR l N most (some (Sq l N k)) (k + 1) 0
theorem heads_ok {c : Cl} (ho : c.ok) {F R N : List Fa} {some : Bool} (hF : ∀ x ∈ F, x.ok) {x : Fa} (h : x ∈ headsC c F R N some) : x.ok ∧ x.a.length ≤ 6 := by
  rw [mem_headsC' ho] at h
  obtain ⟨hr, s, h1, _, _, rfl⟩ := h
  obtain ⟨q1, q2, q3⟩ := right_iff.1 hr
  refine ⟨⟨ho.1.1, fun n hn => ?_⟩, ?_⟩
  · simp only [ap, List.mem_map] at hn
    obtain ⟨t, ht, rfl⟩ := hn
    unfold tv
    split
    · rename_i e
      obtain ⟨l, hl, e1, u, hu, e2, e3⟩ := mem_heldBy.1 (q2.1 t ht e)
      have := (hF _ (h1 l hl e1)).2 (s u.n) (List.mem_map.2 ⟨u, hu, by unfold tv; rw [if_pos e2]⟩)
      rwa [e3] at this
    · exact ho.1.2 t ht
  · simp only [ap, List.length_map]
    exact may_len6 (mayC_of q1).2.1
theorem Sq_ok {l : List Cl} {N : List Fa} (hl : ∀ c ∈ l, c.ok) (hN : ∀ x ∈ N, x.ok ∧ x.a.length ≤ 100000) : ∀ k, ∀ x ∈ Sq l N k, x.ok ∧ x.a.length ≤ 100000
  | 0 => hN
  | k + 1 => fun x hx => by
    rcases mem_nextS.1 hx with h | h
    · exact Sq_ok hl hN k x h
    · obtain ⟨c, hc, h⟩ := mem_allH.1 h
      have := heads_ok (hl c hc) (fun y hy => (Sq_ok hl hN k y hy).1) h
      exact ⟨this.1, by omega⟩
noncomputable def Rq (l : List Cl) (N : List Fa) : Nat → List Fa
  | 0 => []
  | k + 1 => nx l N (Sq l N k)
noncomputable def askH (l : List Cl) (N : List Fa) : Nat → Cl → List Fa
  | 0, c => headsC c (Sq l N 0) [] N false
  | k + 1, c => headsC c (Sq l N (k + 1)) (Rq l N (k + 1)) N true
theorem ask_news {l : List Cl} (ho : ∀ c ∈ l, c.ok) (N : List Fa) : ∀ k, nws (Sq l N k) (l.flatMap (askH l N k)) = nx l N (Sq l N k)
  | 0 => rfl
  | k + 1 => semi ho N (Sq l N k)
inductive RefL (l : List Cl) (N : List Fa) (most : Int) : List Fa → Int → Prop where
  | arg : (most < 0 ∨ fixR l = false) → RefL l N most [] 1
  | many (k : Nat) : 0 ≤ most → fixR l = true → most < ((Sq l N k).length : Int) → RefL l N most [] 6
  | ok (k : Nat) : 0 ≤ most → fixR l = true → ((Sq l N k).length : Int) ≤ most → nx l N (Sq l N k) = [] → RefL l N most (Sq l N k) 0
theorem nx_nil {l : List Cl} {N S : List Fa} : nx l N S = [] ↔ ∀ x ∈ allH l N S, x ∈ S := by
  constructor
  · intro h x hx
    refine Decidable.byContradiction fun q => ?_
    have : x ∈ nx l N S := mem_nws.2 ⟨hx, q⟩
    rw [h] at this; cases this
  · intro h
    refine List.eq_nil_iff_forall_not_mem.2 fun x hx => ?_
    exact (mem_nws.1 hx).2 (h x (mem_nws.1 hx).1)
namespace Md
theorem Hd.loc {c : Cl} {F F' R R' N N' : Fa → Prop} {x : Fa} (h : Hd c F R N false x) (hF : ∀ l ∈ c.b, l.no = false → ∀ y : Fa, y.p = l.a.p → F y → F' y)
    (hN : ∀ l ∈ c.b, l.no = true → ∀ y : Fa, y.p = l.a.p → N' y → N y) : Hd c F' R' N' false x := by
  obtain ⟨s, h1, h2, h3, h4⟩ := h
  exact ⟨s, fun l hl e => hF l hl e _ rfl (h1 l hl e), fun l hl e q => h2 l hl e (hN l hl e _ rfl q), (fun e => nomatch e), h4⟩
theorem Hd.p {c : Cl} {F R N : Fa → Prop} {b : Bool} {x : Fa} (h : Hd c F R N b x) : x.p = c.h.p := by
  obtain ⟨s, _, _, _, h4⟩ := h
  rw [h4]; rfl
def H (c : Cl) (F N : Fa → Prop) (x : Fa) : Prop := (rightC [c]).2 = 0 ∧ Hd c F (fun _ => False) N false x
theorem H.loc {c : Cl} {F F' N N' : Fa → Prop} {x : Fa} (h : H c F N x) (hF : ∀ l ∈ c.b, l.no = false → ∀ y : Fa, y.p = l.a.p → F y → F' y)
    (hN : ∀ l ∈ c.b, l.no = true → ∀ y : Fa, y.p = l.a.p → N' y → N y) : H c F' N' x := ⟨h.1, Hd.loc h.2 hF hN⟩
theorem H.p {c : Cl} {F N : Fa → Prop} {x : Fa} (h : H c F N x) : x.p = c.h.p := Hd.p h.2
theorem mem_H {c : Cl} (ho : c.ok) {F N : List Fa} {x : Fa} : x ∈ headsC c F [] N false ↔ H c (· ∈ F) (· ∈ N) x := by
  rw [mem_headsC' ho]
  exact ⟨fun h => ⟨h.1, Hd.loc h.2 (fun _ _ _ _ _ q => q) (fun _ _ _ _ _ q => q)⟩, fun h => ⟨h.1, Hd.loc h.2 (fun _ _ _ _ _ q => q) (fun _ _ _ _ _ q => q)⟩⟩
def Levels (l : List Cl) (lv : Int → Nat) : Prop := ∀ c ∈ l, ∀ x ∈ c.b, lv x.a.p + x.no.toNat ≤ lv c.h.p
theorem Levels.yes {l : List Cl} {lv : Int → Nat} (h : Levels l lv) {c : Cl} (hc : c ∈ l) {x : Li} (hx : x ∈ c.b) : lv x.a.p ≤ lv c.h.p := by
  have := h c hc x hx; omega
theorem Levels.no {l : List Cl} {lv : Int → Nat} (h : Levels l lv) {c : Cl} (hc : c ∈ l) {x : Li} (hx : x ∈ c.b) (e : x.no = true) : lv x.a.p < lv c.h.p := by
  have := h c hc x hx; rw [e] at this; have : (true : Bool).toNat = 1 := rfl; omega
structure Stable (l : List Cl) (B M : Fa → Prop) : Prop where
  base : ∀ x, B x → M x
  closed : ∀ c ∈ l, ∀ x, H c M M x → M x
  least : ∀ S : Fa → Prop, (∀ x, B x → S x) → (∀ c ∈ l, ∀ x, H c S M x → S x) → ∀ x, M x → S x
theorem Stable.half {l : List Cl} {B M M' : Fa → Prop} {lv : Int → Nat} (hl : Levels l lv) (h : Stable l B M) (h' : Stable l B M') {k : Nat} (ih : ∀ y : Fa, lv y.p < k → M' y → M y) :
    ∀ x : Fa, lv x.p < k + 1 → M x → M' x := by
  intro x hx hm
  have := h.least (fun y => M y ∧ (lv y.p < k + 1 → M' y)) (fun y hy => ⟨h.base y hy, fun _ => h'.base y hy⟩) (fun c hc y hy => ?_) x hm
  · exact this.2 hx
  · refine ⟨h.closed c hc y (hy.loc (fun _ _ _ _ _ q => q.1) (fun _ _ _ _ _ q => q)), fun hk => ?_⟩
    have hp := hy.p
    rw [hp] at hk
    exact h'.closed c hc y (hy.loc (fun a ha _ z hz q => q.2 (by rw [hz]; have := hl.yes hc ha; omega)) (fun a ha e z hz q => ih z (by rw [hz]; have := hl.no hc ha e; omega) q))
theorem Stable.same {l : List Cl} {B M M' : Fa → Prop} {lv : Int → Nat} (hl : Levels l lv) (h : Stable l B M) (h' : Stable l B M') (x : Fa) : M x ↔ M' x := by
  have key : ∀ k, ∀ y : Fa, lv y.p < k → (M y ↔ M' y) := by
    intro k
    induction k with
    | zero => intro y hy; omega
    | succ k ih =>
      intro y hy
      exact ⟨h.half hl h' (fun z hz => (ih z hz).2) y hy, h'.half hl h (fun z hz => (ih z hz).1) y hy⟩
  exact key _ x (Nat.lt_succ_self _)
def Run (st : List (List Cl)) (A : Nat → List Fa) : Prop := ∀ k (hk : k < st.length), ∃ j, A (k + 1) = Sq st[k] (A k) j ∧ nx st[k] (A k) (A (k + 1)) = []
def Split (l : List Cl) (lv : Int → Nat) (st : List (List Cl)) : Prop := ∀ k (hk : k < st.length) c, c ∈ st[k] ↔ c ∈ l ∧ lv c.h.p = k
theorem sq_new {l : List Cl} (ho : ∀ c ∈ l, c.ok) (N : List Fa) : ∀ j, ∀ x ∈ Sq l N j, x ∈ N ∨ ∃ c ∈ l, H c (· ∈ Sq l N (j - 1)) (· ∈ N) x
  | 0, x, hx => .inl hx
  | j + 1, x, hx => by
    rcases mem_nextS.1 hx with h | h
    · rcases sq_new ho N j x h with h | ⟨c, hc, h⟩
      · exact .inl h
      · exact .inr ⟨c, hc, h.loc (fun _ _ _ y _ q => Sq_mono l N (by omega) y q) (fun _ _ _ _ _ q => q)⟩
    · obtain ⟨c, hc, h⟩ := mem_allH.1 h
      exact .inr ⟨c, hc, (mem_H (ho c hc)).1 h⟩
section
variable {l : List Cl} {lv : Int → Nat} {st : List (List Cl)} {A : Nat → List Fa}
theorem Split.ok (ho : ∀ c ∈ l, c.ok) (hs : Split l lv st) {k : Nat} (hk : k < st.length) : ∀ c ∈ st[k], c.ok := fun c hc => ho c ((hs k hk c).1 hc).1
theorem Run.up (hr : Run st A) {k : Nat} (hk : k < st.length) : ∀ x ∈ A k, x ∈ A (k + 1) := fun x hx => by
  obtain ⟨j, h, _⟩ := hr k hk
  rw [h]; exact Sq_mono st[k] (A k) (Nat.zero_le j) x hx
theorem Run.sub (hr : Run st A) {k m : Nat} (h : k ≤ m) (hm : m ≤ st.length) : ∀ x ∈ A k, x ∈ A m := by
  induction h with
  | refl => exact fun x hx => hx
  | step h ih => exact fun x hx => hr.up (by omega) x (ih (by omega) x hx)
theorem Run.new (ho : ∀ c ∈ l, c.ok) (hs : Split l lv st) (hr : Run st A) {k m : Nat} (h : k ≤ m) (hm : m ≤ st.length) : ∀ x ∈ A m, ¬ x ∈ A k → k ≤ lv x.p := by
  induction h with
  | refl => exact fun x hx hn => absurd hx hn
  | @step m h ih =>
    intro x hx hn
    by_cases q : x ∈ A m
    · exact ih (by omega) x q hn
    · obtain ⟨j, e, _⟩ := hr m (by omega)
      have hx' : x ∈ A (m + 1) := hx
      rw [e] at hx'
      rcases sq_new (Split.ok ho hs (by omega)) (A m) j x hx' with q' | ⟨c, hc, q'⟩
      · exact absurd q' q
      · have := ((hs m (by omega) c).1 hc).2
        rw [q'.p, this]; exact h
theorem Run.stable (ho : ∀ c ∈ l, c.ok) (hl : Levels l lv) (hs : Split l lv st) (hall : ∀ c ∈ l, lv c.h.p < st.length) (hr : Run st A) : Stable l (· ∈ A 0) (· ∈ A st.length) := by
  constructor
  · exact hr.sub (Nat.zero_le _) (Nat.le_refl _)
  · intro c hc x hx
    have hk := hall c hc
    obtain ⟨j, e, hn⟩ := hr _ hk
    have hcs := (hs _ hk c).2 ⟨hc, rfl⟩
    have h1 : H c (· ∈ A (lv c.h.p + 1)) (· ∈ A (lv c.h.p)) x := hx.loc
      (fun a ha _ y hy q => by
        refine Classical.byContradiction fun w => ?_
        have := hr.new ho hs (by omega) (Nat.le_refl _) y q w
        rw [hy] at this; have := hl.yes hc ha; omega)
      (fun a ha _ y _ q => hr.sub (by omega) (Nat.le_refl _) y q)
    have h2 := nx_nil.1 hn x (mem_allH.2 ⟨c, hcs, (mem_H (ho c hc)).2 h1⟩)
    exact hr.sub (by omega) (Nat.le_refl _) x h2
  · intro S hb hc
    have key : ∀ k, k ≤ st.length → ∀ x ∈ A k, S x := by
      intro k
      induction k with
      | zero => exact fun _ x hx => hb x hx
      | succ k ih =>
        intro hk
        obtain ⟨j, e, _⟩ := hr k (by omega)
        rw [e]
        have : ∀ i, ∀ x ∈ Sq st[k] (A k) i, S x := by
          intro i
          induction i with
          | zero => exact ih (by omega)
          | succ i jh =>
            intro x hx
            rcases mem_nextS.1 hx with h | h
            · exact jh x h
            · obtain ⟨c, hcs, h⟩ := mem_allH.1 h
              obtain ⟨hcl, hlv⟩ := (hs k (by omega) c).1 hcs
              exact hc c hcl x (((mem_H (ho c hcl)).1 h).loc (fun _ _ _ y _ q => jh y q) (fun a ha e y hy q => by
                refine Classical.byContradiction fun w => ?_
                have := hr.new ho hs (by omega) (Nat.le_refl _) y q w
                rw [hy] at this; have := hl.no hcl ha e; omega))
        exact this j
    exact key _ (Nat.le_refl _)
end
theorem Stable.perm {l l' : List Cl} {B B' M : Fa → Prop} (h : Stable l B M) (hl : ∀ c, c ∈ l' ↔ c ∈ l) (hb : ∀ x, B' x ↔ B x) : Stable l' B' M :=
  ⟨fun x hx => h.base x ((hb x).1 hx), fun c hc => h.closed c ((hl c).1 hc), fun S h1 h2 => h.least S (fun x hx => h1 x ((hb x).2 hx)) fun c hc => h2 c ((hl c).2 hc)⟩
end Md
namespace Md
inductive Stg (l : List Cl) (N : List Fa) (most : Int) : Option (List Fa) → Int → Prop where
  | arg : (most < 0 ∨ fixR l = false) → Stg l N most none 1
  | many (k : Nat) : 0 ≤ most → fixR l = true → most < ((Sq l N k).length : Int) → Stg l N most none 6
  | ok (k : Nat) : 0 ≤ most → fixR l = true → ((Sq l N k).length : Int) ≤ most → nx l N (Sq l N k) = [] → Stg l N most (some (Sq l N k)) 0
theorem stg_least {l : List Cl} {N : List Fa} {most : Int} {r : Option (List Fa)} {n : Nat} {e : Int} (h : LeastR l N most r n e) : Stg l N most r e := by
  cases h with
  | arg h1 => exact .arg h1
  | many k h1 h2 h3 => exact .many k h1 h2 h3
  | ok k h1 h2 h3 h4 h5 => exact .ok k h1 h2 h3 h5
inductive Upto (st : List (List Cl)) (most : Int) (N : List Fa) : Nat → List Fa → Prop where
  | zero : Upto st most N 0 N
  | succ {k : Nat} {A B : List Fa} (h : Upto st most N k A) (hk : k < st.length) (hL : Stg st[k] A most (some B) 0) : Upto st most N (k + 1) B
inductive ModelR (st : List (List Cl)) (most : Int) (N : List Fa) : Option (List Fa) → Int → Prop where
  | big : most < (N.length : Int) → ModelR st most N none 6
  | ok {M : List Fa} : (N.length : Int) ≤ most → Upto st most N st.length M → ModelR st most N (some M) 0
  | bad {k : Nat} {A : List Fa} {e : Int} (h0 : (N.length : Int) ≤ most) (h : Upto st most N k A) (hk : k < st.length) (hL : Stg st[k] A most none e) : ModelR st most N none e
theorem Stg.some_ok {l : List Cl} {N B : List Fa} {most : Int} {e : Int} (h : Stg l N most (some B) e) : ∃ k, B = Sq l N k ∧ nx l N B = [] ∧ (B.length : Int) ≤ most := by
  generalize hr : some B = r at h
  cases h with
  | arg h1 => cases hr
  | many k h1 h2 h3 => cases hr
  | ok k h1 h2 h3 h5 => cases hr; exact ⟨k, rfl, h5, h3⟩
theorem Upto.len {st : List (List Cl)} {most : Int} {N A : List Fa} {k : Nat} (h : Upto st most N k A) (h0 : (N.length : Int) ≤ most) : (A.length : Int) ≤ most := by
  cases h with
  | zero => exact h0
  | succ h hk hL => obtain ⟨_, _, _, h⟩ := hL.some_ok; exact h
theorem Upto.rises {st : List (List Cl)} {most : Int} {N A : List Fa} {k : Nat} (h : Upto st most N k A) (h0 : rises N) : rises A := by
  induction h with
  | zero => exact h0
  | succ h hk hL ih => obtain ⟨j, e, _, _⟩ := hL.some_ok; rw [e]; exact rises_Sq ih j
theorem Upto.fn {st : List (List Cl)} {most : Int} {N A : List Fa} {k : Nat} (h : Upto st most N k A) : ∃ f : Nat → List Fa, f 0 = N ∧ f k = A ∧ ∀ m (hm : m < st.length), m < k → ∃ j, f (m + 1) = Sq st[m] (f m) j ∧ nx st[m] (f m) (f (m + 1)) = [] := by
  induction h with
  | zero => exact ⟨fun _ => N, rfl, rfl, fun m _ h => absurd h (Nat.not_lt_zero _)⟩
  | @succ k A B h hk hL ih =>
    obtain ⟨f, f0, fk, hf⟩ := ih
    obtain ⟨j, e, hn, _⟩ := hL.some_ok
    refine ⟨fun m => if m ≤ k then f m else B, by simp [f0], if_neg (by omega), fun m hm hmk => ?_⟩
    by_cases q : m < k
    · have q1 : m ≤ k := by omega
      have q2 : m + 1 ≤ k := by omega
      simp only [q1, q2, if_true]
      exact hf m hm q
    · have : m = k := by omega
      subst this
      have q2 : ¬ m + 1 ≤ m := by omega
      simp only [q2, if_false, Nat.le_refl, if_true, fk]
      exact ⟨j, e, hn⟩
section
variable {l : List Cl} {lv : Int → Nat} {st : List (List Cl)} {most : Int} {N : List Fa}
theorem Upto.stable (ho : ∀ c ∈ l, c.ok) (hl : Levels l lv) (hs : Split l lv st) (hall : ∀ c ∈ l, lv c.h.p < st.length) {M : List Fa} (h : Upto st most N st.length M) : Stable l (· ∈ N) (· ∈ M) := by
  obtain ⟨f, f0, fk, hf⟩ := h.fn
  have := Run.stable ho hl hs hall (A := f) fun k hk => hf k hk hk
  rw [f0, fk] at this
  exact this
theorem part_sq (ho : ∀ c ∈ l, c.ok) (hl : Levels l lv) (hs : Split l lv st) {M : Fa → Prop} (hM : Stable l (· ∈ N) M) {k : Nat} (hk : k < st.length) {A : List Fa} (h1 : ∀ x ∈ A, M x) (h2 : ∀ y : Fa, M y → lv y.p < k → y ∈ A) :
    ∀ i, ∀ x ∈ Sq st[k] A i, M x
  | 0 => h1
  | i + 1 => fun x hx => by
    rcases mem_nextS.1 hx with h | h
    · exact part_sq ho hl hs hM hk h1 h2 i x h
    · obtain ⟨c, hc, h⟩ := mem_allH.1 h
      obtain ⟨hcl, hlv⟩ := (hs k hk c).1 hc
      exact hM.closed c hcl x (((mem_H (ho c hcl)).1 h).loc (fun _ _ _ y _ q => part_sq ho hl hs hM hk h1 h2 i y q) (fun a ha e y hy q => h2 y q (by rw [hy]; have := hl.no hcl ha e; omega)))
theorem Upto.part (ho : ∀ c ∈ l, c.ok) (hl : Levels l lv) (hs : Split l lv st) {M : Fa → Prop} (hM : Stable l (· ∈ N) M) {k : Nat} {A : List Fa} (h : Upto st most N k A) :
    (∀ x ∈ N, x ∈ A) ∧ (∀ x ∈ A, M x) ∧ ∀ y : Fa, M y → lv y.p < k → y ∈ A := by
  induction h with
  | zero => exact ⟨fun _ q => q, hM.base, fun y _ q => absurd q (Nat.not_lt_zero _)⟩
  | @succ k A B h hk hL ih =>
    obtain ⟨i0, i1, i2⟩ := ih
    obtain ⟨j, e, hn, _⟩ := hL.some_ok
    have up : ∀ x ∈ A, x ∈ B := by rw [e]; exact Sq_mono st[k] A (Nat.zero_le j)
    refine ⟨fun x hx => up x (i0 x hx), by rw [e]; exact part_sq ho hl hs hM hk i1 i2 j, fun y hy hlt => ?_⟩
    have := hM.least (fun y => M y ∧ (lv y.p < k + 1 → y ∈ B)) (fun z hz => ⟨hM.base z hz, fun _ => up z (i0 z hz)⟩) (fun c hc z hz => ?_) y hy
    · exact this.2 hlt
    · have hMz := hM.closed c hc z (hz.loc (fun _ _ _ _ _ q => q.1) (fun _ _ _ _ _ q => q))
      refine ⟨hMz, fun hzl => ?_⟩
      by_cases q : lv z.p < k
      · exact up z (i2 z hMz q)
      · have hp := hz.p
        have hck : lv c.h.p = k := by rw [← hp]; omega
        have hcs := (hs k hk c).2 ⟨hc, hck⟩
        refine nx_nil.1 hn z (mem_allH.2 ⟨c, hcs, (mem_H (ho c hc)).2 (hz.loc (fun a ha _ w hw q => q.2 (by rw [hw]; have := hl.yes hc ha; omega)) (fun a ha _ w _ q => i1 w q))⟩)
def Perfect (l : List Cl) (B : Fa → Prop) (most : Int) (r : Option (List Fa)) (e : Int) : Prop :=
  (e = 0 ∧ ∃ M, r = some M ∧ rises M ∧ (M.length : Int) ≤ most ∧ Stable l B (· ∈ M)) ∨ (e = 6 ∧ r = none ∧ ∀ M : List Fa, rises M → Stable l B (· ∈ M) → most < (M.length : Int))
theorem ModelR.perfect (ho : ∀ c ∈ l, c.ok) (hl : Levels l lv) (hs : Split l lv st) (hall : ∀ c ∈ l, lv c.h.p < st.length) (hfix : ∀ k (hk : k < st.length), fixR st[k] = true) (h0 : 0 ≤ most) (hN : rises N)
    {r : Option (List Fa)} {e : Int} (h : ModelR st most N r e) : Perfect l (· ∈ N) most r e := by
  cases h with
  | big h1 => exact .inr ⟨rfl, rfl, fun M hM hS => by have := sub_len hN (fun x hx => hS.base x hx); omega⟩
  | ok h1 h2 => exact .inl ⟨rfl, _, rfl, h2.rises hN, h2.len h1, h2.stable ho hl hs hall⟩
  | @bad k A e h1 h2 hk hL =>
    generalize hr : (none : Option (List Fa)) = r at hL
    cases hL with
    | arg q => rw [hfix k hk] at q; simp at q; omega
    | ok j q1 q2 q3 q4 => cases hr
    | many j q1 q2 q3 =>
      refine .inr ⟨rfl, rfl, fun M hM hS => ?_⟩
      obtain ⟨_, p1, p2⟩ := h2.part ho hl hs hS
      have := sub_len (rises_Sq (l := st[k]) (h2.rises hN) j) (part_sq ho hl hs hS hk p1 p2 j)
      omega
end
theorem Perfect.same {l l' : List Cl} {B B' : Fa → Prop} {most : Int} {r r' : Option (List Fa)} {e e' : Int} (h : Perfect l B most r e) (h' : Perfect l' B' most r' e')
    {lv : Int → Nat} (hl : Levels l lv) (hi : ∀ M : Fa → Prop, Stable l B M ↔ Stable l' B' M) : r = r' ∧ e = e' := by
  rcases h with ⟨h1, M, h2, h3, h4, h5⟩ | ⟨h1, h2, h3⟩ <;> rcases h' with ⟨g1, M', g2, g3, g4, g5⟩ | ⟨g1, g2, g3⟩
  · have : M = M' := rises_ext h3 g3 fun x => h5.same hl ((hi _).2 g5) x
    rw [h2, g2, this, h1, g1]; exact ⟨rfl, rfl⟩
  · have := g3 M h3 ((hi _).1 h5); omega
  · have := h3 M' g3 ((hi _).2 g5); omega
  · rw [h2, g2, h1, g1]; exact ⟨rfl, rfl⟩
end Md
namespace Md
def far : Int := 2147483648
end Md
structure Ly where
  l : Li
  A : Option Addr
  c : Nat
section
variable {C : Ctx} {k : List It} {E : Env} {Ps : List PA} {Os : List OA}
end
def atomsL (l : List Cl) : List Am := l.flatMap atomsC
theorem atomsL_next {l : List Cl} {k : Nat} (hk : k < l.length) : atomsL (l.take (k + 1)) = atomsL (l.take k) ++ atomsC l[k] := by
  unfold atomsL
  rw [List.take_succ_eq_append_getElem hk, List.flatMap_append]; simp
def LensOf (L : Lens) (X : List Am) : Prop := (∀ p n, L p = some n → ∃ a ∈ X, a.p = p ∧ n = (a.a.length : Int)) ∧ ∀ a ∈ X, ∃ n, L a.p = some n
theorem LensOf.nil : LensOf (fun _ => none) [] := ⟨fun _ _ h => (nomatch h), fun _ h => nomatch h⟩
theorem LensOf.step {L : Lens} {X : List Am} (h : LensOf L X) (a : Am) : LensOf (learn L a.p a.a.length) (X ++ [a]) := by
  refine ⟨fun p n e => ?_, fun b hb => ?_⟩
  · unfold learn at e
    split at e
    · rename_i q
      cases e
      exact ⟨a, List.mem_append_right _ (.head _), q.1.symm, rfl⟩
    · obtain ⟨b, hb, g⟩ := h.1 p n e
      exact ⟨b, List.mem_append_left _ hb, g⟩
  · unfold learn
    split
    · exact ⟨_, rfl⟩
    · rename_i q
      rcases List.mem_append.1 hb with hb | hb
      · exact h.2 b hb
      · rw [List.mem_singleton] at hb
        subst hb
        cases e : L b.p with
        | none => exact absurd ⟨rfl, e⟩ q
        | some n => exact ⟨n, rfl⟩
theorem LensOf.fold : ∀ (Y : List Am) {x : Bool × Lens} {X : List Am}, LensOf x.2 X → LensOf (Y.foldl stepL x).2 (X ++ Y)
  | [], x, X, h => by simpa using h
  | a :: Y, x, X, h => by
    rw [List.foldl_cons, show X ++ a :: Y = (X ++ [a]) ++ Y by simp]
    exact LensOf.fold Y (x := stepL x a) (h.step a)
theorem LensOf.clause {L : Lens} {X : List Am} (h : LensOf L X) (c : Cl) : LensOf (clauseL L c).2 (X ++ atomsC c) := by
  have : clauseL L c = (atomsC c).foldl stepL (true, L) := by
    unfold clauseL atomsC
    rw [List.foldl_cons, List.foldl_map]
  rw [this]
  exact LensOf.fold (atomsC c) (x := (true, L)) h
theorem lens_all {L : Lens} {X : List Am} (h : LensOf L X) (hx : sameLen X) (c : Cl) : (clauseL L c).1 = true ↔ sameLen (X ++ atomsC c) := by
  rw [clause_lens]
  constructor
  · rintro ⟨h1, h2⟩ a ha b hb e
    have key : ∀ x ∈ X, ∀ y ∈ atomsC c, x.p = y.p → x.a.length = y.a.length := fun x hx' y hy q => by
      obtain ⟨n, hn⟩ := h.2 x hx'
      obtain ⟨z, hz, g1, g2⟩ := h.1 _ _ hn
      have g3 := h1 y hy n (by rw [← q]; exact hn)
      have g4 := hx x hx' z hz g1.symm
      omega
    rcases List.mem_append.1 ha with ha | ha <;> rcases List.mem_append.1 hb with hb | hb
    · exact hx a ha b hb e
    · exact key a ha b hb e
    · exact (key b hb a ha e.symm).symm
    · exact h2 a ha b hb e
  · intro g
    refine ⟨fun a ha k q => ?_, fun a ha b hb e => g a (List.mem_append_right _ ha) b (List.mem_append_right _ hb) e⟩
    obtain ⟨b, hb, g1, g2⟩ := h.1 _ _ q
    have := g a (List.mem_append_right _ ha) b (List.mem_append_left _ hb) g1.symm
    omega
theorem fold_next {l : List Cl} {k : Nat} (hk : k < l.length) : (l.take (k + 1)).foldl (fun L c => (clauseL L c).2) (fun _ => none) = (clauseL ((l.take k).foldl (fun L c => (clauseL L c).2) (fun _ => none)) l[k]).2 := by
  rw [List.take_succ_eq_append_getElem hk, List.foldl_append]; rfl
namespace Md
theorem atomsL_cons (c : Cl) (l : List Cl) : atomsL (c :: l) = atomsC c ++ atomsL l := by unfold atomsL; simp
theorem mem_atomsL {l : List Cl} {a : Am} : a ∈ atomsL l ↔ ∃ c ∈ l, a ∈ atomsC c := by unfold atomsL; simp
theorem sameLen_sub {X Y : List Am} (h : sameLen X) (hs : ∀ a ∈ Y, a ∈ X) : sameLen Y := fun a ha b hb e => h a (hs a ha) b (hs b hb) e
theorem bad_iff {L : Lens} {X : List Am} (h : LensOf L X) (hx : sameLen X) (c : Cl) : badC L c = 0 ↔ (mayC c = true ∧ heldC c = true) ∧ sameLen (X ++ atomsC c) := by
  rw [← lens_all h hx]
  unfold badC
  cases mayC c <;> cases heldC c <;> cases (clauseL L c).1 <;> simp
theorem rightF_iff : ∀ (l : List Cl) {L : Lens} {X : List Am} (i : Nat), LensOf L X → sameLen X → ((rightF L l i).2 = 0 ↔ (∀ c ∈ l, mayC c = true ∧ heldC c = true) ∧ sameLen (X ++ atomsL l))
  | [], L, X, i, h, hx => by
    have e : atomsL [] = [] := rfl
    rw [e, List.append_nil]
    exact ⟨fun _ => ⟨(fun c hc => nomatch hc), hx⟩, fun _ => rfl⟩
  | c :: l, L, X, i, h, hx => by
    unfold rightF
    by_cases q : badC L c = 0
    · rw [if_pos q]
      have q' := (bad_iff h hx c).1 q
      rw [rightF_iff l (i + 1) (h.clause c) q'.2, atomsL_cons, List.append_assoc]
      refine and_congr ⟨fun g d hd => ?_, fun g d hd => g d (List.mem_cons_of_mem _ hd)⟩ Iff.rfl
      rcases List.mem_cons.1 hd with e | e
      · rw [e]; exact q'.1
      · exact g d e
    · rw [if_neg q]
      refine ⟨fun g => absurd g q, fun g => absurd ((bad_iff h hx c).2 ⟨g.1 c (List.mem_cons_self ..), ?_⟩) q⟩
      rw [atomsL_cons, ← List.append_assoc] at g
      exact sameLen_sub g.2 fun a ha => List.mem_append_left _ ha
theorem rightC_iff {l : List Cl} : (rightC l).2 = 0 ↔ l.length ≤ 400 ∧ (∀ c ∈ l, mayC c = true ∧ heldC c = true) ∧ sameLen (atomsL l) := by
  unfold rightC
  by_cases q : 400 < l.length
  · rw [if_pos q]
    exact ⟨fun g => absurd g (by decide), fun g => by omega⟩
  · rw [if_neg q, rightF_iff l 0 LensOf.nil (fun a ha => nomatch ha), List.nil_append]
    exact ⟨fun g => ⟨by omega, g⟩, fun g => g.2⟩
theorem right_sub {l l' : List Cl} (h : (rightC l).2 = 0) (hs : ∀ c ∈ l', c ∈ l) (hn : l'.length ≤ 400) : (rightC l').2 = 0 := by
  rw [rightC_iff] at h ⊢
  refine ⟨hn, fun c hc => h.2.1 c (hs c hc), sameLen_sub h.2.2 fun a ha => ?_⟩
  obtain ⟨c, hc, q⟩ := mem_atomsL.1 ha
  exact mem_atomsL.2 ⟨c, hs c hc, q⟩
theorem level_fix {l m : List Cl} {lv : Int → Nat} (h : (rightC l).2 = 0) (hl : Levels l lv) {k : Nat} (hm : ∀ c, c ∈ m ↔ c ∈ l ∧ lv c.h.p = k) (hn : m.length ≤ 400) : fixR m = true := by
  unfold fixR
  refine decide_eq_true ⟨right_sub h (fun c hc => ((hm c).1 hc).1) hn, fun c hc x hx e d hd q => ?_⟩
  obtain ⟨c1, c2⟩ := (hm c).1 hc
  obtain ⟨d1, d2⟩ := (hm d).1 hd
  have := hl.no c1 hx e
  rw [← q] at this; omega
theorem levels_sub {l l' : List Cl} {lv : Int → Nat} (h : Levels l lv) (hs : ∀ c ∈ l', c ∈ l ∨ c.b = []) : Levels l' lv := fun c hc x hx => by
  rcases hs c hc with q | q
  · exact h c q x hx
  · rw [q] at hx; exact absurd hx List.not_mem_nil
end Md
namespace Md
def strI (hs : List Nat) (k : Nat) : List Nat := (List.range hs.length).filter fun i => hs[i]? == some k
def top (hs : List Nat) : Nat := hs.foldl (fun m h => max m (h + 1)) 0
theorem top_snoc (hs : List Nat) (h : Nat) : top (hs ++ [h]) = max (top hs) (h + 1) := by unfold top; rw [List.foldl_append]; rfl
theorem strI_snoc (hs : List Nat) (h k : Nat) : strI (hs ++ [h]) k = strI hs k ++ (if h = k then [hs.length] else []) := by
  unfold strI
  rw [List.length_append, List.length_singleton, List.range_succ, List.filter_append]
  congr 1
  · refine List.filter_congr fun i hi => ?_
    rw [List.getElem?_append_left (List.mem_range.1 hi)]
  · have e : (hs ++ [h])[hs.length]? = some h := by simp
    rw [List.filter_cons, e]
    by_cases q : h = k
    · subst q; simp
    · simp [q]
theorem mem_strI {hs : List Nat} {k i : Nat} : i ∈ strI hs k ↔ hs[i]? = some k := by
  unfold strI
  rw [List.mem_filter, List.mem_range]
  constructor
  · intro h; simpa using h.2
  · intro h
    refine ⟨?_, by simp [h]⟩
    obtain ⟨q, _⟩ := List.getElem?_eq_some_iff.1 h
    exact q
theorem lt_top {hs : List Nat} {h : Nat} (hm : h ∈ hs) : h < top hs := by
  have key : ∀ (l : List Nat) (m : Nat), m ≤ l.foldl (fun m h => max m (h + 1)) m ∧ ∀ x ∈ l, x < l.foldl (fun m h => max m (h + 1)) m := by
    intro l
    induction l with
    | nil => intro m; exact ⟨Nat.le_refl _, fun x hx => nomatch hx⟩
    | cons a l ih =>
      intro m
      obtain ⟨i1, i2⟩ := ih (max m (a + 1))
      refine ⟨by rw [List.foldl_cons]; omega, fun x hx => ?_⟩
      rw [List.foldl_cons]
      rcases List.mem_cons.1 hx with e | e
      · subst e; omega
      · exact i2 x e
  exact (key hs 0).2 h hm
def strata (hs : List Nat) : List (List Nat) := (List.range (top hs)).map (strI hs)
def clausesAt (l : List Cl) (is : List Nat) : List Cl := is.filterMap fun i => l[i]?
theorem strata_split (l : List Cl) (lv : Int → Nat) : Split l lv ((strata (l.map fun c => lv c.h.p)).map (clausesAt l)) := by
  intro k hk c
  have hk' : k < top (l.map fun c => lv c.h.p) := by simpa [strata] using hk
  have e : ((strata (l.map fun c => lv c.h.p)).map (clausesAt l))[k] = clausesAt l (strI (l.map fun c => lv c.h.p) k) := by simp [strata]
  rw [e]
  unfold clausesAt
  rw [List.mem_filterMap]
  constructor
  · rintro ⟨i, hi, h⟩
    have := mem_strI.1 hi
    rw [List.getElem?_map, h] at this
    exact ⟨List.mem_of_getElem? h, by simpa using this⟩
  · rintro ⟨h1, h2⟩
    obtain ⟨i, hi⟩ := List.getElem?_of_mem h1
    exact ⟨i, mem_strI.2 (by rw [List.getElem?_map, hi]; simp [h2]), hi⟩
theorem strata_all (l : List Cl) (lv : Int → Nat) : ∀ c ∈ l, lv c.h.p < ((strata (l.map fun c => lv c.h.p)).map (clausesAt l)).length := by
  intro c hc
  rw [List.length_map]
  unfold strata
  rw [List.length_map, List.length_range]
  exact lt_top (List.mem_map.2 ⟨c, hc, rfl⟩)
end Md
end Go.Proofs.YtdconhalfanclaaGreat.SL
namespace Go.Proofs.YtdconhalfanclaaGreat.SL
open Md
def lastTo (all : List Int) (p : Int) : Nat → Option Nat
  | 0 => none
  | k + 1 => if all[k]? = some p then some k else lastTo all p k
theorem lastTo_at {all : List Int} {p : Int} : ∀ {k i : Nat}, lastTo all p k = some i → all[i]? = some p ∧ i < k
  | 0, i, h => by cases h
  | k + 1, i, h => by
    unfold lastTo at h
    split at h
    · rename_i e; cases h; exact ⟨e, by omega⟩
    · have := lastTo_at h; exact ⟨this.1, by omega⟩
theorem lastTo_some {all : List Int} {p : Int} : ∀ {k i : Nat}, i < k → all[i]? = some p → ∃ j, lastTo all p k = some j
  | 0, i, h, _ => absurd h (Nat.not_lt_zero _)
  | k + 1, i, h, e => by
    unfold lastTo
    by_cases h1 : all[k]? = some p
    · exact ⟨k, by rw [if_pos h1]⟩
    · rw [if_neg h1]
      by_cases h2 : i = k
      · subst h2; exact absurd e h1
      · exact lastTo_some (by omega) e
def ix (all : List Int) (p : Int) : Nat := (lastTo all p all.length).getD 0
theorem ix_at {all : List Int} {p : Int} (h : p ∈ all) : all[ix all p]? = some p := by
  obtain ⟨i, hi, e⟩ := List.getElem_of_mem h
  obtain ⟨j, hj⟩ := lastTo_some (all := all) (p := p) (k := all.length) hi (by rw [List.getElem?_eq_getElem hi, e])
  unfold ix; rw [hj]; exact (lastTo_at hj).1
theorem ix_lt {all : List Int} {p : Int} (h : p ∈ all) : ix all p < all.length := (List.getElem?_eq_some_iff.1 (ix_at h)).1
def edX (all : List Int) (c : Cl) : List (Nat × Nat × Bool) := c.b.map fun x => (ix all c.h.p, ix all x.a.p, x.no)
def edL (all : List Int) (l : List Cl) : List (Nat × Nat × Bool) := l.flatMap (edX all)
theorem mem_edL {all : List Int} {l : List Cl} {e : Nat × Nat × Bool} : e ∈ edL all l ↔ ∃ c ∈ l, ∃ x ∈ c.b, (ix all c.h.p, ix all x.a.p, x.no) = e := by
  simp [edL, edX]
def Preds (all : List Int) (l : List Cl) : Prop := ∀ p, p ∈ all ↔ ∃ a ∈ atomsL l, a.p = p
theorem Preds.head {all : List Int} {l : List Cl} (h : Preds all l) {c : Cl} (hc : c ∈ l) : c.h.p ∈ all := (h _).2 ⟨c.h, mem_atomsL.2 ⟨c, hc, .head _⟩, rfl⟩
theorem Preds.body {all : List Int} {l : List Cl} (h : Preds all l) {c : Cl} (hc : c ∈ l) {x : Li} (hx : x ∈ c.b) : x.a.p ∈ all := (h _).2 ⟨x.a, mem_atomsL.2 ⟨c, hc, .tail _ (List.mem_map.2 ⟨x, hx, rfl⟩)⟩, rfl⟩
theorem sol_lev {all : List Int} {l : List Cl} {L : Nat → Nat} : Lv.Sol (edL all l) L ↔ Levels l (fun p => L (ix all p)) := by
  constructor
  · intro h c hc x hx; exact h _ (mem_edL.2 ⟨c, hc, x, hx, rfl⟩)
  · intro h e he
    obtain ⟨c, hc, x, hx, rfl⟩ := mem_edL.1 he
    exact h c hc x hx
theorem lev_sol {all : List Int} {l : List Cl} {lv : Int → Nat} (h : Levels l lv) (hp : Preds all l) : Lv.Sol (edL all l) (fun i => lv ((all[i]?).getD 0)) := by
  intro e he
  obtain ⟨c, hc, x, hx, rfl⟩ := mem_edL.1 he
  simp only [ix_at (hp.head hc), ix_at (hp.body hc hx), Option.getD_some]
  exact h c hc x hx
theorem ed_lt {all : List Int} {l : List Cl} (hp : Preds all l) {e : Nat × Nat × Bool} (he : e ∈ edL all l) : e.1 < all.length ∧ e.2.1 < all.length := by
  obtain ⟨c, hc, x, hx, rfl⟩ := mem_edL.1 he
  exact ⟨ix_lt (hp.head hc), ix_lt (hp.body hc hx)⟩
theorem edL_len {all : List Int} : ∀ {l : List Cl}, (∀ c ∈ l, c.b.length ≤ 8) → (edL all l).length ≤ 8 * l.length
  | [], _ => Nat.le_refl _
  | c :: l, h => by
    have h1 := edL_len (all := all) (l := l) (fun c hc => h c (.tail _ hc))
    have h2 := h c (.head _)
    have e : edL all (c :: l) = edX all c ++ edL all l := rfl
    rw [e, List.length_append, List.length_cons]
    have : (edX all c).length = c.b.length := by simp [edX]
    omega
def gl (l : List Nat) (u : Nat) : Nat := (l[u]?).getD 0
def setN (v : Nat) (l p : List Nat) : List Nat := p.foldl (fun o u => o.set u v) l
theorem setN_len (v : Nat) : ∀ (p l : List Nat), (setN v l p).length = l.length
  | [], _ => rfl
  | u :: p, l => (setN_len v p _).trans (List.length_set ..)
theorem setN_snoc (v : Nat) (l p : List Nat) (u : Nat) : setN v l (p ++ [u]) = (setN v l p).set u v := by simp [setN]
theorem gl_set {l : List Nat} {u v w : Nat} (h : u < l.length) : gl (l.set u v) w = if w = u then v else gl l w := by
  unfold gl; rw [set_at]
  by_cases e : w = u
  · subst e; simp [h]
  · rw [if_neg (fun q => e q.1.symm), if_neg e]
theorem gl_setN (v : Nat) : ∀ (p l : List Nat) (w : Nat), (∀ u ∈ p, u < l.length) → gl (setN v l p) w = if w ∈ p then v else gl l w
  | [], l, w, _ => by simp [setN]
  | u :: p, l, w, h => by
    have := gl_setN v p (l.set u v) w (fun x hx => by rw [List.length_set]; exact h x (.tail _ hx))
    rw [show setN v l (u :: p) = setN v (l.set u v) p from rfl, this, gl_set (h u (.head _))]
    by_cases h1 : w ∈ p
    · rw [if_pos h1, if_pos (.tail _ h1)]
    · rw [if_neg h1]
      by_cases h2 : w = u
      · rw [if_pos h2, if_pos (by rw [h2]; exact .head _)]
      · rw [if_neg h2, if_neg (fun q => (List.mem_cons.1 q).elim h2 h1)]
theorem gl_at {l : List Nat} {u : Nat} (h : u < l.length) : l[u]? = some (gl l u) := by unfold gl; rw [List.getElem?_eq_getElem h]; rfl
structure LI (es : List (Nat × Nat × Bool)) (ps : List (List Nat)) (n k : Nat) (lev of : List Nat) : Prop where
  ll : lev.length = n
  ol : of.length = n
  inv : Lv.I es (ps.take k).flatten (gl lev)
  ofk : ∀ u, gl of u ≤ k
theorem LI.start (es : List (Nat × Nat × Bool)) (ps : List (List Nat)) (n : Nat) : LI es ps n 0 (List.replicate n 0) (List.replicate n 0) := by
  have h : ∀ u, gl (List.replicate n 0) u = 0 := fun u => by unfold gl; rw [List.getElem?_replicate]; split <;> rfl
  refine ⟨by simp, by simp, ?_, fun u => by rw [h]; exact Nat.le_refl _⟩
  rw [show gl (List.replicate n 0) = fun _ => 0 from funext h]
  exact Lv.nil es
structure TI_ (es : List (Nat × Nat × Bool)) (p : List Nat) (lev : List Nat) (d : Nat × Nat × Bool → Prop) (top : Nat) : Prop where
  le : ∀ e, d e → gl lev e.2.1 + e.2.2.toNat ≤ top
  no : ∀ e, d e → e.2.1 ∈ p → e.2.2 = false
  at_ : top = 0 ∨ ∃ e ∈ es, e.1 ∈ p ∧ top = gl lev e.2.1 + e.2.2.toNat
theorem TI_.more {es : List (Nat × Nat × Bool)} {p lev : List Nat} {d d' : Nat × Nat × Bool → Prop} {top : Nat} (h : TI_ es p lev d top) (hd : ∀ e, d' e → d e) : TI_ es p lev d' top := ⟨fun e q => h.le e (hd e q), fun e q => h.no e (hd e q), h.at_⟩
theorem TI_.add {es : List (Nat × Nat × Bool)} {p lev : List Nat} {d d' : Nat × Nat × Bool → Prop} {top : Nat} (h : TI_ es p lev d top) {x : Nat × Nat × Bool} (hx : x ∈ es) (hxp : x.1 ∈ p) (hno : x.2.1 ∈ p → x.2.2 = false) (hd : ∀ e, d' e → d e ∨ e = x) : TI_ es p lev d' (max top (gl lev x.2.1 + x.2.2.toNat)) := by
  refine ⟨fun e q => ?_, fun e q => ?_, ?_⟩
  · rcases hd e q with r | r
    · exact Nat.le_trans (h.le e r) (Nat.le_max_left _ _)
    · subst r; exact Nat.le_max_right _ _
  · rcases hd e q with r | r
    · exact h.no e r
    · subst r; exact hno
  · rcases Nat.le_total top (gl lev x.2.1 + x.2.2.toNat) with q | q
    · exact .inr ⟨x, hx, hxp, Nat.max_eq_right q⟩
    · rw [Nat.max_eq_left q]; exact h.at_
theorem parts_split {ps : List (List Nat)} {k : Nat} {p : List Nat} (h : ps[k]? = some p) : (ps.take (k + 1)).flatten = (ps.take k).flatten ++ p := by
  obtain ⟨hk, e⟩ := List.getElem?_eq_some_iff.1 h
  rw [List.take_succ_eq_append_getElem hk, e]; simp
theorem LI.next {es : List (Nat × Nat × Bool)} {ps : List (List Nat)} {n k : Nat} {lev of p : List Nat} {top : Nat} (h : LI es ps n k lev of) (hp : PartsOK (Lv.outs es) n ps) (hk : ps[k]? = some p)
    (ht : TI_ es p lev (fun e => e ∈ es ∧ e.1 ∈ p) top) : LI es ps n (k + 1) (setN top lev p) (setN (k + 1) of p) := by
  have hpm : p ∈ ps := List.mem_of_getElem? hk
  have hlt : ∀ u ∈ p, u < n := fun u hu => (hp.cover u).1 (List.mem_flatten.2 ⟨p, hpm, hu⟩)
  refine ⟨by rw [setN_len, h.ll], by rw [setN_len, h.ol], ?_, fun u => ?_⟩
  · rw [parts_split hk]
    have e : gl (setN top lev p) = fun u => if u ∈ p then top else gl lev u := funext fun u => gl_setN top p lev u (fun x hx => by rw [h.ll]; exact hlt x hx)
    rw [e]
    refine Lv.step h.inv (hp.ne p hpm) (fun v hv hd => ?_) (fun e he h1 => ?_) (fun u hu v hv => hp.reach p hpm u hu v hv) (fun e he h1 h2 => ht.no e ⟨he, h1⟩ h2) (fun e he h1 => ht.le e ⟨he, h1⟩) ht.at_
    · have hnd := hp.nd
      rw [← List.take_append_drop (k + 1) ps, List.flatten_append, parts_split hk] at hnd
      exact (List.nodup_append.1 (List.nodup_append.1 hnd).1).2.2 v hd v hv rfl
    · have := hp.order k p hk e.1 h1 e.2.1 (Lv.mem_outs.2 ⟨e, he, rfl, rfl⟩)
      rw [parts_split hk] at this
      exact List.mem_append.1 this
  · rw [gl_setN _ _ _ _ (fun x hx => by rw [h.ol]; exact hlt x hx)]
    split
    · exact Nat.le_refl _
    · exact Nat.le_succ_of_le (h.ofk u)
inductive LvR (l : List Cl) : List (Int × Nat) → Int → Prop where
  | bad : (rightC l).2 ≠ 0 → LvR l [] (rightC l).2
  | round : (rightC l).2 = 0 → (∀ lv, ¬ Levels l lv) → LvR l [] 11
  | ok (all : List Int) (lev : List Nat) : (rightC l).2 = 0 → Preds all l → lev.length = all.length → Levels l (fun p => gl lev (ix all p)) → (∀ lv, Levels l lv → ∀ p ∈ all, gl lev (ix all p) ≤ lv p) → (∀ u, gl lev u ≤ 4000) → LvR l (all.zip lev) 0
theorem LI.done {l : List Cl} {all : List Int} {ps : List (List Nat)} {lev of : List Nat} (hr : (rightC l).2 = 0) (hp : Preds all l) (h : LI (edL all l) ps all.length ps.length lev of) (hps : PartsOK (Lv.outs (edL all l)) all.length ps) (hn : all.length ≤ 4000) : LvR l (all.zip lev) 0 := by
  have hi := h.inv
  rw [List.take_length] at hi
  have hs := Lv.sol hi (fun e he => (hps.cover e.1).2 (ed_lt hp he).1)
  refine .ok all lev hr hp h.ll (sol_lev.1 hs.1) (fun lv hl p hpa => ?_) (fun u => ?_)
  · have := hs.2.1 _ (lev_sol hl hp) (ix all p)
    simpa [ix_at hpa] using this
  · by_cases hz : ps.flatten = []
    · by_cases hu : u ∈ ps.flatten
      · rw [hz] at hu; cases hu
      · rw [hi.d u hu]; omega
    · have h1 := hs.2.2 u hz
      have h2 : ps.flatten.length ≤ all.length := by
        have := nodup_lenN hps.nd (b := List.range all.length) (fun x hx => List.mem_range.2 ((hps.cover x).1 hx))
        rwa [List.length_range] at this
      omega
theorem round_none {l : List Cl} {all : List Int} {ps : List (List Nat)} {p : List Nat} (hp : Preds all l) (hps : PartsOK (Lv.outs (edL all l)) all.length ps) (hpm : p ∈ ps) {e : Nat × Nat × Bool} (he : e ∈ edL all l) (hn : e.2.2 = true) (h1 : e.1 ∈ p) (h2 : e.2.1 ∈ p) (lv : Int → Nat) : ¬ Levels l lv := fun hl =>
  Lv.none_ he hn (hps.reach p hpm e.2.1 h2 e.1 h1) _ (lev_sol hl hp)
def lastP (ls : List (Int × Nat)) (p : Int) : Option Nat := ls.foldl (fun o x => if x.1 = p then some x.2 else o) none
theorem lastP_snoc (ls : List (Int × Nat)) (x : Int × Nat) (p : Int) : lastP (ls ++ [x]) p = if x.1 = p then some x.2 else lastP ls p := by simp [lastP]
theorem lastP_zip {all : List Int} {lev : List Nat} (hl : lev.length = all.length) (p : Int) : ∀ k, k ≤ all.length → lastP ((all.zip lev).take k) p = (lastTo all p k).map (gl lev)
  | 0, _ => rfl
  | k + 1, hk => by
    have hz : k < (all.zip lev).length := by rw [List.length_zip]; omega
    rw [List.take_succ_eq_append_getElem hz, lastP_snoc, lastP_zip hl p k (by omega)]
    have e : (all.zip lev)[k] = (all[k], lev[k]) := List.getElem_zip
    rw [e]
    show _ = Option.map (gl lev) (if all[k]? = some p then some k else lastTo all p k)
    rw [List.getElem?_eq_getElem (show k < all.length by omega)]
    by_cases h : all[k] = p
    · rw [if_pos h, if_pos (by rw [h])]
      simp only [Option.map_some]
      congr 1
      unfold gl; rw [List.getElem?_eq_getElem (by omega)]; rfl
    · rw [if_neg h, if_neg (fun q => h (Option.some.inj q))]
theorem lastP_all {all : List Int} {lev : List Nat} (hl : lev.length = all.length) {p : Int} (hp : p ∈ all) : lastP (all.zip lev) p = some (gl lev (ix all p)) := by
  have h := lastP_zip hl p all.length (Nat.le_refl _)
  rw [List.take_of_length_le (by rw [List.length_zip]; omega)] at h
  rw [h]
  obtain ⟨i, hi, e⟩ := List.getElem_of_mem hp
  obtain ⟨j, hj⟩ := lastTo_some (all := all) (p := p) (k := all.length) hi (by rw [List.getElem?_eq_getElem hi, e])
  unfold ix; rw [hj]; rfl
inductive StrR (l : List Cl) : List (List Nat) → Int → Prop where
  | bad (e : Int) : e ≠ 0 → (((rightC l).2 ≠ 0 ∧ e = (rightC l).2) ∨ ((rightC l).2 = 0 ∧ e = 11 ∧ ∀ lv, ¬ Levels l lv)) → StrR l [] e
  | ok (lv : Int → Nat) : (rightC l).2 = 0 → Levels l lv → (∀ lw, Levels l lw → ∀ c ∈ l, lv c.h.p ≤ lw c.h.p) → (∀ p, lv p ≤ 4000) → StrR l (strata (l.map fun c => lv c.h.p)) 0
def tEg : Ty (Nat × Nat × Bool) := tIso (tPair (tInt .i64) (tPair (tInt .i64) tBool)) (fun x => ((x.1 : Int), (x.2.1 : Int), x.2.2))
def fcEg (x : Nat × Nat × Bool) : List Value := [.int .i64 (x.1 : Int), .int .i64 (x.2.1 : Int), .bool x.2.2]
theorem tEg_fc (h : Heap) (x : Nat × Nat × Bool) (cs : List Value) (r : tEg.rep h x cs) : cs = fcEg x := by
  obtain ⟨a, b, e, h1, c, d, e2, h2, h3⟩ := r
  have h1' : a = [.int .i64 (x.1 : Int)] := h1
  have h2' : c = [.int .i64 (x.2.1 : Int)] := h2
  have h3' : d = [.bool x.2.2] := h3
  subst h1'; subst h2'; subst h3'; subst e2; subst e; rfl
theorem tEg_mk (h : Heap) (x : Nat × Nat × Bool) : tEg.rep h x (fcEg x) := ⟨_, _, rfl, rfl, _, _, rfl, rfl, rfl⟩
theorem ent_Eg {Ps : List PA} {x : Nat × Nat × Bool} : Ent Ps (rp tEg x (fcEg x)) := fun hh _ => tEg_mk hh x
theorem go_elem_Eg {C : Ctx} {k : List It} {E : Env} {Ps : List PA} {Os : List OA} {A : Option Addr} {c : Nat} {R : List (Nat × Nat × Bool)} (h : sl tEg A c R ∈ Ps) (j : Nat) {x : Nat × Nat × Bool} (hj : R[j]? = some x) (g : ∀ b o, A = some ⟨b, o, none⟩ → Go C k E (cl b (o + j * 3) [.int .i64 (x.1 : Int), .int .i64 (x.2.1 : Int), .bool x.2.2] :: Ps) Os) : Go C k E Ps Os :=
  go_elem h j hj fun b o cs hA => fun a w hp ho hf hs hb => by
    have e : cs = fcEg x := tEg_fc _ _ _ (hs.ps _ (.tail _ (.head _)))
    subst e
    exact g b o hA a w hp ho hf ⟨hs.inp, hs.ino, hs.dj, forall_cons (hs.ps _ (.head _)) fun p hp => hs.ps p (.tail _ (.tail _ hp)), hs.os⟩ hb
theorem mget_ix {m : List (Int × Value)} {all : List Int} (hm : ∀ p, mget m p = (lastTo all p all.length).map fun i : Nat => Value.int .i64 (i : Int)) (p : Int) : (mget m p).getD (.int .i64 0) = .int .i64 (ix all p : Int) := by
  rw [hm]; unfold ix
  cases lastTo all p all.length <;> rfl
theorem mset_last {m : List (Int × Value)} {all : List Int} {k : Nat} (hk : k < all.length) (hm : ∀ p, mget m p = (lastTo all p k).map fun i : Nat => Value.int .i64 (i : Int)) (p : Int) : mget (mset m all[k] (.int .i64 (k : Int))) p = (lastTo all p (k + 1)).map fun i : Nat => Value.int .i64 (i : Int) := by
  rw [mget_mset]
  show _ = Option.map _ (if all[k]? = some p then some k else lastTo all p k)
  rw [List.getElem?_eq_getElem hk]
  by_cases h : p = all[k]
  · subst h; rw [if_pos rfl, if_pos rfl]; rfl
  · rw [if_neg h, if_neg (fun q => h (Option.some.inj q).symm)]
    exact hm p
def predL (l : List Cl) : List Int := (atomsL l).map (·.p)
theorem predL_len : ∀ {l : List Cl}, (∀ c ∈ l, c.b.length ≤ 8) → (predL l).length ≤ 9 * l.length
  | [], _ => Nat.le_refl _
  | c :: l, h => by
    have h1 := predL_len (l := l) (fun c hc => h c (.tail _ hc))
    have h2 := h c (.head _)
    have e : predL (c :: l) = (c.h.p :: c.b.map fun x => x.a.p) ++ predL l := by simp [predL, atomsL, atomsC]
    rw [e, List.length_append]
    simp only [List.length_cons, List.length_map]
    omega
theorem predL_next {l : List Cl} {k : Nat} (hk : k < l.length) : predL (l.take (k + 1)) = predL (l.take k) ++ l[k].h.p :: l[k].b.map fun x => x.a.p := by
  unfold predL; rw [atomsL_next hk, List.map_append]; simp [atomsC]
theorem edL_next {all : List Int} {l : List Cl} {k : Nat} (hk : k < l.length) : edL all (l.take (k + 1)) = edL all (l.take k) ++ edX all l[k] := by
  unfold edL; rw [List.take_succ_eq_append_getElem hk, List.flatMap_append]; simp
def tLv : Ty (Int × Nat) := tIso (tPair (tInt .u32) (tInt .i64)) (fun x => (x.1, (x.2 : Int)))
def fcLv (x : Int × Nat) : List Value := [.int .u32 x.1, .int .i64 (x.2 : Int)]
theorem tLv_fc (h : Heap) (x : Int × Nat) (cs : List Value) (r : tLv.rep h x cs) : cs = fcLv x := by
  obtain ⟨a, b, e, h1, h2⟩ := r
  have h1' : a = [.int .u32 x.1] := h1
  have h2' : b = [.int .i64 (x.2 : Int)] := h2
  subst h1'; subst h2'; subst e; rfl
theorem tLv_mk (h : Heap) (x : Int × Nat) : tLv.rep h x (fcLv x) := ⟨_, _, rfl, rfl, rfl⟩
theorem ent_Lv {Ps : List PA} {x : Int × Nat} : Ent Ps (rp tLv x (fcLv x)) := fun hh _ => tLv_mk hh x
theorem go_elem_Lv {C : Ctx} {k : List It} {E : Env} {Ps : List PA} {Os : List OA} {A : Option Addr} {c : Nat} {R : List (Int × Nat)} (h : sl tLv A c R ∈ Ps) (j : Nat) {x : Int × Nat} (hj : R[j]? = some x) (g : ∀ b o, A = some ⟨b, o, none⟩ → Go C k E (cl b (o + j * 2) [.int .u32 x.1, .int .i64 (x.2 : Int)] :: Ps) Os) : Go C k E Ps Os :=
  go_elem h j hj fun b o cs hA => fun a w hp ho hf hs hb => by
    have e : cs = fcLv x := tLv_fc _ _ _ (hs.ps _ (.tail _ (.head _)))
    subst e
    exact g b o hA a w hp ho hf ⟨hs.inp, hs.ino, hs.dj, forall_cons (hs.ps _ (.head _)) fun p hp => hs.ps p (.tail _ (.tail _ hp)), hs.os⟩ hb
theorem go_sl_nil {C : Ctx} {k : List It} {E : Env} {Ps : List PA} {Os : List OA} {α : Type} (T : Ty α) (g : Go C k E (sl T none 0 [] :: Ps) Os) : Go C k E Ps Os :=
  go_ent (sl T none 0 []) (fun _ _ => ⟨Nat.le_refl _, Nat.zero_le _, fun _ => rfl, fun j x h => by simp at h⟩) g
def rowG {α : Type} (R : List (Rw α)) (v : Nat) : List α := ((R[v]?).map (·.l)).getD []
theorem rowG_at {α : Type} {R : List (Rw α)} {a : Nat} {x : Rw α} (h : R[a]? = some x) : rowG R a = x.l := by rw [rowG, h]; rfl
theorem rowG_set {α : Type} {R : List (Rw α)} {a : Nat} (x : Rw α) (h : a < R.length) (u : Nat) : rowG (R.set a x) u = if u = a then x.l else rowG R u := by
  simp only [rowG, set_at]
  by_cases e : u = a
  · subst e; simp [h]
  · rw [if_neg (fun q => e q.1.symm), if_neg e]
theorem rowG_get {α : Type} {R : List (Rw α)} {v : Nat} (h : v < R.length) : (R.map (·.l))[v]? = some (rowG R v) := by
  rw [List.getElem?_map, rowG, List.getElem?_eq_getElem h]; rfl
def en (es : List (Nat × Nat × Bool)) : List (Nat × Nat) := es.map fun e => (e.1, e.2.1)
def fe (es : List (Nat × Nat × Bool)) (v : Nat) : List (Nat × Nat × Bool) := es.filter fun e => e.1 == v
theorem fe_snoc (es : List (Nat × Nat × Bool)) (e : Nat × Nat × Bool) (v : Nat) : fe (es ++ [e]) v = if v = e.1 then fe es v ++ [e] else fe es v := by
  unfold fe
  rw [List.filter_append]
  by_cases h : v = e.1
  · subst h; simp
  · rw [if_neg h]; simp [Ne.symm h]
theorem mem_fe {es : List (Nat × Nat × Bool)} {v : Nat} {e : Nat × Nat × Bool} : e ∈ fe es v ↔ e ∈ es ∧ e.1 = v := by simp [fe]
theorem LI.le {es : List (Nat × Nat × Bool)} {ps : List (List Nat)} {n k : Nat} {lev of : List Nat} (h : LI es ps n k lev of) (hps : PartsOK (Lv.outs es) n ps) (u : Nat) : gl lev u ≤ n := by
  by_cases hu : u ∈ (ps.take k).flatten
  · have h1 := h.inv.c u hu
    have h2 : (ps.take k).flatten.length ≤ n := by
      have hnd := hps.nd
      rw [← List.take_append_drop k ps, List.flatten_append] at hnd
      have := nodup_lenN (List.nodup_append.1 hnd).1 (b := List.range n) (fun x hx => List.mem_range.2 ((hps.cover x).1 (by
        rw [← List.take_append_drop k ps, List.flatten_append]; exact List.mem_append_left _ hx)))
      rwa [List.length_range] at this
    omega
  · rw [h.inv.d u hu]; exact Nat.zero_le _
theorem LI.ofIs {es : List (Nat × Nat × Bool)} {ps : List (List Nat)} {n k : Nat} {lev of p : List Nat} (h : LI es ps n k lev of) (hlt : ∀ u ∈ p, u < n) (u : Nat) : gl (setN (k + 1) of p) u = k + 1 ↔ u ∈ p := by
  rw [gl_setN _ _ _ _ (fun x hx => by rw [h.ol]; exact hlt x hx)]
  by_cases e : u ∈ p
  · rw [if_pos e]; exact ⟨fun _ => e, fun _ => rfl⟩
  · rw [if_neg e]
    have := h.ofk u
    exact ⟨fun q => by omega, fun q => absurd q e⟩
theorem cs_set (l : List Nat) (u v : Nat) : (cs l).set u (v : Int) = cs (l.set u v) := by simp [cs, List.map_set]
end Go.Proofs.YtdconhalfanclaaGreat.SL
namespace Go.Proofs.YtdconhalfanclaaGreat.SL
open Go
theorem safeHeld1 (bm b : Nat) (m : List (Int × Value)) (st : List Int) (hm : Ones m st) (a : Am) (AA : Option Addr) (ac : Nat) (hn : a.a.length ≤ 12) :
    Spec Tryz.prog 125 #[.agg #[.int .u32 a.p, .slice AA a.a.length ac], .pointer (some ⟨bm, 0, none⟩)] [cl bm 0 [.map (some b)], sl tTm AA ac a.a] [mapO b .u32 m] (fun v Ps' Os' => v = .bool ((vars a).all fun v => decide (v ∈ st)) ∧ Ps' = [] ∧ Os' = [mapO b .u32 m]) := by
 refine zSp _ Tryz.func125 Tryz.ntmps125 (fun _ _ _ => ?_)
 refine zX 2 ?_
 intro b1
 refine zL 5 ?_
 refine zC 0 (varsA a AA ac hn) ?_
 rintro _ _ _ ⟨A1, c1, vs, rfl, hvs, hvl, rfl, rfl⟩
 refine zR 4 ?_
 refine zO (X := Nat) (fun k => [(9, .int .i64 (k : Int))]) [1, 7, 8] (fun _ => []) (fun k => k ≤ vs.length ∧ ∀ x ∈ vs.take k, x ∈ st) (fun k => vs.length - k) 0 ⟨by omega, by simp⟩ ?_
 intro k ⟨hk, hz⟩
 refine zD' 5 ?_ ?_
 ·intro hq1
  refine zT 5 rfl ⟨congrArg Value.bool (Eq.symm (List.all_eq_true.2 fun x hx => by rw [List.take_of_length_le (by omega)] at hz; simpa using hz x ((hvs x).2 hx))), rfl, rfl⟩
 intro hq1
 refine zR 4 ?_
 refine go_elem_int (xs := vs) zM (k) (List.getElem?_eq_getElem (by omega)) (fun b o hA => ?_); cases hA
 refine zI 1 ?_
 refine zL 0 ?_
 refine zL 4 ?_
 refine zR 1 ?_
 refine go_val0 rfl (lookup_val (m := m) (n := vs[k]) (c := false) (v := (mget m vs[k]).getD (.int .i64 0)) Tk rfl rfl rfl rfl rfl rfl zM rfl) rfl ?_
 refine go_re 15 (.int .i64 (if vs[k] ∈ st then 1 else 0)) (by show some _ = some _; rw [hm]; split <;> rfl) ?_
 refine zD 2 ?_ ?_
 ·intro g0
  have g1 : vs[k] ∉ st := fun h => by rw [if_pos h] at g0; cases g0
  refine zE 4 [3] ?_
  refine zT 0 rfl ⟨congrArg Value.bool (Eq.symm (List.all_eq_false.2 ⟨vs[k], (hvs _).1 (List.getElem_mem _), by simpa using g1⟩)), rfl, rfl⟩
 intro g0
 have g1 : vs[k] ∈ st := Decidable.byContradiction fun h => g0 (if_neg h)
 refine zR 6 ?_
 refine zi 9 ?_
 refine zz (k + 1) (⟨by omega, fun x hx => ((mem_take_succ (by omega) x).1 hx).elim (hz x) (fun e => by rw [e]; exact g1)⟩) (by omega)
theorem safeFits (b : Nat) (m : List (Int × Value)) (L : Lens) (hm : Lens.Is m L) (p n : Int) :
    Spec Tryz.prog 64 #[.map (some b), .int .u32 p, .int .i64 n] [] [mapO b .u32 m] (fun v Ps' Os' => ∃ m', Lens.Is m' (learn L p n) ∧ v = .bool (fitB L p n) ∧ Ps' = [] ∧ Os' = [mapO b .u32 m']) := by
 refine zSp _ Tryz.func64 Tryz.ntmps64 (fun _ _ _ => ?_)
 refine zR 1 ?_
 by_cases h0 : L p = none
 ·skip
  refine zR 7 ?_
  refine go_val0 rfl (lookup_val (m := m) (n := p) (c := true) (v := .tuple #[(mget m p).getD (.int .i64 0), .bool (mget m p).isSome]) Tk rfl rfl rfl rfl rfl rfl zM rfl) rfl ?_
  refine zR 2 ?_
  refine go_re 13 (.int .i64 0) (by show some _ = some _; rw [hm, h0]; rfl) ?_
  refine zR 1 ?_
  refine go_re 14 (.bool false) (by show some (Value.bool _) = _; rw [hm, h0]; rfl) ?_
  refine zDt 9 ?_
  refine zR 4 ?_
  refine go_mset Tk rfl rfl rfl rfl rfl rfl rfl rfl zM zF ?_
  refine zE 1 [2, 7, 8] ?_
  refine zT 11 rfl ⟨_, hm.new h0 n, by unfold fitB; rw [h0], rfl, rfl⟩
 ·skip
  obtain ⟨w, hw⟩ := Option.ne_none_iff_exists'.1 h0
  refine zR 7 ?_
  refine go_val0 rfl (lookup_val (m := m) (n := p) (c := true) (v := .tuple #[(mget m p).getD (.int .i64 0), .bool (mget m p).isSome]) Tk rfl rfl rfl rfl rfl rfl zM rfl) rfl ?_
  refine zR 2 ?_
  refine go_re 13 (.int .i64 w) (by show some _ = some _; rw [hm, hw]; rfl) ?_
  refine zR 1 ?_
  refine go_re 14 (.bool true) (by show some (Value.bool _) = _; rw [hm, hw]; rfl) ?_
  refine zDf 9 ?_
  refine zE 12 [6] ?_
  refine zT 0 rfl ⟨m, by rw [learn_old hw]; exact hm, by unfold fitB; rw [hw], rfl, rfl⟩
theorem safeClause (b : Nat) (m : List (Int × Value)) (L : Lens) (hm : Lens.Is m L) (c : Cl) (CA : Option Addr) (cc : Nat) (CB : Option Addr) (cd : Nat) :
    Spec Tryz.prog 63 #[.map (some b), .agg #[.int .u32 c.h.p, .slice CA c.h.a.length cc, .slice CB c.b.length cd]] [sl tTm CA cc c.h.a, sl tLi CB cd c.b] [mapO b .u32 m] (fun v Ps' Os' => ∃ m', Lens.Is m' (clauseL L c).2 ∧ v = .bool (clauseL L c).1 ∧ Ps' = [] ∧ Os' = [mapO b .u32 m']) := by
 refine zSp _ Tryz.func63 Tryz.ntmps63 (fun _ _ _ => ?_)
 refine zX 2 ?_
 intro b1
 refine zR 3 ?_
 refine go_len (xs := c.h.a) zM (fun lh mh => ?_)
 refine zL 4 ?_
 refine zL 2 ?_
 refine zC 1 (safeFits b m L hm c.h.p c.h.a.length) ?_
 rintro _ _ _ ⟨m1, hm1, rfl, rfl, rfl⟩
 refine zR 2 ?_
 refine go_re 5 (.bool (clauseL L ⟨c.h, c.b.take 0⟩).1) (by show some (Value.bool _) = some (Value.bool _); unfold clauseL; simp [stepL]) ?_
 refine zR 2 ?_
 refine go_len (xs := c.b) zM (fun l0 m0 => ?_)
 refine zL 2 ?_
 refine zE 3 [0, 5, 18, 19, 20] ?_
 refine zR 1 ?_
 refine zO (X := Nat × List (Int × Value)) (fun x => [(5, .bool (clauseL L ⟨c.h, c.b.take x.1⟩).1), (20, .int .i64 (x.1 : Int))]) [0, 18, 19] (fun x => [mapO b .u32 x.2]) (fun x => x.1 ≤ c.b.length ∧ Lens.Is x.2 (clauseL L ⟨c.h, c.b.take x.1⟩).2) (fun x => c.b.length - x.1) (0, m1) ⟨by omega, hm1⟩ ?_
 intro ⟨k, m2⟩ ⟨hk, hm2⟩
 simp only at hk hm2 ⊢
 refine zD' 5 ?_ ?_
 ·intro hq1
  refine zT 6 rfl ⟨m2, by rw [List.take_of_length_le (by omega)] at hm2; exact hm2, by rw [List.take_of_length_le (by omega)], rfl, rfl⟩
 intro hq1
 refine zR 4 ?_
 refine go_elem_li (xs := c.b) zM (k) (List.getElem?_eq_getElem (by omega)) (fun b0 o0 A0 c0 hA => ?_); cases hA
 refine go_len (xs := c.b[k].a.a) zM (fun ll ml => ?_)
 refine zI 1 ?_
 refine zL 0 ?_
 refine zW 0 ?_
 intro b2
 refine zS 0 ?_
 refine zL 5 ?_
 refine zL 2 ?_
 refine zC 1 (safeFits b m2 _ hm2 c.b[k].a.p c.b[k].a.a.length) ?_
 rintro _ _ _ ⟨m3, hm3, rfl, rfl, rfl⟩
 refine zG' 1 33 ?_ ?_
 ·intro g1
  (try simp only [dcs, ne_eq] at g1)
  refine zR 4 ?_
  refine go_re 5 (.bool (clauseL L ⟨c.h, c.b.take (k + 1)⟩).1) (by show some (Value.bool _) = some (Value.bool _); rw [clause_next (by omega)]; unfold stepL; simp only [g1, Bool.true_and, Bool.false_and]) ?_
  refine zE 0 [0, 5, 18, 19, 20, 34] ?_
  refine zR 5 ?_
  refine zi 20 ?_
  refine zz (k + 1, m3) ⟨by show k + 1 ≤ _; omega, by show Lens.Is m3 _; rw [clause_next (by omega)]; exact hm3⟩ (by show c.b.length - (k + 1) < c.b.length - k; omega)
 intro g1
 (try simp only [dcs, ne_eq] at g1)
 refine zR 4 ?_
 refine go_re 5 (.bool (clauseL L ⟨c.h, c.b.take (k + 1)⟩).1) (by show some (Value.bool _) = some (Value.bool _); rw [clause_next (by omega)]; unfold stepL; simp only [g1, Bool.true_and, Bool.false_and]) ?_
 refine zE 0 [0, 5, 18, 19, 20, 34] ?_
 refine zR 5 ?_
 refine zi 20 ?_
 refine zz (k + 1, m3) ⟨by show k + 1 ≤ _; omega, by show Lens.Is m3 _; rw [clause_next (by omega)]; exact hm3⟩ (by show c.b.length - (k + 1) < c.b.length - k; omega)
theorem safeLiterals (c : Cl) (CA : Option Addr) (cc : Nat) (CB : Option Addr) (cd : Nat) (nt : Bool) :
    Spec Tryz.prog 123 #[.agg #[.int .u32 c.h.p, .slice CA c.h.a.length cc, .slice CB c.b.length cd], .bool nt] [] [] (fun v Ps' Os' => ∃ bC bN, v = .func (.func 149) #[] #[.pointer (some ⟨bC, 0, none⟩), .pointer (some ⟨bN, 0, none⟩)] ∧ Ps' = [cl bC 0 [.int .u32 c.h.p, .slice CA c.h.a.length cc, .slice CB c.b.length cd], cl bN 0 [.bool nt]] ∧ Os' = []) := by
 refine zSp _ Tryz.func123 Tryz.ntmps123 (fun _ _ _ => ?_)
 refine zX 2 ?_
 intro bC
 refine zX 0 ?_
 intro bN
 refine go_freeze_pt (b := bC) zM ?_
 refine go_freeze_pt (b := bN) zM ?_
 refine zT 7 rfl ⟨bC, bN, rfl, rfl, rfl⟩
theorem literals1 (ly bC bN : Nat) (R : List Ax → OA) (hY : Yld Tryz.prog ly encA pxA R) (c : Cl) (CA : Option Addr) (cc : Nat) (CB : Option Addr) (cd : Nat) (nt : Bool) (hb : ∀ l ∈ c.b, l.a.a.length ≤ 12) :
    Spec Tryz.prog 149 #[.func (.yield ly) #[] #[], .pointer (some ⟨bC, 0, none⟩), .pointer (some ⟨bN, 0, none⟩)] [cl bC 0 [.int .u32 c.h.p, .slice CA c.h.a.length cc, .slice CB c.b.length cd], cl bN 0 [.bool nt], sl tTm CA cc c.h.a, sl tLi CB cd c.b] [R []] (fun v Ps' Os' => ∃ xs : List Ax, xs.map (·.1) = litsOf c.b nt ∧ Ps' = [] ∧ Os' = [R xs]) := by
 refine zSp _ Tryz.func149 Tryz.ntmps149 (fun _ _ _ => ?_)
 refine zR 1 ?_
 refine go_len (xs := c.b) zM (fun l0 m0 => ?_)
 refine zL 2 ?_
 refine zR 4 ?_
 refine zO (X := Nat × List Ax) (fun x => [(9, .int .i64 (x.1 : Int))]) [0, 2, 7, 8] (fun x => [R x.2]) (fun x => x.1 ≤ c.b.length ∧ x.2.map (·.1) = litsOf (c.b.take x.1) nt) (fun x => c.b.length - x.1) (0, []) ⟨by omega, rfl⟩ ?_
 intro ⟨k, D⟩ ⟨hk, hD⟩
 simp only at hk hD ⊢
 refine zD' 5 ?_ ?_
 ·intro hq1
  refine zT 1 rfl ⟨D, by rw [List.take_of_length_le (by omega)] at hD; exact hD, rfl, rfl⟩
 intro hq1
 refine zR 4 ?_
 refine go_elem_li (xs := c.b) zM (k) (List.getElem?_eq_getElem (by omega)) (fun b0 o0 A0 c0 hA => ?_); cases hA
 refine go_ent (PA.and (c.b[k].a.a.length ≤ 12) (sl tTm A0 c0 c.b[k].a.a)) (fun hh a => ⟨hb _ (List.getElem_mem _), a (sl tTm A0 c0 c.b[k].a.a) zM⟩) ?_
 refine zI 1 ?_
 refine zL 0 ?_
 refine zW 0 ?_
 intro b1
 refine zS 0 ?_
 refine zR 2 ?_
 refine go_regionY [false, false, false, false, false, false, false, false, true] rfl ?_
 refine zL 1 ?_
 refine zL 0 ?_
 refine zG' 2 17 ?_ ?_
 ·intro g1
  (try simp only [dcs, ne_eq] at g1)
  refine zR 3 ?_
  refine go_skipY rfl rfl ?_
  refine zDf 3 ?_
  refine zR 6 ?_
  refine zi 9 ?_
  refine zz (k + 1, D) ⟨by show k + 1 ≤ _; omega, by show List.map _ D = _; rw [lits_no (by omega) g1]; exact hD⟩ (by show c.b.length - (k + 1) < c.b.length - k; omega)
 intro g1
 (try simp only [dcs, ne_eq] at g1)
 refine zL 2 ?_
 refine go_yield hY (D) ((c.b[k].a, A0, c0)) rfl rfl rfl rfl rfl zM zM ?_
 refine zDf 3 ?_
 refine zR 6 ?_
 refine zi 9 ?_
 refine go_back (k + 1, _) zA zM zM ⟨by show k + 1 ≤ _; omega, by show List.map _ (D ++ [_]) = _; rw [lits_yes (by omega) g1, List.map_append, hD]; rfl⟩ (by show c.b.length - (k + 1) < c.b.length - k; omega)
theorem literals1S (ly bC bN : Nat) (R St : List Ax → OA) (hY : YldS Tryz.prog ly encA pxA R St) (c : Cl) (CA : Option Addr) (cc : Nat) (CB : Option Addr) (cd : Nat) (nt : Bool) (hb : ∀ l ∈ c.b, l.a.a.length ≤ 12) :
    Spec Tryz.prog 149 #[.func (.yield ly) #[] #[], .pointer (some ⟨bC, 0, none⟩), .pointer (some ⟨bN, 0, none⟩)] [cl bC 0 [.int .u32 c.h.p, .slice CA c.h.a.length cc, .slice CB c.b.length cd], cl bN 0 [.bool nt], sl tTm CA cc c.h.a, sl tLi CB cd c.b] [R []] (fun v Ps' Os' => Ps' = [] ∧ ((∃ xs : List Ax, xs.map (·.1) = litsOf c.b nt ∧ Os' = [R xs]) ∨ (∃ xs : List Ax, (∀ y ∈ xs, y.1 ∈ litsOf c.b nt) ∧ Os' = [St xs]))) := by
 refine zSp _ Tryz.func149 Tryz.ntmps149 (fun _ _ _ => ?_)
 refine zR 1 ?_
 refine go_len (xs := c.b) zM (fun l0 m0 => ?_)
 refine zL 2 ?_
 refine zR 4 ?_
 refine zO (X := Nat × List Ax) (fun x => [(9, .int .i64 (x.1 : Int))]) [0, 2, 7, 8] (fun x => [R x.2]) (fun x => x.1 ≤ c.b.length ∧ x.2.map (·.1) = litsOf (c.b.take x.1) nt) (fun x => c.b.length - x.1) (0, []) ⟨by omega, rfl⟩ ?_
 intro ⟨k, D⟩ ⟨hk, hD⟩
 simp only at hk hD ⊢
 refine zD' 5 ?_ ?_
 ·intro hq1
  refine zT 1 rfl ⟨rfl, .inl ⟨D, by rw [List.take_of_length_le (by omega)] at hD; exact hD, rfl⟩⟩
 intro hq1
 refine zR 4 ?_
 refine go_elem_li (xs := c.b) zM (k) (List.getElem?_eq_getElem (by omega)) (fun b0 o0 A0 c0 hA => ?_); cases hA
 refine go_ent (PA.and (c.b[k].a.a.length ≤ 12) (sl tTm A0 c0 c.b[k].a.a)) (fun hh a => ⟨hb _ (List.getElem_mem _), a (sl tTm A0 c0 c.b[k].a.a) zM⟩) ?_
 refine zI 1 ?_
 refine zL 0 ?_
 refine zW 0 ?_
 intro b1
 refine zS 0 ?_
 refine zR 2 ?_
 refine go_regionY [false, false, false, false, false, false, false, false, true] rfl ?_
 refine zL 1 ?_
 refine zL 0 ?_
 refine zG' 2 17 ?_ ?_
 ·intro g1
  (try simp only [dcs, ne_eq] at g1)
  refine zR 3 ?_
  refine go_skipY rfl rfl ?_
  refine zDf 3 ?_
  refine zR 6 ?_
  refine zi 9 ?_
  refine zz (k + 1, D) ⟨by show k + 1 ≤ _; omega, by show List.map _ D = _; rw [lits_no (by omega) g1]; exact hD⟩ (by show c.b.length - (k + 1) < c.b.length - k; omega)
 intro g1
 (try simp only [dcs, ne_eq] at g1)
 refine zL 2 ?_
 refine go_yield2 hY (D) ((c.b[k].a, A0, c0)) rfl rfl rfl rfl rfl zM zM ?_ ?_
 ·skip
  refine zDf 3 ?_
  refine zR 6 ?_
  refine zi 9 ?_
  refine go_back (k + 1, _) zA zM zM ⟨by show k + 1 ≤ _; omega, by show List.map _ (D ++ [_]) = _; rw [lits_yes (by omega) g1, List.map_append, hD]; rfl⟩ (by show c.b.length - (k + 1) < c.b.length - k; omega)
 ·skip
  refine zDt 3 ?_
  refine zT 0 rfl ⟨rfl, .inr ⟨D ++ [((c.b[k].a, A0, c0) : Ax)], fun y hy => lits_mem (k := k + 1) (by rw [lits_yes (by omega) g1, ← hD]; have := List.mem_map_of_mem (f := fun z : Ax => z.1) hy; rw [List.map_append] at this; exact this), rfl⟩⟩
def onesO (b : Nat) (s : List Int) : OA := OA.ex fun m => OA.and (Ones m s) (OA.all [mapO b .u32 m])
theorem go_ones {C : Ctx} {k : List It} {E : Env} {Ps : List PA} {Os : List OA} {b : Nat} {s : List Int} {rr : List OA} (h : Rem (onesO b s) Os rr) (g : ∀ m, Ones m s → Go C k E Ps ([mapO b .u32 m] ++ rr)) : Go C k E Ps Os :=
  go_oex h fun m => go_oand .here fun hm => go_oall .here (g m hm)
def okA (st : List Int) (a : Am) : Bool := (vars a).all fun v => decide (v ∈ st)
def goodO (bm bR : Nat) (st : List Int) (xs : List Ax) : OA := OA.and (∀ y ∈ xs, okA st y.1 = true) (OA.all [onesO bm st, pt bR 4 [.bool false]])
def badO (bm bR : Nat) (st : List Int) (xs : List Ax) : OA := OA.and (∃ y ∈ xs, okA st y.1 = false) (OA.all [onesO bm st, pt bR 4 [.bool false]])
theorem go_good {C : Ctx} {k : List It} {E : Env} {Ps : List PA} {Os : List OA} {bm bR : Nat} {st : List Int} {xs : List Ax} {rr : List OA} (h : Rem (goodO bm bR st xs) Os rr) (g : (∀ y ∈ xs, okA st y.1 = true) → Go C k E Ps ([onesO bm st, pt bR 4 [.bool false]] ++ rr)) : Go C k E Ps Os :=
  go_oand h fun hm => go_oall .here (g hm)
theorem go_bad {C : Ctx} {k : List It} {E : Env} {Ps : List PA} {Os : List OA} {bm bR : Nat} {st : List Int} {xs : List Ax} {rr : List OA} (h : Rem (badO bm bR st xs) Os rr) (g : (∃ y ∈ xs, okA st y.1 = false) → Go C k E Ps ([onesO bm st, pt bR 4 [.bool false]] ++ rr)) : Go C k E Ps Os :=
  go_oand h fun hm => go_oall .here (g hm)
theorem ones_more {m : List (Int × Value)} {pre : List Ax} {x : Ax} {vs : List Int} (h : Ones m ((pre.flatMap fun y => vars y.1) ++ vs)) (hv : ∀ z, z ∈ vs ↔ z ∈ vars x.1) : Ones m ((pre ++ [x]).flatMap fun y => vars y.1) :=
  h.same fun z => by rw [List.flatMap_append, List.mem_append, List.mem_append, hv]; simp
theorem held_eq {c : Cl} {xs ys : List Ax} (h1 : xs.map (·.1) = litsOf c.b false) (h2 : ys.map (·.1) = litsOf c.b true) : heldC c = ((ys.all fun y => okA (xs.flatMap fun y => vars y.1) y.1) && okA (xs.flatMap fun y => vars y.1) c.h) := by
  have e1 : (xs.flatMap fun y => vars y.1) = heldBy c := by
    unfold heldBy
    rw [show (xs.flatMap fun y => vars y.1) = (xs.map (·.1)).flatMap vars from by rw [List.flatMap_map], h1]
    unfold litsOf
    rw [List.flatMap_map]
    congr 2
    funext l; cases l.no <;> rfl
  rw [e1]
  unfold heldC okA
  congr 1
  have : (ys.all fun y => (vars y.1).all fun v => decide (v ∈ heldBy c)) = (ys.map (·.1)).all fun a => (vars a).all fun v => decide (v ∈ heldBy c) := by rw [List.all_map]; rfl
  rw [this, h2]
  unfold litsOf
  rw [List.all_map]
  congr 2
  funext l; cases l.no <;> rfl
theorem held_bad {c : Cl} {xs ys : List Ax} (h1 : xs.map (·.1) = litsOf c.b false) (h2 : ∀ y ∈ ys, y.1 ∈ litsOf c.b true) (h3 : ∃ y ∈ ys, okA (xs.flatMap fun y => vars y.1) y.1 = false) : heldC c = false := by
  have := held_eq (c := c) (ys := (litsOf c.b true).map fun a => (a, none, 0)) h1 (by rw [List.map_map]; exact List.map_id _)
  rw [this, Bool.and_eq_false_iff]
  left
  rw [List.all_eq_false]
  obtain ⟨y, hy, e⟩ := h3
  exact ⟨(y.1, none, 0), List.mem_map.2 ⟨y.1, h2 y hy, rfl⟩, by rw [e]; simp⟩
theorem safeHeld (c : Cl) (CA : Option Addr) (cc : Nat) (CB : Option Addr) (cd : Nat) (hh : c.h.a.length ≤ 12) (hb : ∀ l ∈ c.b, l.a.a.length ≤ 12) :
    Spec Tryz.prog 91 #[.agg #[.int .u32 c.h.p, .slice CA c.h.a.length cc, .slice CB c.b.length cd]] [sl tTm CA cc c.h.a, sl tLi CB cd c.b] [] (fun v Ps' Os' => v = .bool (heldC c) ∧ Ps' = [] ∧ Os' = []) := by
 refine zSp _ Tryz.func91 Tryz.ntmps91 (fun _ _ _ => ?_)
 refine zX 2 ?_
 intro bC0
 refine go_freeze_pt (b := bC0) zM ?_
 refine zW 0 ?_
 intro bR
 refine zR 3 ?_
 refine go_makemap (kk := .u32) rfl rfl rfl zF ?_
 intro bm
 refine zW 0 ?_
 intro bM
 refine zS 0 ?_
 refine zR 1 ?_
 refine go_freeze_pt (b := bM) zM ?_
 refine go_fold [mapO bm .u32 []] (onesO bm []) zM (fun _ _ q => ⟨[], Ones.nil, q⟩) ?_
 refine zL 3 ?_
 refine zC 0 (safeLiterals c CA cc CB cd false) ?_
 rintro _ _ _ ⟨bC, bN, rfl, rfl, rfl⟩
 refine zR 2 ?_
 refine go_range (α := Ax) (enc := encA) (Px := pxA) rfl rfl rfl (fun D => [onesO bm (D.flatMap fun y => vars y.1)]) ([]) ([]) zM zM ([cl bC 0 [.int .u32 c.h.p, .slice CA c.h.a.length cc, .slice CB c.b.length cd], cl bN 0 [.bool false], sl tTm CA cc c.h.a, sl tLi CB cd c.b]) zM (fun xs => xs.map (·.1) = litsOf c.b false) (fun ly R hY => literals1 ly bC bN R hY c CA cc CB cd false hb) (X := Nat) (fun x => [(4, .pointer (some ⟨x, 0, none⟩))]) [(2, .pointer (some ⟨bR, 0, none⟩)), (3, .pointer (some ⟨bM, 0, none⟩))] (fun pre x y => [pt y 29 [.int .u32 x.1.p, .slice x.2.1 x.1.a.length x.2.2], onesO bm (pre.flatMap fun y => vars y.1)]) (fun _ _ _ => True) (fun ly pre x w0' hp0' hf0' => ?_) (fun ly pre x y _ w0' hp0' hf0' => ?_) (fun D xs hdj hxs => ?_)
 ·skip
  refine zW 1 ?_
  intro b1
  refine zS 0 ?_
  refine zR 1 ?_
  refine go_back _ zA zM zM trivial (by decide)
 ·skip
  refine go_pand (fun hxa => ?_)
  refine go_freeze_pt (b := y) zM ?_
  refine go_ones (b := bm) zM (fun m hm => ?_)
  refine zL 3 ?_
  refine zC 0 (varsA x.1 x.2.1 x.2.2 hxa) ?_
  rintro _ _ _ ⟨A1, c1, vs, rfl, hvs, hvl, rfl, rfl⟩
  refine zR 4 ?_
  refine zO (X := Nat × List (Int × Value)) (fun x => [(16, .int .i64 (x.1 : Int))]) [3, 14, 15] (fun x => [mapO bm .u32 x.2]) (fun z => z.1 ≤ vs.length ∧ Ones z.2 ((pre.flatMap fun y => vars y.1) ++ vs.take z.1)) (fun x => vs.length - x.1) (0, m) ⟨by omega, by simpa using hm⟩ ?_
  intro ⟨k, m2⟩ ⟨hk, hm2⟩
  simp only at hk hm2 ⊢
  refine zD' 5 ?_ ?_
  ·intro hq1
   refine zR 2 ?_
   refine go_fold [mapO bm .u32 m2] (onesO bm ((pre ++ [x]).flatMap fun y => vars y.1)) zM (fun _ _ q => ⟨m2, ones_more (by rw [List.take_of_length_le (by omega)] at hm2; exact hm2) hvs, q⟩) ?_
   refine go_back () trivial zM zM trivial (by decide)
  intro hq1
  refine zR 4 ?_
  refine go_elem_int (xs := vs) zM (k) (List.getElem?_eq_getElem (by omega)) (fun b o hA => ?_); cases hA
  refine zI 1 ?_
  refine zL 0 ?_
  refine zL 3 ?_
  refine zR 1 ?_
  refine go_mset (m := m2) Tk rfl rfl rfl rfl rfl rfl rfl rfl zM zF ?_
  refine zR 6 ?_
  refine zi 16 ?_
  refine go_back (k + 1, _) zA zM zM ⟨by show k + 1 ≤ _; omega, (hm2.set vs[k]).same (fun z => by rw [List.mem_cons, List.mem_append, List.mem_append, mem_take_succ (by omega)]; constructor <;> intro h <;> rcases h with h | h | h <;> simp [h])⟩ (by show vs.length - (k + 1) < vs.length - k; omega)
 refine zW 4 ?_
 intro bF
 refine zS 0 ?_
 refine zR 1 ?_
 refine go_freeze_pt (b := bF) zM ?_
 refine zL 3 ?_
 refine zC 0 (safeLiterals c CA cc CB cd true) ?_
 rintro _ _ _ ⟨bC2, bN2, rfl, rfl, rfl⟩
 refine go_fold [onesO bm (xs.flatMap fun y => vars y.1), pt bR 4 [.bool false]] (goodO bm bR (xs.flatMap fun y => vars y.1) []) zM (fun _ _ q => ⟨(fun y h => nomatch h), q⟩) ?_
 refine zR 2 ?_
 refine go_rangeS (α := Ax) (enc := encA) (Px := pxA) rfl rfl rfl (fun D => [goodO bm bR (xs.flatMap fun y => vars y.1) D]) (fun D => [badO bm bR (xs.flatMap fun y => vars y.1) D]) ([]) ([]) zM zM ([cl bC2 0 [.int .u32 c.h.p, .slice CA c.h.a.length cc, .slice CB c.b.length cd], cl bN2 0 [.bool true], sl tTm CA cc c.h.a, sl tLi CB cd c.b]) zM (fun ys => ys.map (·.1) = litsOf c.b true) (fun ys => ∀ y ∈ ys, y.1 ∈ litsOf c.b true) (fun ly R St hY => (literals1S ly bC2 bN2 R St hY c CA cc CB cd true hb)) (X := Nat) (fun x => [(8, .pointer (some ⟨x, 0, none⟩))]) [(2, .pointer (some ⟨bR, 0, none⟩)), (7, .pointer (some ⟨bF, 0, none⟩))] (fun pre x y => [pt y 29 [.int .u32 x.1.p, .slice x.2.1 x.1.a.length x.2.2], goodO bm bR (xs.flatMap fun y => vars y.1) pre]) (fun _ _ _ => True) (fun ly pre x w0' hp0' hf0' => ?_) (fun ly pre x y _ w0' hp0' hf0' => ?_) (fun D ys hdj2 hys => ?_) (fun D ys hdj2 hys => ?_)
 ·skip
  refine zW 1 ?_
  intro b2
  refine zS 0 ?_
  refine zR 1 ?_
  refine go_back _ zA zM zM trivial (by decide)
 ·skip
  refine go_pand (fun hxa => ?_)
  refine go_freeze_pt (b := y) zM ?_
  refine go_good (xs := pre) zM (fun hpre => ?_)
  refine go_ones (b := bm) zM (fun m hm => ?_)
  refine zL 3 ?_
  refine zL 0 ?_
  refine zC3 0 (safeHeld1 bM bm m _ hm x.1 x.2.1 x.2.2 hxa) ?_
  refine zB' 2 ?_ ?_
  ·intro g1
   (try simp only [dcs, ne_eq] at g1)
   refine zR 2 ?_
   refine go_fold [mapO bm .u32 m] (onesO bm (xs.flatMap fun y => vars y.1)) zM (fun _ _ q => ⟨m, hm, q⟩) ?_
   refine go_fold [onesO bm (xs.flatMap fun y => vars y.1), pt bR 4 [.bool false]] (goodO bm bR (xs.flatMap fun y => vars y.1) (pre ++ [x])) zM (fun _ _ q => ⟨fun z hz => (List.mem_append.1 hz).elim (hpre z) (fun e => by rw [List.mem_singleton.1 e]; exact g1), q⟩) ?_
   refine go_back () trivial zM zM trivial (by decide)
  intro g1
  (try simp only [dcs, ne_eq] at g1)
  refine zS 2 ?_
  refine zR 1 ?_
  refine go_fold [mapO bm .u32 m] (onesO bm (xs.flatMap fun y => vars y.1)) zM (fun _ _ q => ⟨m, hm, q⟩) ?_
  refine go_fold [onesO bm (xs.flatMap fun y => vars y.1), pt bR 4 [.bool false]] (badO bm bR (xs.flatMap fun y => vars y.1) (pre ++ [x])) zM (fun _ _ q => ⟨⟨x, List.mem_append_right _ (.head _), g1⟩, q⟩) ?_
  refine go_stop zM
 ·skip
  refine go_good (xs := ys) zM (fun hall => ?_)
  refine go_ones (b := bm) zM (fun m hm => ?_)
  refine zL 3 ?_
  refine zL 1 ?_
  refine zC3 0 (safeHeld1 bM bm m _ hm c.h CA cc hh) ?_
  refine zS 0 ?_
  refine zE 1 [2] ?_
  refine go_retN (.mark (.mark .base hdj) hdj2) ⟨rfl, rfl⟩ _ _ (res1 (by rfl) (.cell rfl (rdv Tk rfl))) ⟨congrArg Value.bool (by rw [held_eq hxs hys, show (ys.all fun y => okA (xs.flatMap fun y => vars y.1) y.1) = true from List.all_eq_true.2 hall, Bool.true_and]; rfl), rfl, rfl⟩ zM zM
 ·skip
  refine go_bad (xs := ys) zM (fun hbad => ?_)
  refine go_retN (.mark (.mark .base hdj) hdj2) ⟨rfl, rfl⟩ _ _ (res1 (by rfl) (.cell rfl (rdv Tk rfl))) ⟨congrArg Value.bool (held_bad hxs hys hbad).symm, rfl, rfl⟩ zM zM
theorem safeRight (A : Option Addr) (c : Nat) (l : List Cl) :
    Spec Tryz.prog 58 #[.slice A l.length c] [sl tCl A c l] [] (fun v Ps' Os' => v = .tuple #[.int .i64 (rightC l).1, .int .i64 (rightC l).2] ∧ Ps' = [] ∧ Os' = []) := by
 refine zSp _ Tryz.func58 Tryz.ntmps58 (fun _ _ _ => ?_)
 refine zR 7 ?_
 refine go_len (xs := l) zM (fun l0 m0 => ?_)
 refine zD 5 ?_ ?_
 ·intro h1
  refine zT 5 rfl ⟨by unfold rightC; rw [if_pos (by omega)], rfl, rfl⟩
 intro h1
 refine zR 3 ?_
 refine go_makemap (kk := .u32) rfl rfl rfl zH ?_
 intro bm
 refine zR 10 ?_
 refine go_loop' (X := Nat × List (Int × Value) × Lens) (fun x => [(13, .int .i64 (x.1 : Int))]) [(4, _), (11, _), (12, _)] (fun x => [mapO bm .u32 x.2.1]) (fun x => x.1 ≤ l.length ∧ Lens.Is x.2.1 x.2.2 ∧ rightF (fun _ => none) l 0 = rightF x.2.2 (l.drop x.1) x.1) (fun x => l.length - x.1) ((0, [], fun _ => none)) zA zM ⟨by omega, Lens.Is.nil, rfl⟩ ?_
 intro ⟨k, m, L⟩ ⟨hk, hm, hz⟩
 simp only at hk hm hz ⊢
 refine zD' 5 ?_ ?_
 ·intro hq1
  refine zT 6 rfl ⟨by unfold rightC; rw [if_neg (by omega), hz, List.drop_eq_nil_of_le (by omega)]; rfl, rfl, rfl⟩
 intro hq1
 refine zR 4 ?_
 refine go_elem_cl (xs := l) zM (k) (List.getElem?_eq_getElem (by omega)) (fun b0 o0 A0 c0 B0 d0 hA => ?_); cases hA
 refine zI 2 ?_
 refine zL 0 ?_
 refine zW 0 ?_
 intro bt
 refine zS 1 ?_
 refine zR 1 ?_
 refine go_freeze_pt (b := bt) zM ?_
 refine zL 3 ?_
 refine zC3 0 (may l[k] A0 c0 B0 d0) ?_
 refine zB 3 ?_ ?_
 ·intro g1
  (try simp only [dcs, ne_eq] at g1)
  refine zE 6 [2, 3] ?_
  refine zT 0 rfl ⟨by unfold rightC; rw [if_neg (by omega), hz, right_bad (by omega) (by rw [show badC L l[k] = 8 by unfold badC; rw [if_pos g1]]; decide), show badC L l[k] = 8 by unfold badC; rw [if_pos g1]], rfl, rfl⟩
 intro g1
 (try simp only [dcs, ne_eq] at g1)
 refine zL 2 ?_
 refine zC3 0 (safeHeld l[k] A0 c0 B0 d0 (may_len g1).1 (may_len g1).2) ?_
 refine zB 3 ?_ ?_
 ·intro g2
  (try simp only [dcs, ne_eq] at g2)
  refine zE 6 [2, 3] ?_
  refine zT 0 rfl ⟨by unfold rightC; rw [if_neg (by omega), hz, right_bad (by omega) (by rw [show badC L l[k] = 10 by unfold badC; rw [if_neg (by rw [g1]; decide), if_pos g2]]; decide), show badC L l[k] = 10 by unfold badC; rw [if_neg (by rw [g1]; decide), if_pos g2]], rfl, rfl⟩
 intro g2
 (try simp only [dcs, ne_eq] at g2)
 refine zL 3 ?_
 refine zC 0 (safeClause bm m L hm l[k] A0 c0 B0 d0) ?_
 rintro _ _ _ ⟨m1, hm1, rfl, rfl, rfl⟩
 refine zE 3 [4, 5, 11, 12, 13, 28] ?_
 refine zB' 0 ?_ ?_
 ·intro g3
  (try simp only [dcs, ne_eq] at g3)
  refine zR 7 ?_
  refine zi 13 ?_
  refine zz (k + 1, m1, (clauseL L l[k]).2) ⟨by show k + 1 ≤ _; omega, hm1, hz.trans (right_ok (by omega) (by unfold badC; rw [if_neg (by rw [g1]; decide), if_neg (by rw [g2]; decide), if_neg (by rw [g3]; decide)]))⟩ (by show l.length - (k + 1) < l.length - k; omega)
 intro g3
 (try simp only [dcs, ne_eq] at g3)
 refine zT 6 rfl ⟨by unfold rightC; rw [if_neg (by omega), hz, right_bad (by omega) (by rw [show badC L l[k] = 9 by unfold badC; rw [if_neg (by rw [g1]; decide), if_neg (by rw [g2]; decide), if_pos g3]]; decide), show badC L l[k] = 9 by unfold badC; rw [if_neg (by rw [g1]; decide), if_neg (by rw [g2]; decide), if_pos g3]], rfl, rfl⟩
theorem buildA_val {C : Ctx} {E : Env} {Ps : List PA} {Os : List OA} {tb : TB} (ht : TOk C.P tb) {o : Oper} {t e n : Nat} {parts : Array (Nat × Operand)} {s1 : Nat} {a1 : Bool} {z1 : Value} {y1 : Nat} {i : TI} {cs : List Value} (ho : o.op = .build t parts) (hi : lookT tb t = some ⟨.array n e, s1, a1, z1, y1⟩) (he : lookT tb e = some i) (hc : bcells i.size E 0 parts.toList = some cs) (hl : Nat.beq cs.length (cellsL z1).length = true) :
    ∀ a w hp ho, Fits C.N E a → Sat w hp ho Ps Os → (execOp a.eval o).run C.P w = .ok (.value (.agg cs.toArray)) w := fun a w hp ho' hf hs => by
  obtain ⟨x, q1, q2, q3, q4⟩ := (ht _ _ hi).info
  obtain ⟨x2, r1, r2, r3, r4⟩ := (ht _ _ he).info
  have hu := (ht _ _ hi).u
  obtain ⟨out, h1, h2⟩ := fill_run hf parts.toList 0 cs z1.cells [] z1.cells.toList [] hc (by simp) (by simp) (by rw [cellsL_eq]; simpa using (Nat.eq_of_beq_eq_true hl).symm)
  have hout : out = cs.toArray := by apply Array.ext'; simpa using h2
  subst hout
  have hb : C.P.built t (parts.map fun (i, x) => (i, a.eval x)).toList = some cs.toArray := by
    unfold Program.built
    simp only [q1, hu, q2, r1, r3, Array.toList_map]
    exact h1
  have := run_build w t (parts.map fun (i, x) => (i, a.eval x)) _ hb
  simp [execOp, ho, this]
theorem stratPreds (l : List Cl) (LA : Option Addr) (lc : Nat) (hl : l.length ≤ 400) (hb : ∀ c ∈ l, c.b.length ≤ 8) :
    Spec Tryz.prog 100 #[.slice LA l.length lc] [sl tCl LA lc l] [] (fun v Ps' Os' => ∃ A c all, Preds all l ∧ all.length ≤ 3600 ∧ v = .slice A all.length c ∧ Ps' = [sl tU A c all] ∧ Os' = []) := by
 refine zSp _ Tryz.func100 Tryz.ntmps100 (fun _ _ _ => ?_)
 refine zR 1 ?_
 have hpl := predL_len hb
 refine go_len (xs := l) zM (fun l0 m0 => ?_)
 refine zR 9 ?_
 refine go_own_nil tU 26 none ?_
 refine go_same (B := ol tU 26 none 0 (predL (l.take (0)))) .here rfl ?_
 refine zR 6 ?_
 refine zO (X := Nat × Option Addr × Nat) (fun x => [(3, .slice x.2.1 (predL (l.take (x.1))).length x.2.2), (10, .int .i64 (x.1 : Int))]) [8, 9] (fun x => [ol tU 26 x.2.1 x.2.2 (predL (l.take (x.1)))]) (fun x => x.1 ≤ l.length) (fun x => l.length - x.1) (0, none, 0) (Nat.zero_le _) ?_
 intro ⟨k, A1, c1⟩ hk
 simp only at hk ⊢
 have hpk := predL_len (l := l.take k) (fun c hc => hb c (List.mem_of_mem_take hc))
 rw [List.length_take] at hpk
 refine zD' 5 ?_ ?_
 ·intro hq1
  refine zR 2 ?_
  have hkl : l.take k = l := List.take_of_length_le (by omega)
  rw [hkl]
  refine zC 2 (sortUf A1 c1 (predL l) (by omega)) ?_
  rintro _ _ _ ⟨m, hm, rfl, rfl, rfl⟩
  rw [← hm.length_eq]
  refine zC 4 (compactU A1 c1 m (by have := hm.length_eq; omega)) ?_
  rintro _ _ _ ⟨m2, hm2, hm3, rfl, rfl, rfl⟩
  refine zR 2 ?_
  refine go_freeze_ol (xs := m2) zM ?_
  refine zT 0 rfl ⟨A1, c1, m2, fun p => by rw [hm2, hm.mem_iff]; unfold predL; rw [List.mem_map], by have := hm.length_eq; omega, rfl, rfl, rfl⟩
 intro hq1
 refine zR 4 ?_
 refine go_elem_cl (xs := l) zM (k) (List.getElem?_eq_getElem (by omega)) (fun b0 o0 A0 c0 B0 d0 hA => ?_); cases hA
 have hbk := hb l[k] (List.getElem_mem _)
 refine zI 1 ?_
 refine zL 0 ?_
 refine zW 0 ?_
 intro bC
 refine zS 0 ?_
 refine zL 6 ?_
 refine zV 0 ?_
 intro b1
 refine go_append1 (T := tU) (xs := predL (l.take (k))) Tk (l[k].h.p) rfl rfl rfl rfl rfl rfl rfl rfl rfl zM zM rfl ent_int (by omega) zH ?_
 intro A3 c3
 refine zR 3 ?_
 refine go_same (A := ol tU 26 A3 c3 (predL (l.take (k)) ++ [l[k].h.p])) (B := ol tU 26 A3 c3 (predL (l.take k) ++ l[k].h.p :: ((l[k].b.take (0)).map fun x => x.a.p))) zM rfl ?_
 refine go_re 3 (.slice A3 (predL (l.take k) ++ l[k].h.p :: ((l[k].b.take (0)).map fun x => x.a.p)).length c3) rfl ?_
 refine zL 2 ?_
 refine zR 4 ?_
 refine zO (X := Nat × Option Addr × Nat) (fun x => [(3, .slice x.2.1 (predL (l.take k) ++ l[k].h.p :: ((l[k].b.take (x.1)).map fun x => x.a.p)).length x.2.2), (23, .int .i64 (x.1 : Int))]) [8, 9, 10, 21, 22] (fun x => [ol tU 26 x.2.1 x.2.2 (predL (l.take k) ++ l[k].h.p :: ((l[k].b.take (x.1)).map fun x => x.a.p))]) (fun x => x.1 ≤ l[k].b.length) (fun x => l[k].b.length - x.1) (0, A3, c3) (Nat.zero_le _) ?_
 intro ⟨j, A4, c4⟩ hj
 simp only at hj ⊢
 refine zD' 5 ?_ ?_
 ·intro hq2
  refine zR 6 ?_
  refine go_i64n 10 (k + 1) rfl ?_
  have hjl : l[k].b.take j = l[k].b := List.take_of_length_le (by omega)
  rw [show predL (l.take k) ++ l[k].h.p :: ((l[k].b.take (j)).map fun x => x.a.p) = predL (l.take (k + 1)) by rw [hjl, predL_next]]
  refine zz (k + 1, A4, c4) (by show k + 1 ≤ _; omega) (by show l.length - (k + 1) < l.length - k; omega)
 intro hq2
 refine zR 4 ?_
 refine go_elem_li (xs := l[k].b) zM (j) (List.getElem?_eq_getElem (by omega)) (fun b1 o1 A9 c9 hA => ?_); cases hA
 refine zI 1 ?_
 refine zL 0 ?_
 refine zW 0 ?_
 intro bL
 refine zS 0 ?_
 refine zL 5 ?_
 refine zV 0 ?_
 intro b2
 refine go_append1 (T := tU) (xs := predL (l.take k) ++ l[k].h.p :: ((l[k].b.take (j)).map fun x => x.a.p)) Tk (l[k].b[j].a.p) rfl rfl rfl rfl rfl rfl rfl rfl rfl zM zM rfl ent_int (by simp only [List.length_append, List.length_cons, List.length_map, List.length_take]; omega) zH ?_
 intro A5 c5
 refine zR 7 ?_
 refine go_i64n 23 (j + 1) rfl ?_
 rw [show predL (l.take k) ++ l[k].h.p :: ((l[k].b.take (j)).map fun x => x.a.p) ++ [l[k].b[j].a.p] = predL (l.take k) ++ l[k].h.p :: ((l[k].b.take (j + 1)).map fun x => x.a.p) by rw [List.take_succ_eq_append_getElem (show j < l[k].b.length by omega), List.map_append, List.append_assoc]; rfl]
 refine zz (j + 1, A5, c5) (by show j + 1 ≤ _; omega) (by show _ - (j + 1) < _ - j; omega)
theorem stratEdges (l : List Cl) (LA : Option Addr) (lc : Nat) (hl : l.length ≤ 400) (hb : ∀ c ∈ l, c.b.length ≤ 8) (all : List Int) (AA : Option Addr) (ac : Nat) :
    Spec Tryz.prog 101 #[.slice LA l.length lc, .slice AA all.length ac] [sl tCl LA lc l, sl tU AA ac all] [] (fun v Ps' Os' => ∃ A c, v = .slice A (edL all l).length c ∧ Ps' = [sl tEg A c (edL all l)] ∧ Os' = []) := by
 refine zSp _ Tryz.func101 Tryz.ntmps101 (fun _ _ _ => ?_)
 refine zR 1 ?_
 refine go_len (xs := l) zM (fun l0 m0 => ?_)
 refine go_len (xs := all) zM (fun l1 m1 => ?_)
 refine zR 5 ?_
 refine go_makemap (kk := .u32) rfl rfl rfl zH ?_
 intro bM
 refine zR 10 ?_
 refine zO (X := Nat × List (Int × Value)) (fun x => [(16, .int .i64 (x.1 : Int))]) [0, 5, 14, 15] (fun x => [mapO bM .u32 x.2]) (fun x => x.1 ≤ all.length ∧ ∀ p, mget x.2 p = (lastTo all p x.1).map fun i : Nat => Value.int .i64 (i : Int)) (fun x => all.length - x.1) (0, []) ⟨Nat.zero_le _, fun p => rfl⟩ ?_
 intro ⟨k, mm⟩ ⟨hk, hmm⟩
 simp only at hk hmm ⊢
 refine zD 5 ?_ ?_
 ·intro hq1
  refine zR 4 ?_
  refine go_elem_int (xs := all) zM (k) (List.getElem?_eq_getElem (by omega)) (fun b0 o0 hA => ?_); cases hA
  refine zI 2 ?_
  refine zL 0 ?_
  refine zR 7 ?_
  refine go_mset (b := bM) (m := mm) Tk rfl rfl rfl rfl rfl rfl rfl rfl zM zF ?_
  refine zR 6 ?_
  refine go_i64n 16 (k + 1) rfl ?_
  refine go_back (k + 1, _) zA zM zM (⟨by show k + 1 ≤ _; omega, mset_last (by omega) hmm⟩) (by show _ - (k + 1) < _ - k; omega)
 intro hq1
 refine zR 2 ?_
 obtain rfl : k = all.length := by omega
 refine zR 10 ?_
 refine go_own_nil tEg 164 none ?_
 refine go_same (B := ol tEg 164 none 0 (edL all (l.take (0)))) .here rfl ?_
 refine zR 1 ?_
 refine zO (X := Nat × Option Addr × Nat) (fun x => [(8, .slice x.2.1 (edL all (l.take (x.1))).length x.2.2), (27, .int .i64 (x.1 : Int))]) [5, 25, 26] (fun x => [ol tEg 164 x.2.1 x.2.2 (edL all (l.take (x.1)))]) (fun x => x.1 ≤ l.length) (fun x => l.length - x.1) (0, none, 0) (Nat.zero_le _) ?_
 intro ⟨k, A1, c1⟩ hk
 simp only at hk ⊢
 have hpk := edL_len (all := all) (l := l.take k) (fun c hc => hb c (List.mem_of_mem_take hc))
 rw [List.length_take] at hpk
 refine zD' 5 ?_ ?_
 ·intro hq2
  refine zR 2 ?_
  have hkl : l.take k = l := List.take_of_length_le (by omega)
  rw [hkl]
  refine go_freeze_ol (xs := edL all l) zM ?_
  refine zT 4 rfl ⟨A1, c1, rfl, rfl, rfl⟩
 intro hq2
 refine zR 4 ?_
 refine go_elem_cl (xs := l) zM (k) (List.getElem?_eq_getElem (by omega)) (fun b0 o0 A0 c0 B0 d0 hA => ?_); cases hA
 have hbk := hb l[k] (List.getElem_mem _)
 refine zI 1 ?_
 refine zL 0 ?_
 refine zW 0 ?_
 intro bC
 refine zS 0 ?_
 refine zR 2 ?_
 refine go_same (A := ol tEg 164 A1 c1 (edL all (l.take (k)))) (B := ol tEg 164 A1 c1 (edL all (l.take k) ++ ((l[k].b.take (0)).map fun x => (ix all l[k].h.p, ix all x.a.p, x.no)))) zM (by rw [show edL all (l.take k) ++ ((l[k].b.take (0)).map fun x => (ix all l[k].h.p, ix all x.a.p, x.no)) = edL all (l.take (k)) by simp]) ?_
 refine go_re 8 (.slice A1 (edL all (l.take k) ++ ((l[k].b.take (0)).map fun x => (ix all l[k].h.p, ix all x.a.p, x.no))).length c1) (by rw [show edL all (l.take k) ++ ((l[k].b.take (0)).map fun x => (ix all l[k].h.p, ix all x.a.p, x.no)) = edL all (l.take (k)) by simp]; rfl) ?_
 refine zL 2 ?_
 refine zR 4 ?_
 refine zO (X := Nat × Option Addr × Nat) (fun x => [(8, .slice x.2.1 (edL all (l.take k) ++ ((l[k].b.take (x.1)).map fun x => (ix all l[k].h.p, ix all x.a.p, x.no))).length x.2.2), (34, .int .i64 (x.1 : Int))]) [5, 10, 25, 26, 27, 32, 33] (fun x => [ol tEg 164 x.2.1 x.2.2 (edL all (l.take k) ++ ((l[k].b.take (x.1)).map fun x => (ix all l[k].h.p, ix all x.a.p, x.no)))]) (fun x => x.1 ≤ l[k].b.length) (fun x => l[k].b.length - x.1) (0, A1, c1) (Nat.zero_le _) ?_
 intro ⟨j, A4, c4⟩ hj
 simp only at hj ⊢
 refine zD' 5 ?_ ?_
 ·intro hq3
  refine zR 6 ?_
  refine go_i64n 27 (k + 1) rfl ?_
  have hjl : l[k].b.take j = l[k].b := List.take_of_length_le (by omega)
  rw [show edL all (l.take k) ++ ((l[k].b.take (j)).map fun x => (ix all l[k].h.p, ix all x.a.p, x.no)) = edL all (l.take (k + 1)) by rw [hjl, edL_next (by omega)]; rfl]
  refine zz (k + 1, A4, c4) (by show k + 1 ≤ _; omega) (by show l.length - (k + 1) < l.length - k; omega)
 intro hq3
 refine zR 4 ?_
 refine go_elem_li (xs := l[k].b) zM (j) (List.getElem?_eq_getElem (by omega)) (fun b1 o1 A9 c9 hA => ?_); cases hA
 refine zI 1 ?_
 refine zL 0 ?_
 refine zW 0 ?_
 intro bL
 refine zS 0 ?_
 refine zL 6 ?_
 refine go_val0 rfl (lookup_val (b := bM) (m := mm) (v := .int .i64 (ix all l[k].h.p : Int)) Tk rfl rfl rfl rfl rfl rfl zM (by rw [if_neg (by decide)]; exact mget_ix hmm l[k].h.p)) rfl ?_
 refine zL 3 ?_
 refine go_val0 rfl (lookup_val (b := bM) (m := mm) (v := .int .i64 (ix all l[k].b[j].a.p : Int)) Tk rfl rfl rfl rfl rfl rfl zM (by rw [if_neg (by decide)]; exact mget_ix hmm l[k].b[j].a.p)) rfl ?_
 refine zL 1 ?_
 refine zq 0 ?_
 refine zV 0 ?_
 intro b1
 refine go_append1 (T := tEg) (xs := edL all (l.take k) ++ ((l[k].b.take (j)).map fun x => (ix all l[k].h.p, ix all x.a.p, x.no))) Tk ((ix all l[k].h.p, ix all l[k].b[j].a.p, l[k].b[j].no)) rfl rfl rfl rfl rfl rfl rfl rfl rfl zM zM rfl ent_Eg (by simp only [List.length_append, List.length_map, List.length_take]; omega) zH ?_
 intro A5 c5
 refine zE 2 [5, 8, 10, 25, 26, 27, 32, 33, 34] ?_
 refine zR 5 ?_
 refine go_i64n 34 (j + 1) rfl ?_
 rw [show edL all (l.take k) ++ ((l[k].b.take (j)).map fun x => (ix all l[k].h.p, ix all x.a.p, x.no)) ++ [(ix all l[k].h.p, ix all l[k].b[j].a.p, l[k].b[j].no)] = edL all (l.take k) ++ ((l[k].b.take (j + 1)).map fun x => (ix all l[k].h.p, ix all x.a.p, x.no)) by rw [List.take_succ_eq_append_getElem (show j < l[k].b.length by omega), List.map_append, List.append_assoc]; rfl]
 refine zz (j + 1, A5, c5) (by show j + 1 ≤ _; omega) (by show _ - (j + 1) < _ - j; omega)
end Go.Proofs.YtdconhalfanclaaGreat.SL
namespace Go.Proofs.YtdconhalfanclaaGreat.SL
open Go Md
theorem may_body {c : Cl} (h : mayC c = true) : c.b.length ≤ 8 := by
  unfold mayC at h; simp only [Bool.and_eq_true, decide_eq_true_eq] at h; exact h.1
theorem toNat_le1 (b : Bool) : b.toNat ≤ 1 := by cases b <;> decide
theorem parts_len {E : Nat → List Nat} {n : Nat} {ps : List (List Nat)} (h : PartsOK E n ps) : ps.length ≤ n := by
  have h1 : ∀ (l : List (List Nat)), (∀ p ∈ l, p ≠ []) → l.length ≤ l.flatten.length := fun l => by
    induction l with
    | nil => intro _; exact Nat.le_refl _
    | cons p l ih =>
      intro hp
      have h2 := ih (fun q hq => hp q (.tail _ hq))
      have h3 := List.length_pos_iff.2 (hp p (.head _))
      rw [List.flatten_cons, List.length_append, List.length_cons]; omega
  have h2 := nodup_lenN h.nd (b := List.range n) (fun x hx => List.mem_range.2 ((h.cover x).1 hx))
  rw [List.length_range] at h2
  exact Nat.le_trans (h1 ps h.ne) h2
theorem outs_en (es : List (Nat × Nat × Bool)) : outsP (en es) = Lv.outs es := by
  funext v; unfold outsP en Lv.outs; rw [List.filter_map, List.map_map]; rfl
theorem max_cast (a b : Nat) : (if (a : Int) < (b : Int) then (b : Int) else (a : Int)) = ((max a b : Nat) : Int) := by split <;> omega
set_option maxHeartbeats 8000000 in
theorem stratLevels (l : List Cl) (LA : Option Addr) (lc : Nat) :
    Spec Tryz.prog 62 #[.slice LA l.length lc] [sl tCl LA lc l] [] (fun v Ps' Os' => ∃ A c ls e, LvR l ls e ∧ v = .tuple #[.slice A ls.length c, .int .i64 e] ∧ Ps' = [sl tLv A c ls] ∧ Os' = []) := by
 refine zSp _ Tryz.func62 Tryz.ntmps62 (fun _ _ _ => ?_)
 refine zR 5 ?_
 refine go_scope rfl (fun _ _ _ h => h) ?_
 refine zC3 4 (safeRight LA lc l) ?_
 refine zN 11 ?_ ?_
 ·intro g1
  refine go_sl_nil tLv ?_
  refine zT 6 rfl ⟨none, 0, [], _, .bad g1, rfl, rfl, rfl⟩
 intro g1
 have hri := rightC_iff.1 g1
 have hl := hri.1
 have hb : ∀ c ∈ l, c.b.length ≤ 8 := fun c hc => may_body (hri.2.1 c hc).1
 refine zC 4 (stratPreds l LA lc hl hb) ?_
 rintro _ _ _ ⟨AA, ac, all, hpr, hal, rfl, rfl, rfl⟩
 refine zE 2 [0, 6] ?_
 refine zC 4 (stratEdges l LA lc hl hb all AA ac) ?_
 rintro _ _ _ ⟨EA, ec, rfl, rfl, rfl⟩
 have hel := edL_len (all := all) hb
 have hed : ∀ e ∈ (edL all l), e.1 < all.length ∧ e.2.1 < all.length := fun e he => ed_lt hpr he
 refine go_len (xs := all) zM (fun la ma => ?_)
 refine go_len (xs := (edL all l)) zM (fun le me => ?_)
 refine zR 10 ?_
 refine go_make (tRw (Nat × Nat × Bool)) ⟨none, 0, []⟩ all.length Tk rfl rfl rfl rfl rfl rfl rfl rfl rfl (fun _ => rfl) (by omega) zH ?_
 intro bY
 refine go_inn_reps tEg 164 all.length ?_
 refine go_own_nil tSn 165 none ?_
 refine zR 10 ?_
 refine go_loop' (X := Nat × Option Addr × Nat × List (Rw (Nat × Nat × Bool))) (fun x => [(8, .slice x.2.1 (en ((edL all l).take x.1)).length x.2.2.1), (50, .int .i64 (x.1 : Int))]) [(6, _), (9, _), (48, _), (49, _)] (fun x => [ol tSn 165 x.2.1 x.2.2.1 (en ((edL all l).take (x.1))), ol (tRw (Nat × Nat × Bool)) 159 (some ⟨bY, 0, none⟩) all.length (x.2.2.2), inn tEg 164 (x.2.2.2)]) (fun x => x.1 ≤ (edL all l).length ∧ x.2.2.2.length = all.length ∧ ∀ v, v < all.length → rowG x.2.2.2 v = fe ((edL all l).take x.1) v) (fun x => (edL all l).length - x.1) ((0, none, 0, _)) zA zM ⟨Nat.zero_le _, List.length_replicate .., fun v hv => by rw [rowG, List.getElem?_replicate, if_pos hv]; rfl⟩ ?_
 intro ⟨k, A1, c1, R⟩ ⟨hk, hRl, hRr⟩
 simp only at hk hRl hRr ⊢
 refine zD 5 ?_ ?_
 ·intro g2
  obtain ⟨⟨a, b, nt⟩, hek⟩ : ∃ e, (edL all l)[k]? = some e := ⟨_, List.getElem?_eq_getElem (by omega)⟩
  have hek' : (edL all l)[k]'(by omega) = (a, b, nt) := (List.getElem?_eq_some_iff.1 hek).2
  have hab := hed (a, b, nt) (List.mem_of_getElem? hek)
  simp only at hab
  refine zR 4 ?_
  refine go_elem_Eg (R := (edL all l)) zM k hek (fun b1 o1 hA1 => ?_); cases hA1
  simp only
  refine zI 1 ?_
  refine zL 0 ?_
  refine zW 0 ?_
  intro bE
  refine zS 0 ?_
  refine zL 5 ?_
  refine zL 1 ?_
  refine go_val0 rfl (buildA_val Tk rfl rfl rfl rfl rfl) rfl ?_
  refine zV 0 ?_
  intro b1
  refine go_append1 (T := tSn) (xs := en ((edL all l).take k)) Tk ((a, b)) rfl rfl rfl rfl rfl rfl rfl rfl rfl zM zM rfl ent_Sn (by unfold en; rw [List.length_map, List.length_take]; omega) zH ?_
  intro A3 c3
  rw [show en ((edL all l).take k) ++ [(a, b)] = en ((edL all l).take (k + 1)) by rw [List.take_succ_eq_append_getElem (show k < (edL all l).length by omega), hek']; simp [en]]
  refine zR 2 ?_
  obtain ⟨⟨yA, yc, yl⟩, hy⟩ : ∃ y, R[a]? = some y := ⟨_, List.getElem?_eq_getElem (by omega)⟩
  have hly : rowG R a = yl := rowG_at hy
  have hyl : yl.length ≤ 3200 := by rw [← hly, hRr a hab.1]; unfold fe; have h1 := List.length_filter_le (fun e : Nat × Nat × Bool => e.1 == a) ((edL all l).take k); rw [List.length_take] at h1; omega
  refine go_inn_out a hy zM ?_
  refine go_draw ([]) ([ol (tRw (Nat × Nat × Bool)) 159 (some ⟨bY, 0, none⟩) all.length (R), pt bE 164 [.int .i64 (a : Int), .int .i64 (b : Int), .bool nt]]) [2, 5, 7, 8] (SL.pre [(1, 0), (1, 1), (1, 3), (1, 4), (2, 2), (2, 5), (1, 6), (2, 7), (2, 8), (0, 9), (0, 10), (1, 11), (0, 12)] .nil) mixed rfl (by kernel_rfl) ?_
  refine zK 4 ?_
  refine zK 0 ?_
  refine zI 0 ?_
  refine go_val2a rfl (load_val (cs := fcRw ⟨yA, yc, yl⟩) Tk rfl rfl rfl (at_ol fcRw tRw_fc 0 (xs := R) (j := a) zM hy rfl) rfl) rfl ?_
  refine zK 0 ?_
  refine go_bslice Tk rfl rfl rfl rfl rfl rfl rfl rfl (fun _ _ => satA) ?_
  intro b2
  refine go_append1 (T := tEg) (xs := yl) Tk ((a, b, nt)) rfl rfl rfl rfl rfl rfl rfl rfl rfl zM zM rfl ent_Eg (by omega) zH ?_
  intro A4 c4
  refine zI 0 ?_
  refine zSE 0 (tRw (Nat × Nat × Bool)) R a (⟨A4, c4, yl ++ [(a, b, nt)]⟩ : Rw (Nat × Nat × Bool)) ent_Rw ?_
  refine go_inn_in (R := R) ⟨A4, c4, yl ++ [(a, b, nt)]⟩ a (by omega) zM ?_
  refine zE 1 [6, 8, 9, 48, 49, 50] ?_
  refine zR 5 ?_
  refine go_i64n 50 (k + 1) rfl ?_
  refine zz (k + 1, A3, c3, R.set a ⟨A4, c4, yl ++ [(a, b, nt)]⟩) (⟨by show k + 1 ≤ _; omega, by rw [List.length_set]; exact hRl, fun v hv => by
    rw [rowG_set _ (by omega), List.take_succ_eq_append_getElem (show k < (edL all l).length by omega), hek', fe_snoc]
    by_cases e : v = a
    · subst e; rw [if_pos rfl, if_pos rfl, ← hRr v hv, hly]
    · rw [if_neg e, if_neg e]; exact hRr v hv⟩) (by show _ - (k + 1) < _ - k; omega)
 intro g2
 refine zR 2 ?_
 have hke : (edL all l).take k = (edL all l) := List.take_of_length_le (by omega)
 rw [hke]
 rw [hke] at hRr
 refine go_freeze_ol (xs := en (edL all l)) zM ?_
 refine go_freeze_oo (T := tEg) (R := R) zM ?_
 have henl : (en (edL all l)).length = (edL all l).length := by simp [en]
 refine zC 4 (graphParts all.length A1 c1 (en (edL all l)) (by omega) (by omega) (fun e he => by obtain ⟨x, hx, rfl⟩ := List.mem_map.1 he; exact hed x hx)) ?_
 rintro _ _ _ ⟨Ap, cp, ps, hps, rfl, rfl, rfl⟩
 rw [outs_en] at hps
 have hplt : ∀ p ∈ ps, ∀ u ∈ p, u < all.length := fun p hp u hu => (hps.cover u).1 (List.mem_flatten.2 ⟨p, hp, hu⟩)
 have hpsl : ps.length ≤ all.length := parts_len hps
 refine zE 6 [6, 9, 12, 13] ?_
 refine zR 5 ?_
 refine go_re 83 (.bool false) (by show some (Value.bool _) = _; rfl) ?_
 refine zDf 1 ?_
 refine zR 2 ?_
 refine zU (X := Nat × Nat) (fun x => [(14, .slice (some ⟨x.1, 0, none⟩) all.length all.length), (15, .slice (some ⟨x.2, 0, none⟩) all.length all.length)]) [6, 9, 12] (fun x => [ol (tInt .i64) 3 (some ⟨x.1, 0, none⟩) all.length (List.replicate all.length 0), ol (tInt .i64) 3 (some ⟨x.2, 0, none⟩) all.length (List.replicate all.length 0)]) ([]) (fun _ => True) ?_ ?_
 ·skip
  refine go_draw'  [] (SL.pre [(1, 0), (1, 1), (1, 3), (1, 4)] (.two (SL.pre [(0, 2), (1, 6), (0, 5), (1, 7)] .nil) (SL.pre [(0, 5), (0, 2), (1, 6), (1, 7)] .nil))) mixed rfl (by kernel_rfl) ?_
  refine zR 4 ?_
  refine go_two ?_ ?_
  ·skip
   refine go_make (tInt .i64) 0 all.length Tk rfl rfl rfl rfl rfl rfl rfl rfl rfl (fun _ => rfl) (by omega) zQ ?_
   intro bL
   refine zR 1 ?_
   refine go_make (tInt .i64) 0 all.length Tk rfl rfl rfl rfl rfl rfl rfl rfl rfl (fun _ => rfl) (by omega) zQ ?_
   intro bO
   refine zR 2 ?_
   refine zz (bL, bO) (trivial) (by decide)
  refine go_make (tInt .i64) 0 all.length Tk rfl rfl rfl rfl rfl rfl rfl rfl rfl (fun _ => rfl) (by omega) zQ ?_
  intro bO
  refine go_make (tInt .i64) 0 all.length Tk rfl rfl rfl rfl rfl rfl rfl rfl rfl (fun _ => rfl) (by omega) zQ ?_
  intro bL
  refine zR 3 ?_
  refine zz (bL, bO) (trivial) (by decide)
 intro ⟨bL, bO⟩ _
 simp only
 rw [show (List.replicate all.length (0 : Int)) = cs (List.replicate all.length 0) by simp [cs]]
 refine zR 14 ?_
 refine zO (X := Nat × List Nat × List Nat) (fun x => [(93, .int .i64 (x.1 : Int))]) [6, 9, 14, 15, 16, 91, 92] (fun x => [ol (tInt .i64) 3 (some ⟨bL, 0, none⟩) all.length (cs (x.2.1)), ol (tInt .i64) 3 (some ⟨bO, 0, none⟩) all.length (cs (x.2.2))]) (fun x => x.1 ≤ ps.length ∧ LI (edL all l) ps all.length x.1 x.2.1 x.2.2) (fun x => ps.length - x.1) (0, List.replicate all.length 0, List.replicate all.length 0) ⟨Nat.zero_le _, LI.start _ _ _⟩ ?_
 intro ⟨k, lev, of⟩ ⟨hk, hLI⟩
 simp only at hk hLI ⊢
 have hlev := hLI.le hps
 refine zD' 5 ?_ ?_
 ·intro g3
  obtain rfl : k = ps.length := by omega
  have hfin := LI.done g1 hpr hLI hps (by omega)
  have hzl : (all.zip lev).length = all.length := by rw [List.length_zip, hLI.ll]; omega
  refine go_own_nil tLv 122 none ?_
  refine zDf 6 ?_
  refine zR 13 ?_
  refine zO (X := Nat × Option Addr × Nat) (fun x => [(29, .slice x.2.1 ((all.zip lev).take x.1).length x.2.2), (166, .int .i64 (x.1 : Int))]) [14, 164, 165] (fun x => [ol tLv 122 x.2.1 x.2.2 ((all.zip lev).take x.1)]) (fun x => x.1 ≤ all.length) (fun x => all.length - x.1) (0, none, 0) (Nat.zero_le _) ?_
  intro ⟨q, A7, c7⟩ hq0
  simp only at hq0 ⊢
  refine zD' 5 ?_ ?_
  ·intro hq5
   refine zR 2 ?_
   rw [List.take_of_length_le (show (all.zip lev).length ≤ q by omega)]
   refine go_freeze_ol (xs := all.zip lev) zM ?_
   refine zT 5 rfl ⟨A7, c7, all.zip lev, 0, hfin, rfl, rfl, rfl⟩
  intro hq5
  refine zR 4 ?_
  refine go_elem_int (xs := all) zM (q) (List.getElem?_eq_getElem (by omega)) (fun b7 o7 hA => ?_); cases hA
  refine zI 2 ?_
  refine zL 0 ?_
  refine zR 3 ?_
  have hcl1 := cs_len lev
  have hll := hLI.ll
  refine zI 5 ?_
  refine go_val0 rfl (load_val (cs := [.int .i64 (gl lev q : Int)]) Tk rfl rfl rfl (at_ol (fun y : Int => [.int .i64 y]) fc_int 0 (xs := cs (lev)) (j := q) zM (cs_get (gl_at (show q < lev.length by omega))) rfl) rfl) rfl ?_
  refine zq 0 ?_
  refine zV 0 ?_
  intro b3
  refine go_append1 (T := tLv) (xs := (all.zip lev).take q) Tk ((all[q], gl lev q)) rfl rfl rfl rfl rfl rfl rfl rfl rfl zM zM rfl ent_Lv (by rw [List.length_take]; omega) zH ?_
  intro A8 c8
  refine zE 2 [14, 29, 164, 165, 166] ?_
  refine zR 5 ?_
  refine go_i64n 166 (q + 1) rfl ?_
  rw [show (all.zip lev).take q ++ [(all[q], gl lev q)] = (all.zip lev).take (q + 1) by rw [List.take_succ_eq_append_getElem (show q < (all.zip lev).length by omega), List.getElem_zip]; unfold gl; rw [List.getElem?_eq_getElem (show q < lev.length by rw [hLI.ll]; omega)]; rfl]
  refine zz (q + 1, A8, c8) (by show q + 1 ≤ _; omega) (by show _ - (q + 1) < _ - q; omega)
 intro g3
 obtain ⟨p, hpk⟩ : ∃ p, ps[k]? = some p := ⟨_, List.getElem?_eq_getElem (by omega)⟩
 have hpm := List.mem_of_getElem? hpk
 have hpl := hplt p hpm
 have hcp := cs_len p
 have hll := hLI.ll
 have hol := hLI.ol
 refine zR 4 ?_
 refine go_elem_row (T := tInt .i64) (xss := ps.map cs) zM k (xs := cs p) (by rw [List.getElem?_map, hpk]; rfl) (fun b1 o1 A5 c5 hA1 => ?_); cases hA1
 refine go_len (xs := cs p) zM (fun lp mp => ?_)
 refine zI 2 ?_
 refine zL 0 ?_
 refine zR 5 ?_
 refine go_same (A := ol (tInt .i64) 3 (some ⟨bO, 0, none⟩) all.length (cs (of))) (B := ol (tInt .i64) 3 (some ⟨bO, 0, none⟩) all.length (cs (setN (k + 1) of (p.take 0)))) zM rfl ?_
 refine zR 6 ?_
 refine zO (X := Nat) (fun j => [(100, .int .i64 (j : Int))]) [6, 9, 14, 15, 16, 17, 18, 91, 92, 93, 98, 99] (fun j => [ol (tInt .i64) 3 (some ⟨bO, 0, none⟩) all.length (cs (setN (k + 1) of (p.take j)))]) (fun j => j ≤ p.length) (fun j => p.length - j) 0 (Nat.zero_le _) ?_
 intro j hj
 have hsl := setN_len (k + 1) (p.take j) of
 have hcs := cs_len (setN (k + 1) of (p.take j))
 refine zD 5 ?_ ?_
 ·intro hq1
  refine zR 4 ?_
  obtain ⟨u, hpu⟩ : ∃ u, p[j]? = some u := ⟨_, List.getElem?_eq_getElem (by omega)⟩
  have hpu' : p[j]'(by omega) = u := (List.getElem?_eq_some_iff.1 hpu).2
  have hun := hpl u (List.mem_of_getElem? hpu)
  refine go_elem_int (xs := cs p) zM j (cs_get hpu) (fun b2 o2 hA2 => ?_); cases hA2
  refine zI 1 ?_
  refine zL 0 ?_
  refine zR 7 ?_
  refine go_i64n 107 (k + 1) rfl ?_
  refine zI 0 ?_
  refine zSE 0 (tInt .i64) (cs (setN (k + 1) of (p.take j))) u ((k + 1 : Nat) : Int) ent_int ?_
  refine zR 6 ?_
  refine go_i64n 100 (j + 1) rfl ?_
  refine go_same (B := ol (tInt .i64) 3 (some ⟨bO, 0, none⟩) all.length (cs (setN (k + 1) of (p.take (j + 1))))) .here (by rw [cs_set, List.take_succ_eq_append_getElem (show j < p.length by omega), setN_snoc, hpu']) ?_
  refine zz (j + 1) (by omega) (by omega)
 intro hq1
 refine zR 2 ?_
 rw [List.take_of_length_le (show p.length ≤ j by omega)]
 have hof2 := setN_len (k + 1) p of
 have hofI := hLI.ofIs hpl
 refine zR 11 ?_
 refine zO (X := Nat × Nat) (fun x => [(21, .int .i64 (x.2 : Int)), (112, .int .i64 (x.1 : Int))]) [6, 9, 14, 15, 16, 17, 18, 91, 92, 93, 110, 111] (fun _ => []) (fun x => x.1 ≤ p.length ∧ TI_ (edL all l) p lev (fun e => e ∈ (edL all l) ∧ e.1 ∈ p.take x.1) x.2 ∧ x.2 ≤ 4000) (fun x => p.length - x.1) (0, 0) ⟨Nat.zero_le _, ⟨(fun e h => (nomatch h.2)), (fun e h => (nomatch h.2)), .inl rfl⟩, Nat.zero_le _⟩ ?_
 intro ⟨j2, top⟩ ⟨hj2, hT, htop⟩
 simp only at hj2 hT htop ⊢
 refine zD' 5 ?_ ?_
 ·intro hq2
  refine zR 2 ?_
  refine go_same (A := ol (tInt .i64) 3 (some ⟨bL, 0, none⟩) all.length (cs (lev))) (B := ol (tInt .i64) 3 (some ⟨bL, 0, none⟩) all.length (cs (setN top lev (p.take 0)))) zM rfl ?_
  refine zR 6 ?_
  refine zO (X := Nat) (fun j => [(153, .int .i64 (j : Int))]) [6, 9, 14, 15, 16, 21, 91, 92, 93, 151, 152] (fun j => [ol (tInt .i64) 3 (some ⟨bL, 0, none⟩) all.length (cs (setN top lev (p.take j)))]) (fun j => j ≤ p.length) (fun j => p.length - j) 0 (Nat.zero_le _) ?_
  intro j hj
  have hsl := setN_len top (p.take j) lev
  have hcs := cs_len (setN top lev (p.take j))
  refine zD' 5 ?_ ?_
  ·intro hq4
   refine zR 6 ?_
   refine go_i64n 93 (k + 1) rfl ?_
   rw [List.take_of_length_le (show p.length ≤ j by omega)]
   refine zz (k + 1, setN top lev p, setN (k + 1) of p) (⟨by show k + 1 ≤ _; omega, hLI.next hps hpk (hT.more (fun e he => ⟨he.1, by rw [List.take_of_length_le (by omega)]; exact he.2⟩))⟩) (by show _ - (k + 1) < _ - k; omega)
  intro hq4
  refine zR 4 ?_
  obtain ⟨w, hpw⟩ : ∃ w, p[j]? = some w := ⟨_, List.getElem?_eq_getElem (by omega)⟩
  have hpw' : p[j]'(by omega) = w := (List.getElem?_eq_some_iff.1 hpw).2
  have hwn := hpl w (List.mem_of_getElem? hpw)
  refine go_elem_int (xs := cs p) zM j (cs_get hpw) (fun b6 o6 hA6 => ?_); cases hA6
  refine zI 1 ?_
  refine zL 0 ?_
  refine zI 6 ?_
  refine zSE 0 (tInt .i64) (cs (setN top lev (p.take j))) w (top : Int) ent_int ?_
  refine zR 6 ?_
  refine go_i64n 153 (j + 1) rfl ?_
  refine go_same (B := ol (tInt .i64) 3 (some ⟨bL, 0, none⟩) all.length (cs (setN top lev (p.take (j + 1))))) .here (by rw [cs_set, List.take_succ_eq_append_getElem (show j < p.length by omega), setN_snoc, hpw']) ?_
  refine zz (j + 1) (by omega) (by omega)
 intro hq2
 refine zR 4 ?_
 obtain ⟨v, hpv⟩ : ∃ v, p[j2]? = some v := ⟨_, List.getElem?_eq_getElem (by omega)⟩
 have hpv' : p[j2]'(by omega) = v := (List.getElem?_eq_some_iff.1 hpv).2
 have hvp := List.mem_of_getElem? hpv
 have hvn := hpl v hvp
 refine go_elem_int (xs := cs p) zM j2 (cs_get hpv) (fun b3 o3 hA3 => ?_); cases hA3
 refine zI 1 ?_
 refine zL 0 ?_
 refine zR 3 ?_
 refine go_elem_row (T := tEg) (xss := R.map (·.l)) zM v (xs := fe (edL all l) v) (by rw [rowG_get (by omega), hRr v hvn]) (fun b4 o4 A6 c6 hA4 => ?_); cases hA4
 refine go_len (xs := fe (edL all l) v) zM (fun lf mf => ?_)
 refine zI 3 ?_
 refine zL 0 ?_
 refine zR 4 ?_
 refine zO (X := Nat × Nat) (fun x => [(21, .int .i64 (x.2 : Int)), (121, .int .i64 (x.1 : Int))]) [6, 9, 14, 15, 16, 17, 18, 91, 92, 93, 110, 111, 112, 119, 120] (fun _ => []) (fun x => x.1 ≤ (fe (edL all l) v).length ∧ TI_ (edL all l) p lev (fun e => (e ∈ (edL all l) ∧ e.1 ∈ p.take (j2)) ∨ e ∈ (fe (edL all l) v).take (x.1)) x.2 ∧ x.2 ≤ 4000) (fun x => (fe (edL all l) v).length - x.1) (0, top) ⟨Nat.zero_le _, hT.more (fun e he => he.elim id (fun h => (nomatch h))), htop⟩ ?_
 intro ⟨i, top2⟩ ⟨hi, hT2, htop2⟩
 simp only at hi hT2 htop2 ⊢
 refine zD' 5 ?_ ?_
 ·intro hq3
  refine zR 6 ?_
  refine go_i64n 112 (j2 + 1) rfl ?_
  refine zz (j2 + 1, top2) (⟨by show j2 + 1 ≤ _; omega, hT2.more (fun e he => by
    rw [List.take_succ_eq_append_getElem (show j2 < p.length by omega), hpv', List.mem_append, List.mem_singleton] at he
    rcases he.2 with h | h
    · exact .inl ⟨he.1, h⟩
    · exact .inr (by rw [List.take_of_length_le (by omega)]; exact mem_fe.2 ⟨he.1, h⟩)), htop2⟩) (by show _ - (j2 + 1) < _ - j2; omega)
 intro hq3
 refine zR 4 ?_
 obtain ⟨⟨xa, xb, xn⟩, hxi⟩ : ∃ x, (fe (edL all l) v)[i]? = some x := ⟨_, List.getElem?_eq_getElem (by omega)⟩
 have hxi' : (fe (edL all l) v)[i]'(by omega) = (xa, xb, xn) := (List.getElem?_eq_some_iff.1 hxi).2
 have hxe := (mem_fe.1 (List.mem_of_getElem? hxi)).1
 have hxa : xa = v := (mem_fe.1 (List.mem_of_getElem? hxi)).2
 have hxp : ((xa, xb, xn) : Nat × Nat × Bool).1 ∈ p := by show xa ∈ p; rw [hxa]; exact hvp
 have hxl := hed _ hxe
 simp only at hxl
 have hlb := hlev xb
 have hofb : gl (setN (k + 1) of p) xb ≤ k + 1 := by rw [gl_setN _ _ _ _ (fun x hx => by rw [hol]; exact hpl x hx)]; split <;> first | exact Nat.le_refl _ | exact Nat.le_succ_of_le (hLI.ofk xb)
 have hcl1 := cs_len lev
 have hcl2 := cs_len (setN (k + 1) of p)
 refine go_elem_Eg (R := fe (edL all l) v) zM i hxi (fun b5 o5 hA5 => ?_); cases hA5
 simp only
 refine zI 1 ?_
 refine zL 0 ?_
 refine zW 0 ?_
 intro bX
 refine zS 0 ?_
 refine zL 5 ?_
 refine zI 0 ?_
 refine go_val0 rfl (load_val (cs := [.int .i64 (gl lev xb : Int)]) Tk rfl rfl rfl (at_ol (fun y : Int => [.int .i64 y]) fc_int 0 (xs := cs (lev)) (j := xb) zM (cs_get (gl_at (show xb < lev.length by omega))) rfl) rfl) rfl ?_
 refine zL 6 ?_
 refine zR 1 ?_
 refine zU (X := Nat) (fun y => [(26, .int .i64 (y : Int))]) [6, 9, 14, 15, 16, 17, 18, 21, 25, 91, 92, 93, 110, 111, 112, 119, 120, 121] (fun _ => []) ([]) (fun y => y = gl lev xb + xn.toNat) ?_ ?_
 ·skip
  refine zB' 0 ?_ ?_
  ·intro g5
   refine zR 1 ?_
   refine zz (gl lev xb) (by rw [g5]; rfl) (by decide)
  intro g5
  refine zR 3 ?_
  refine go_i64n 133 (gl lev xb + 1) rfl ?_
  refine zR 2 ?_
  refine zz (gl lev xb + 1) (by rw [g5]; rfl) (by decide)
 intro want hwant
 subst hwant
 refine zR 2 ?_
 refine zP (X := Bool) (fun y => [(145, .bool y)]) [6, 9, 14, 15, 16, 17, 18, 21, 26, 91, 92, 93, 110, 111, 112, 119, 120, 121] (fun y => y = true ↔ (xn = true ∧ xb ∈ p)) ?_ ?_
 ·skip
  refine zL 2 ?_
  refine zG' 1 136 ?_ ?_
  ·intro g6
   (try simp only [dcs, ne_eq] at g6)
   refine zR 10 ?_
   refine zz (false) (⟨fun h => (nomatch h), fun h => absurd h.1 (by rw [g6]; decide)⟩) (by decide)
  intro g6
  (try simp only [dcs, ne_eq] at g6)
  refine zL 2 ?_
  refine zI 0 ?_
  refine go_val0 rfl (load_val (cs := [.int .i64 (gl (setN (k + 1) of p) xb : Int)]) Tk rfl rfl rfl (at_ol (fun y : Int => [.int .i64 y]) fc_int 0 (xs := cs (setN (k + 1) of p)) (j := xb) zM (cs_get (gl_at (show xb < (setN (k + 1) of p).length by omega))) rfl) rfl) rfl ?_
  refine zR 2 ?_
  refine go_i64n 143 (k + 1) rfl ?_
  refine zR 3 ?_
  refine zz (decide (((gl (setN (k + 1) of p) xb : Nat) : Int) = ((k + 1 : Nat) : Int))) (by rw [decide_eq_true_eq, Int.ofNat_inj, hofI]; exact ⟨fun h => ⟨g6, h⟩, fun h => h.2⟩) (by decide)
 intro cr hcr
 refine zB 0 ?_ ?_
 ·intro g7
  (try simp only [dcs, ne_eq] at g7)
  have hrd := hcr.1 g7
  refine go_sl_nil tLv ?_
  refine zE 4 [6, 14, 16] ?_
  refine zDt 6 ?_
  refine zT 5 rfl ⟨none, 0, [], 11, .round g1 (fun lv => round_none hpr hps hpm hxe hrd.1 hxp hrd.2 lv), rfl, rfl, rfl⟩
 intro g7
 (try simp only [dcs, ne_eq] at g7)
 refine zR 4 ?_
 refine go_val0 rfl (max_val rfl rfl rfl) rfl ?_
 refine go_re 148 (.int .i64 ((max top2 (gl lev xb + xn.toNat) : Nat) : Int)) (by show some (Value.int _ (if _ then _ else _)) = _; rw [← max_cast]) ?_
 refine zR 7 ?_
 refine go_i64n 121 (i + 1) rfl ?_
 refine zz (i + 1, max top2 (gl lev xb + xn.toNat)) (⟨by show i + 1 ≤ _; omega, hT2.add hxe hxp (fun h => by cases hxn : xn with | false => rfl | true => exact absurd (hcr.2 ⟨hxn, h⟩) (by rw [g7]; decide)) (fun e he => by
   rw [List.take_succ_eq_append_getElem (show i < (fe (edL all l) v).length by omega), hxi', List.mem_append, List.mem_singleton] at he
   rcases he with h | h | h
   · exact .inl (.inl h)
   · exact .inl (.inr h)
   · exact .inr h), by have := hlev xb; have h1 := toNat_le1 xn; show max _ _ ≤ 4000; omega⟩) (by show _ - (i + 1) < _ - i; omega)
end Go.Proofs.YtdconhalfanclaaGreat.SL
namespace Go.Proofs.YtdconhalfanclaaGreat.SL
open Md
theorem LvR.ok_inv {l : List Cl} {ls : List (Int × Nat)} {e : Int} (h : LvR l ls e) (he : e = 0) : ∃ (all : List Int) (lev : List Nat), (rightC l).2 = 0 ∧ Preds all l ∧ lev.length = all.length ∧ Levels l (fun p => gl lev (ix all p)) ∧ (∀ lv, Levels l lv → ∀ p ∈ all, gl lev (ix all p) ≤ lv p) ∧ (∀ u, gl lev u ≤ 4000) ∧ ls = all.zip lev := by
  cases h with
  | bad h => exact absurd he h
  | round h1 h2 => cases he
  | ok all lev h1 h2 h3 h4 h5 h6 => exact ⟨all, lev, h1, h2, h3, h4, h5, h6, rfl⟩
theorem LvR.bad_inv {l : List Cl} {ls : List (Int × Nat)} {e : Int} (h : LvR l ls e) (he : ¬ e = 0) : StrR l [] e := by
  cases h with
  | bad h => exact .bad _ he (.inl ⟨h, rfl⟩)
  | round h1 h2 => exact .bad _ he (.inr ⟨h1, rfl, h2⟩)
  | ok all lev h1 h2 h3 h4 h5 h6 => exact absurd rfl he
theorem top_le {hs : List Nat} {m : Nat} (h : ∀ x ∈ hs, x ≤ m) : top hs ≤ m + 1 := by
  have key : ∀ (l : List Nat) (a : Nat), a ≤ m + 1 → (∀ x ∈ l, x ≤ m) → l.foldl (fun m h => max m (h + 1)) a ≤ m + 1 := by
    intro l
    induction l with
    | nil => intro a ha _; exact ha
    | cons x l ih =>
      intro a ha hl
      rw [List.foldl_cons]
      have := hl x (.head _)
      exact ih _ (by omega) (fun y hy => hl y (.tail _ hy))
  exact key hs 0 (by omega) h
theorem strI_len (hs : List Nat) (k : Nat) : (strI hs k).length ≤ hs.length := by
  unfold strI
  have := List.length_filter_le (fun i => hs[i]? == some k) (List.range hs.length)
  rwa [List.length_range] at this
structure StI (hs : List Nat) (R : List (Rw Int)) : Prop where
  len : R.length = top hs
  row : ∀ v, rowG R v = cs (strI hs v)
theorem rowG_none {α : Type} {R : List (Rw α)} {v : Nat} (h : R.length ≤ v) : rowG R v = [] := by rw [rowG, List.getElem?_eq_none h]; rfl
theorem StI.start : StI [] [] := ⟨rfl, fun v => rfl⟩
structure StG (hs : List Nat) (R : List (Rw Int)) (k : Nat) : Prop where
  lo : top hs ≤ R.length
  len : R.length ≤ max (top hs) (k + 1)
  row : ∀ v, rowG R v = cs (strI hs v)
theorem StI.grow {hs : List Nat} {R : List (Rw Int)} (h : StI hs R) (k : Nat) : StG hs R k := ⟨by rw [h.len]; exact Nat.le_refl _, by rw [h.len]; omega, h.row⟩
theorem StG.more {hs : List Nat} {R : List (Rw Int)} {k : Nat} (h : StG hs R k) (hk : R.length ≤ k) : StG hs (R ++ [⟨none, 0, []⟩]) k := by
  refine ⟨?_, ?_, fun v => ?_⟩
  · rw [List.length_append]; have := h.lo; omega
  · rw [List.length_append, List.length_singleton]; omega
  · rw [← h.row v]
    by_cases e : v < R.length
    · rw [rowG, rowG, List.getElem?_append_left e]
    · rw [rowG_none (R := R) (by omega)]
      by_cases e2 : v = R.length
      · subst e2; rw [rowG]; simp
      · exact rowG_none (by rw [List.length_append, List.length_singleton]; omega)
theorem StG.row_len {hs : List Nat} {R : List (Rw Int)} {k j : Nat} (h : StG hs R k) {x : Rw Int} (hx : R[j]? = some x) : x.l.length ≤ hs.length := by
  have h1 := h.row j
  rw [rowG_at hx] at h1
  rw [h1, cs_len]; exact strI_len hs j
theorem StG.put {hs : List Nat} {R : List (Rw Int)} {k i : Nat} (h : StG hs R k) (hk : k < R.length) {x : Rw Int} (hx : R[k]? = some x) (hi : hs.length = i) {A : Option Addr} {c : Nat} : StI (hs ++ [k]) (R.set k ⟨A, c, x.l ++ [(i : Int)]⟩) := by
  refine ⟨?_, fun v => ?_⟩
  · rw [List.length_set, top_snoc]; have h1 := h.lo; have h2 := h.len; omega
  · rw [rowG_set _ hk, strI_snoc]
    have h1 := h.row k
    rw [rowG_at hx] at h1
    by_cases e : v = k
    · subst e; rw [if_pos rfl, if_pos rfl, h1, hi, cs_app]; rfl
    · rw [if_neg e, if_neg (fun q => e q.symm), List.append_nil]; exact h.row v
theorem StI.rows {hs : List Nat} {R : List (Rw Int)} (h : StI hs R) : R.map (·.l) = (strata hs).map cs := by
  apply List.ext_getElem?
  intro v
  by_cases e : v < R.length
  · rw [rowG_get e, h.row v]
    have hv : v < top hs := by rw [← h.len]; exact e
    unfold strata
    rw [List.getElem?_map, List.getElem?_map, List.getElem?_range hv]; rfl
  · rw [List.getElem?_eq_none (by simp; omega), List.getElem?_eq_none (by unfold strata; simp; rw [← h.len]; omega)]
end Go.Proofs.YtdconhalfanclaaGreat.SL
namespace Go.Proofs.YtdconhalfanclaaGreat.SL
open Go Md
theorem mget_lv {m : List (Int × Value)} {ls : List (Int × Nat)} {p : Int} {v : Nat} (hm : ∀ p, mget m p = (lastP ls p).map fun i : Nat => Value.int .i64 (i : Int)) (h : lastP ls p = some v) : (mget m p).getD (.int .i64 0) = .int .i64 (v : Int) := by
  rw [hm, h]; rfl
theorem mset_lv {m : List (Int × Value)} {ls : List (Int × Nat)} {k : Nat} (hk : k < ls.length) (hm : ∀ p, mget m p = (lastP (ls.take k) p).map fun i : Nat => Value.int .i64 (i : Int)) (p : Int) : mget (mset m ls[k].1 (.int .i64 (ls[k].2 : Int))) p = (lastP (ls.take (k + 1)) p).map fun i : Nat => Value.int .i64 (i : Int) := by
  rw [mget_mset, List.take_succ_eq_append_getElem hk, lastP_snoc]
  by_cases h : p = ls[k].1
  · subst h; rw [if_pos rfl, if_pos rfl]; rfl
  · rw [if_neg h, if_neg (fun q => h q.symm)]; exact hm p
set_option maxHeartbeats 8000000 in
theorem stratStrata (l : List Cl) (LA : Option Addr) (lc : Nat) :
    Spec Tryz.prog 35 #[.slice LA l.length lc] [sl tCl LA lc l] [] (fun v Ps' Os' => ∃ A c ss e, StrR l ss e ∧ v = .tuple #[.slice A ss.length c, .int .i64 e] ∧ Ps' = [sl (tSl (tInt .i64)) A c (ss.map cs)] ∧ Os' = []) := by
 refine zSp _ Tryz.func35 Tryz.ntmps35 (fun _ _ _ => ?_)
 refine zR 1 ?_
 refine go_len (xs := l) zM (fun l0 m0 => ?_)
 refine zC 7 (stratLevels l LA lc) ?_
 rintro _ _ _ ⟨VA, vc, ls, e, hL, rfl, rfl, rfl⟩
 refine go_len (xs := ls) zM (fun l1 m1 => ?_)
 refine zN 12 ?_ ?_
 ·intro g1
  refine go_sl_nil (tSl (tInt .i64)) ?_
  refine zT 6 rfl ⟨none, 0, [], _, hL.bad_inv g1, rfl, rfl, rfl⟩
 intro g1
 obtain ⟨all, lev, hr, hpr, hll, hlv, hle, hgb, rfl⟩ := hL.ok_inv g1
 have hl := (rightC_iff.1 hr).1
 refine zR 3 ?_
 refine go_makemap (kk := .u32) rfl rfl rfl zH ?_
 intro bM
 refine zE 9 [0, 6, 22, 23, 24] ?_
 refine zR 1 ?_
 refine zO (X := Nat × List (Int × Value)) (fun x => [(24, .int .i64 (x.1 : Int))]) [0, 6, 22, 23] (fun x => [mapO bM .u32 x.2]) (fun x => x.1 ≤ (all.zip lev).length ∧ ∀ p, mget x.2 p = (lastP ((all.zip lev).take x.1) p).map fun i : Nat => Value.int .i64 (i : Int)) (fun x => (all.zip lev).length - x.1) (0, []) ⟨Nat.zero_le _, fun p => rfl⟩ ?_
 intro ⟨k, mm⟩ ⟨hk, hmm⟩
 simp only at hk hmm ⊢
 refine zD 5 ?_ ?_
 ·intro hq1
  refine zR 4 ?_
  refine go_elem_Lv (R := all.zip lev) zM k (List.getElem?_eq_getElem (by omega)) (fun b0 o0 hA0 => ?_); cases hA0
  refine zI 1 ?_
  refine zL 0 ?_
  refine zW 0 ?_
  intro bV
  refine zS 0 ?_
  refine zL 4 ?_
  refine zL 1 ?_
  refine go_mset (b := bM) (m := mm) Tk rfl rfl rfl rfl rfl rfl rfl rfl zM zF ?_
  refine zR 6 ?_
  refine go_i64n 24 (k + 1) rfl ?_
  refine go_back (k + 1, _) zA zM zM (⟨by show k + 1 ≤ _; omega, mset_lv (by omega) hmm⟩) (by show _ - (k + 1) < _ - k; omega)
 intro hq1
 refine zR 2 ?_
 obtain rfl : k = (all.zip lev).length := by omega
 rw [List.take_length] at hmm
 refine go_own_nil (tRw Int) 41 none ?_
 refine go_inn_nil (tInt .i64) 3 ?_
 refine zR 11 ?_
 refine zO (X := Nat × Option Addr × Nat × List (Rw Int)) (fun x => [(9, .slice x.2.1 x.2.2.2.length x.2.2.1), (36, .int .i64 (x.1 : Int))]) [6, 34, 35] (fun x => [ol (tRw Int) 41 x.2.1 x.2.2.1 (x.2.2.2), inn (tInt .i64) 3 (x.2.2.2)]) (fun x => x.1 ≤ l.length ∧ StI ((l.take (x.1)).map fun c => gl lev (ix all c.h.p)) x.2.2.2) (fun x => l.length - x.1) (0, none, 0, []) ⟨Nat.zero_le _, StI.start⟩ ?_
 intro ⟨i, A1, c1, R⟩ ⟨hi, hI⟩
 simp only at hi hI ⊢
 refine zD' 5 ?_ ?_
 ·intro hq2
  refine zR 2 ?_
  rw [List.take_of_length_le (show l.length ≤ i by omega)] at hI
  refine go_freeze_oo (T := tInt .i64) (R := R) zM ?_
  rw [hI.rows]
  rw [show R.length = (strata (l.map fun c => gl lev (ix all c.h.p))).length by rw [hI.len]; simp [strata]]
  refine zT 5 rfl ⟨A1, c1, _, 0, .ok (fun p => gl lev (ix all p)) hr hlv (fun lw h c hc => hle lw h _ (hpr.head hc)) (fun p => hgb _), rfl, rfl, rfl⟩
 intro hq2
 refine zR 4 ?_
 refine go_elem_cl (xs := l) zM (i) (List.getElem?_eq_getElem (by omega)) (fun b1 o1 A9 c9 B9 d9 hA => ?_); cases hA
 refine zI 2 ?_
 refine zL 0 ?_
 refine zW 0 ?_
 intro bC
 refine zS 1 ?_
 refine zR 2 ?_
 obtain ⟨kk, hkk⟩ : ∃ kk, gl lev (ix all l[i].h.p) = kk := ⟨_, rfl⟩
 have hkb : kk ≤ 4000 := by rw [← hkk]; exact hgb _
 have hHl : ((l.take (i)).map fun c => gl lev (ix all c.h.p)).length = i := by rw [List.length_map, List.length_take]; omega
 have hHb : top ((l.take (i)).map fun c => gl lev (ix all c.h.p)) ≤ 4001 := top_le (fun h hm => by obtain ⟨c, _, rfl⟩ := List.mem_map.1 hm; exact hgb _)
 refine zL 4 ?_
 refine go_val0 rfl (lookup_val (b := bM) (m := mm) (v := .int .i64 (kk : Int)) Tk rfl rfl rfl rfl rfl rfl zM (by rw [if_neg (by decide)]; exact mget_lv hmm (by rw [lastP_all hll (hpr.head (List.getElem_mem _)), hkk]))) rfl ?_
 refine zR 4 ?_
 refine zO (X := Option Addr × Nat × List (Rw Int)) (fun x => [(9, .slice x.1 x.2.2.length x.2.1)]) [6, 10, 12, 34, 35, 36] (fun x => [ol (tRw Int) 41 x.1 x.2.1 (x.2.2), inn (tInt .i64) 3 (x.2.2)]) (fun x => StG ((l.take (i)).map fun c => gl lev (ix all c.h.p)) x.2.2 kk) (fun x => (kk + 1) - x.2.2.length) (A1, c1, R) (hI.grow kk) ?_
 intro ⟨A2, c2, R2⟩ hG
 simp only at hG ⊢
 have hRl := hG.len
 refine go_len_ol (xs := R2) zM (fun l2 m2 => ?_)
 refine zD 8 ?_ ?_
 ·intro hq3
  refine zV 4 ?_
  intro b1
  refine go_append1 (T := tRw Int) (xs := R2) Tk ((⟨none, 0, []⟩ : Rw Int)) rfl rfl rfl rfl rfl rfl rfl rfl rfl zM zM rfl ent_Rw (by omega) zH ?_
  intro A3 c3
  refine go_own_nil (tInt .i64) 3 none ?_
  refine go_inn_app (T := tInt .i64) (R := R2) ⟨none, 0, []⟩ zM ?_
  refine zR 3 ?_
  refine zz (A3, c3, R2 ++ [⟨none, 0, []⟩]) (hG.more (by omega)) (by show kk + 1 - (R2 ++ [_]).length < _; rw [List.length_append, List.length_singleton]; omega)
 intro hq3
 refine zR 1 ?_
 have hkl : kk < R2.length := by omega
 obtain ⟨⟨yA, yc, yl⟩, hy⟩ : ∃ y, R2[kk]? = some y := ⟨_, List.getElem?_eq_getElem hkl⟩
 have hyl : yl.length ≤ i := by have := hG.row_len hy; rw [hHl] at this; exact this
 refine go_ol_addr (xs := R2) zM (by omega) (fun bR hA => ?_); subst hA
 refine go_inn_out kk hy zM ?_
 refine zI 5 ?_
 refine go_val0 rfl (load_val (cs := fcRw ⟨yA, yc, yl⟩) Tk rfl rfl rfl (at_ol fcRw tRw_fc 0 (xs := R2) (j := kk) zM hy rfl) rfl) rfl ?_
 refine zV 1 ?_
 intro b2
 refine go_append1 (T := tInt .i64) (xs := yl) Tk ((i : Int)) rfl rfl rfl rfl rfl rfl rfl rfl rfl zM zM rfl ent_int (by omega) zH ?_
 intro A4 c4
 refine zI 0 ?_
 refine zSE 0 (tRw Int) R2 kk (⟨A4, c4, yl ++ [(i : Int)]⟩ : Rw Int) ent_Rw ?_
 refine go_inn_in (R := R2) ⟨A4, c4, yl ++ [(i : Int)]⟩ kk (by omega) zM ?_
 have hI3 := hG.put hkl hy hHl (A := A4) (c := c4)
 rw [show ((l.take (i)).map fun c => gl lev (ix all c.h.p)) ++ [kk] = ((l.take (i + 1)).map fun c => gl lev (ix all c.h.p)) by rw [List.take_succ_eq_append_getElem (show i < l.length by omega), List.map_append, ← hkk]; rfl] at hI3
 refine zE 1 [6, 9, 34, 35, 36] ?_
 refine zR 5 ?_
 refine go_i64n 36 (i + 1) rfl ?_
 refine go_re 9 (.slice (some ⟨bR, 0, none⟩) (R2.set kk ⟨A4, c4, yl ++ [(i : Int)]⟩).length c2) (by rw [List.length_set]; rfl) ?_
 refine zz (i + 1, some ⟨bR, 0, none⟩, c2, R2.set kk ⟨A4, c4, yl ++ [(i : Int)]⟩) (⟨by show i + 1 ≤ _; omega, hI3⟩) (by show _ - (i + 1) < _ - i; omega)
end Go.Proofs.YtdconhalfanclaaGreat.SL
namespace Go.Proofs.YtdconhalfanclaaGreat.SL
open Md
def keys (out : List (Int × Nat)) : List Int := out.map (·.1)
def lvl (out : List (Int × Nat)) (p : Int) : Nat := ((out.find? fun x => x.1 == p).map (·.2)).getD 0
structure PI (ps : List Int) (out : List (Int × Nat)) : Prop where
  mem : ∀ p, p ∈ keys out ↔ p ∈ ps
  zero : ∀ x ∈ out, x.2 = 0
  len : out.length ≤ ps.length
def LowP (l : List Cl) (out : List (Int × Nat)) : Prop := ∀ lv, Levels l lv → ∀ x ∈ out, x.2 ≤ lv x.1
def sumL (out : List (Int × Nat)) : Nat := (out.map (·.2)).sum
structure RI (l : List Cl) (ks : List Int) (out : List (Int × Nat)) : Prop where
  eq : keys out = ks
  low : LowP l out
  lt : ∀ x ∈ out, x.2 < ks.length
structure RT (out0 out : List (Int × Nat)) (turned : Bool) (D : List (Int × Int × Bool)) : Prop where
  same : turned = false → out = out0 ∧ ∀ e ∈ D, ∀ y ∈ out0, y.1 = e.1 → lvl out0 e.2.1 + e.2.2.toNat ≤ y.2
  more : turned = true → sumL out0 < sumL out
structure RJ (out0 out : List (Int × Nat)) (turned : Bool) (D : List (Int × Int × Bool)) (e : Int × Int × Bool) (w j : Nat) : Prop where
  same : turned = false → out = out0 ∧ (∀ e ∈ D, ∀ y ∈ out0, y.1 = e.1 → lvl out0 e.2.1 + e.2.2.toNat ≤ y.2) ∧ w = lvl out0 e.2.1 + e.2.2.toNat ∧ ∀ y ∈ out0.take j, y.1 = e.1 → w ≤ y.2
  more : turned = true → sumL out0 < sumL out
inductive LvQ (l : List Cl) : List (Int × Nat) → Int → Prop where
  | bad : (rightC l).2 ≠ 0 → LvQ l [] (rightC l).2
  | round : (rightC l).2 = 0 → (∀ lv, ¬ Levels l lv) → LvQ l [] 11
  | ok (out : List (Int × Nat)) : (rightC l).2 = 0 → Preds (keys out) l → Levels l (lvl out) → LowP l out → (∀ x ∈ out, x.2 ≤ 4000) → out.length ≤ 4000 → LvQ l out 0
theorem StrR.one {l : List Cl} {a b : List (List Nat)} {e f : Int} (h : StrR l a e) (h' : StrR l b f) : a = b ∧ e = f := by
  cases h with
  | bad e1 h1 h2 =>
    cases h' with
    | bad e2 h3 h4 =>
      refine ⟨rfl, ?_⟩
      rcases h2 with ⟨q1, q2⟩ | ⟨q1, q2, q3⟩ <;> rcases h4 with ⟨q4, q5⟩ | ⟨q4, q5, q6⟩
      · rw [q2, q5]
      · exact absurd q4 q1
      · exact absurd q1 q4
      · rw [q2, q5]
    | ok lv h3 h4 h5 h6 =>
      rcases h2 with ⟨q1, q2⟩ | ⟨q1, q2, q3⟩
      · exact absurd h3 q1
      · exact absurd h4 (q3 lv)
  | ok lv h1 h2 h3 h4 =>
    cases h' with
    | bad e2 h5 h6 =>
      rcases h6 with ⟨q1, q2⟩ | ⟨q1, q2, q3⟩
      · exact absurd h1 q1
      · exact absurd h2 (q3 lv)
    | ok lw h5 h6 h7 h8 =>
      refine ⟨?_, rfl⟩
      congr 1
      exact List.map_congr_left fun c hc => Nat.le_antisymm (h3 lw h6 c hc) (h7 lv h2 c hc)
end Go.Proofs.YtdconhalfanclaaGreat.SL
namespace Go.Proofs.YtdconhalfanclaaGreat.SL
open Go
theorem atomsOf (a : Am) (AA : Option Addr) (ac : Nat) (hn : a.a.length ≤ 1000000) :
    Spec Tryz.prog 164 #[.agg #[.int .u32 a.p, .slice AA a.a.length ac]] [sl tTm AA ac a.a] [] (fun v Ps' Os' => ∃ A c, v = .tuple #[.agg #[.int .u32 (ofA a).p, .slice A (ofA a).a.length c], .bool (ground a)] ∧ Ps' = [sl tU A c (ofA a).a] ∧ Os' = []) := by
 refine zSp _ Tryz.func164 Tryz.ntmps164 (fun _ _ _ => ?_)
 refine zX 2 ?_
 intro b0
 refine go_freeze_pt (b := b0) zM ?_
 refine zW 0 ?_
 intro bF
 refine zL 5 ?_
 refine zC3 0 (groundA a AA ac) ?_
 refine zB 2 ?_ ?_
 ·intro g1
  (try simp only [dcs, ne_eq] at g1)
  refine go_own_nil tU 26 none ?_
  refine go_freeze_ol (xs := []) zM ?_
  have hof : ofA a = ⟨0, []⟩ := by unfold ofA; rw [g1]; rfl
  refine zL 2 ?_
  refine zS 0 ?_
  refine zR 2 ?_
  refine go_ret ⟨rfl, rfl⟩ _ _ (res2 (by rfl) (.cell rfl (rdv Tk rfl)) (.tmp rfl)) ⟨none, 0, by rw [hof, g1]; rfl, by rw [hof], rfl⟩ zM zM
 intro g1
 (try simp only [dcs, ne_eq] at g1)
 have hof : ofA a = ⟨a.p, a.a.map (·.n)⟩ := by unfold ofA; rw [if_pos g1]
 refine zL 4 ?_
 refine zS 1 ?_
 refine zR 3 ?_
 refine go_len (xs := a.a) zM (fun l0 m0 => ?_)
 refine go_own_nil tU 26 none ?_
 rw [show ([] : List Int) = (a.a.take 0).map fun t => t.n from rfl]
 refine zL 2 ?_
 refine zR 4 ?_
 refine zO (X := Nat × Option Addr × Nat) (fun x => [(16, .int .i64 (x.1 : Int))]) [2, 14, 15] (fun x => [pt bF 40 [.int .u32 a.p, .slice x.2.1 ((a.a.take x.1).map fun t => t.n).length x.2.2], ol tU 26 x.2.1 x.2.2 ((a.a.take x.1).map fun t => t.n)]) (fun x => x.1 ≤ a.a.length) (fun x => a.a.length - x.1) (0, none, 0) (by omega) ?_
 intro ⟨k, A1, c1⟩ hk
 simp only at hk ⊢
 have hkl : ((a.a.take k).map fun t => t.n).length = k := by simp; omega
 refine zD' 5 ?_ ?_
 ·intro hq1
  refine zR 2 ?_
  have htk : a.a.take k = a.a := List.take_of_length_le (by omega)
  rw [htk]
  refine go_freeze_ol (xs := a.a.map fun t => t.n) zM ?_
  refine zL 1 ?_
  refine zS 0 ?_
  refine zR 2 ?_
  refine go_ret ⟨rfl, rfl⟩ _ _ (res2 (by rfl) (.cell rfl (rdv Tk rfl)) (.tmp rfl)) ⟨A1, c1, by rw [hof, g1], by rw [hof], rfl⟩ zM zM
 intro hq1
 refine zR 4 ?_
 refine go_elem_tm (xs := a.a) zM (k) (List.getElem?_eq_getElem (by omega)) (fun b1 o1 hA => ?_); cases hA
 refine zI 1 ?_
 refine zL 0 ?_
 refine zW 0 ?_
 intro b1
 refine zS 0 ?_
 refine zL 3 ?_
 refine zL 1 ?_
 refine zV 0 ?_
 intro b2
 refine go_append1 (T := tU) (xs := ((a.a.take k).map fun t => t.n)) Tk (a.a[k].n) rfl rfl rfl rfl rfl rfl rfl rfl rfl zM zM rfl ent_int (by omega) zH ?_
 intro A3 c3
 refine zS 1 ?_
 refine zR 6 ?_
 refine zi 16 ?_
 rw [show ((a.a.take k).map fun t => t.n) ++ [a.a[k].n] = (a.a.take (k + 1)).map fun t => t.n from by rw [List.take_succ_eq_append_getElem (by omega), List.map_append]; rfl]
 refine zz (k + 1, A3, c3) (by show k + 1 ≤ _; omega) (by show a.a.length - (k + 1) < a.a.length - k; omega)
theorem at_cl1 {Ps : List PA} {Os : List OA} {b oo : Nat} {cs0 : List Value} {v : Value} (h : cl b 0 cs0 ∈ Ps) (k : Nat) (ho : oo = 0 + k) (h3 : cs0[k]? = some v) : At Ps Os b oo 1 [v] := by
  subst ho
  obtain ⟨h4, h5⟩ := List.getElem?_eq_some_iff.1 h3
  exact at_cl k h (by rw [dropL_eq, List.drop_eq_getElem_cons h4, h5]; rfl)
theorem choicePut (bC : Nat) (few : List Int) (is : List Bool) (hf : few.length = 16) (hi : is.length = 16) (a : Am) (AA : Option Addr) (ac : Nat) (hn : a.a.length ≤ 1000000) (hv : ∀ t ∈ a.a, t.v = true → 0 ≤ t.n ∧ t.n < 16) :
    Spec Tryz.prog 137 #[.pointer (some ⟨bC, 0, none⟩), .agg #[.int .u32 a.p, .slice AA a.a.length ac]] [cl bC 0 (hc few is []), sl tTm AA ac a.a] [] (fun v Ps' Os' => ∃ A c, v = .agg #[.int .u32 a.p, .slice A (putA few is a).a.length c] ∧ Ps' = [sl tTm A c (putA few is a).a] ∧ Os' = []) := by
 refine zSp _ Tryz.func137 Tryz.ntmps137 (fun _ _ _ => ?_)
 refine zX 2 ?_
 intro b0
 refine go_freeze_pt (b := b0) zM ?_
 refine zW 0 ?_
 intro bR
 refine zL 4 ?_
 refine zq 0 ?_
 refine zW 0 ?_
 intro bO
 refine zS 0 ?_
 refine zR 3 ?_
 refine go_len (xs := a.a) zM (fun l0 m0 => ?_)
 refine go_own_nil tTm 73 none ?_
 rw [show ([] : List Tm) = (a.a.take 0).map (putT few is) from rfl]
 refine zL 2 ?_
 refine zR 4 ?_
 refine zO (X := Nat × Option Addr × Nat) (fun x => [(14, .int .i64 (x.1 : Int))]) [0, 4, 5, 12, 13] (fun x => [pt bO 29 [.int .u32 a.p, .slice x.2.1 ((a.a.take x.1).map (putT few is)).length x.2.2], ol tTm 73 x.2.1 x.2.2 ((a.a.take x.1).map (putT few is))]) (fun x => x.1 ≤ a.a.length) (fun x => a.a.length - x.1) (0, none, 0) (by omega) ?_
 intro ⟨k, A1, c1⟩ hk
 simp only at hk ⊢
 have hkl : ((a.a.take k).map (putT few is)).length = k := by simp; omega
 refine zD' 5 ?_ ?_
 ·intro hq1
  refine zR 2 ?_
  have htk : a.a.take k = a.a := List.take_of_length_le (by omega)
  rw [htk]
  refine go_freeze_ol (xs := a.a.map (putT few is)) zM ?_
  refine zL 1 ?_
  refine zS 0 ?_
  refine zR 1 ?_
  refine go_ret ⟨rfl, rfl⟩ _ _ (res1 (by rfl) (.cell rfl (rdv Tk rfl))) ⟨A1, c1, rfl, rfl, rfl⟩ zM zM
 intro hq1
 refine zR 4 ?_
 refine go_elem_tm (xs := a.a) zM (k) (List.getElem?_eq_getElem (by omega)) (fun b1 o1 hA => ?_); cases hA
 refine zI 1 ?_
 refine zL 0 ?_
 refine zW 0 ?_
 intro bT
 refine zS 0 ?_
 refine zY 3 [1, 5, 7, 10, 13, 19, 22, 17, 25, 29, 31] ?_
 refine zK 1 ?_
 refine zG' 1 20 ?_ ?_
 ·intro g1
  (try simp only [dcs, ne_eq] at g1)
  refine zJ 4 ?_
  refine zJ 1 ?_
  refine zDf 2 ?_
  refine zL 3 ?_
  refine zL 0 ?_
  refine zV 0 ?_
  intro b3
  refine go_append1 (T := tTm) (xs := ((a.a.take k).map (putT few is))) Tk (a.a[k]) rfl rfl rfl rfl rfl rfl rfl rfl rfl zM zM rfl ent_tm (by omega) zH ?_
  intro A3 c3
  refine zS 1 ?_
  refine zE 1 [0, 4, 5, 12, 13, 14, 21, 22, 23, 24, 25, 26, 27] ?_
  refine zR 5 ?_
  refine zi 14 ?_
  have hpt := putT_no (few := few) (is := is) g1
  rw [show ((a.a.take k).map (putT few is)) ++ [_] = (a.a.take (k + 1)).map (putT few is) from by rw [List.take_succ_eq_append_getElem (by omega), List.map_append, List.map_cons, hpt]; rfl]
  refine zz (k + 1, A3, c3) (by show k + 1 ≤ _; omega) (by show a.a.length - (k + 1) < a.a.length - k; omega)
 intro g1
 (try simp only [dcs, ne_eq] at g1)
 obtain ⟨j, hj, hj16⟩ : ∃ j : Nat, a.a[k].n = (j : Int) ∧ j < 16 := ⟨a.a[k].n.toNat, by have := hv _ (List.getElem_mem _) g1; omega, by have := hv _ (List.getElem_mem _) g1; omega⟩
 refine zK 4 ?_
 refine go_re 23 (.int .u32 (j : Int)) (by show some (Value.int _ _) = _; rw [hj]) ?_
 refine zIA 0 ?_
 refine go_val2a rfl (load_val (cs := [.bool is[j]]) Tk rfl rfl rfl (at_cl1 zM (few.length + j) (by show 0 + 16 + j * 1 = _; omega) (hc_is (by omega) rfl)) rfl) rfl ?_
 refine zB' 2 ?_ ?_
 ·intro g2
  (try simp only [dcs, ne_eq] at g2)
  refine zL 3 ?_
  refine zL 0 ?_
  refine zV 0 ?_
  intro b2
  refine go_append1 (T := tTm) (xs := ((a.a.take k).map (putT few is))) Tk (a.a[k]) rfl rfl rfl rfl rfl rfl rfl rfl rfl zM zM rfl ent_tm (by omega) zH ?_
  intro A3 c3
  refine zS 1 ?_
  refine zE 1 [0, 4, 5, 12, 13, 14, 21, 22, 23, 24, 25, 26, 27] ?_
  refine zR 5 ?_
  refine zi 14 ?_
  have hpt := putT_free (few := few) (is := is) (by omega) hj g2
  rw [show ((a.a.take k).map (putT few is)) ++ [_] = (a.a.take (k + 1)).map (putT few is) from by rw [List.take_succ_eq_append_getElem (by omega), List.map_append, List.map_cons, hpt]; rfl]
  refine zz (k + 1, A3, c3) (by show k + 1 ≤ _; omega) (by show a.a.length - (k + 1) < a.a.length - k; omega)
 intro g2
 (try simp only [dcs, ne_eq] at g2)
 refine zY 0 [1, 4, 10, 13, 8, 16, 20, 22, 24] ?_
 refine zK 4 ?_
 refine go_re 31 (.int .u32 (j : Int)) (by show some (Value.int _ _) = _; rw [hj]) ?_
 refine zIA 0 ?_
 refine go_val2a rfl (load_val (cs := [.int .u32 few[j]]) Tk rfl rfl rfl (at_cl1 zM j (by show 0 + 0 + j * 1 = _; omega) (hc_few (by omega) rfl)) rfl) rfl ?_
 refine go_val1 rfl (fun a w hp ho hf hs => build_val Tk rfl rfl rfl (by rfl) a w hf) rfl ?_
 refine zS 0 ?_
 refine zE 1 [0, 4, 5, 7, 12, 13, 14, 21, 22, 23, 24, 25, 26, 27] ?_
 refine zL 2 ?_
 refine zL 0 ?_
 refine zV 0 ?_
 intro b1
 refine go_append1 (T := tTm) (xs := ((a.a.take k).map (putT few is))) Tk ((⟨false, few[j]⟩ : Tm)) rfl rfl rfl rfl rfl rfl rfl rfl rfl zM zM rfl ent_tm (by omega) zH ?_
 intro A3 c3
 refine zS 1 ?_
 refine zR 6 ?_
 refine zi 14 ?_
 have hpt := putT_yes (few := few) (is := is) g1 (by omega) (by omega) hj g2
 rw [show ((a.a.take k).map (putT few is)) ++ [_] = (a.a.take (k + 1)).map (putT few is) from by rw [List.take_succ_eq_append_getElem (by omega), List.map_append, List.map_cons, hpt]; rfl]
 refine zz (k + 1, A3, c3) (by show k + 1 ≤ _; omega) (by show a.a.length - (k + 1) < a.a.length - k; omega)
theorem choiceBecomes (bC : Nat) (few : List Int) (is : List Bool) (hf : few.length = 16) (hi : is.length = 16) (a : Am) (AA : Option Addr) (ac : Nat) (hn : a.a.length ≤ 1000000) (hv : ∀ t ∈ a.a, t.v = true → 0 ≤ t.n ∧ t.n < 16) :
    Spec Tryz.prog 139 #[.pointer (some ⟨bC, 0, none⟩), .agg #[.int .u32 a.p, .slice AA a.a.length ac]] [cl bC 0 (hc few is []), sl tTm AA ac a.a] [] (fun v Ps' Os' => ∃ A c, v = .agg #[.int .u32 (ofA (putA few is a)).p, .slice A (ofA (putA few is a)).a.length c] ∧ Ps' = [sl tU A c (ofA (putA few is a)).a] ∧ Os' = []) := by
 refine zSp _ Tryz.func139 Tryz.ntmps139 (fun _ _ _ => ?_)
 refine zX 2 ?_
 intro b0
 refine go_freeze_pt (b := b0) zM ?_
 refine zW 0 ?_
 intro b1
 refine zL 4 ?_
 refine zC 0 (choicePut bC few is hf hi a AA ac hn hv) ?_
 rintro _ _ _ ⟨A1, c1, rfl, rfl, rfl⟩
 refine zC 0 (atomsOf (putA few is a) A1 c1 (by unfold putA; rw [List.length_map]; exact hn)) ?_
 rintro _ _ _ ⟨A2, c2, rfl, rfl, rfl⟩
 refine zW 3 ?_
 intro b2
 refine zS 0 ?_
 refine zL 4 ?_
 refine zS 0 ?_
 refine zE 1 [4] ?_
 refine go_ret ⟨rfl, rfl⟩ _ _ (res1 (by rfl) (.cell rfl (rdv Tk rfl))) ⟨A2, c2, rfl, rfl, rfl⟩ zM zM
theorem choiceMeets (few : List Int) (is : List Bool) (hf : few.length = 16) (hi : is.length = 16) (a : Am) (AA : Option Addr) (ac : Nat) (x : Fa) (A : Option Addr) (c : Nat) (hl : a.a.length = x.a.length) (hv : ∀ t ∈ a.a, t.v = true → 0 ≤ t.n ∧ t.n < 16) :
    Spec Tryz.prog 138 #[.agg (hc few is []).toArray, .agg #[.int .u32 a.p, .slice AA a.a.length ac], .agg #[.int .u32 x.p, .slice A x.a.length c]] [sl tTm AA ac a.a, sl tU A c x.a] [] (fun v Ps' Os' => v = .agg (hc (meetL x.a (few, is) a.a 0).1 (meetL x.a (few, is) a.a 0).2 []).toArray ∧ Ps' = [] ∧ Os' = []) := by
 refine zSp _ Tryz.func138 Tryz.ntmps138 (fun _ _ _ => ?_)
 refine zR 2 ?_
 refine go_box (cs := hc few is []) Tk rfl rfl rfl rfl (takeL_len (hc_len hf hi)) (beq_of (hc_len hf hi)) rfl zF ?_
 intro bC
 refine zX 0 ?_
 intro bA
 refine zX 0 ?_
 intro bX
 refine zW 0 ?_
 intro bR
 refine zR 1 ?_
 refine go_freeze_pt (b := bA) zM ?_
 refine go_freeze_pt (b := bX) zM ?_
 refine zR 2 ?_
 refine go_len (xs := a.a) zM (fun l0 m0 => ?_)
 refine zL 2 ?_
 refine zR 4 ?_
 refine zO (X := Nat × List Int × List Bool) (fun z => [(12, .int .i64 (z.1 : Int))]) [3, 5, 6, 10, 11] (fun z => [pt bC 210 (hc z.2.1 z.2.2 [])]) (fun z => z.1 ≤ a.a.length ∧ z.2.1.length = 16 ∧ z.2.2.length = 16 ∧ meetL x.a (few, is) a.a 0 = meetL x.a z.2 (a.a.drop z.1) z.1) (fun z => a.a.length - z.1) (0, few, is) ⟨by omega, hf, hi, rfl⟩ ?_
 intro ⟨k, f1, i1⟩ ⟨hk, hf1, hi1, hz⟩
 simp only at hk hf1 hi1 hz ⊢
 refine zD' 5 ?_ ?_
 ·intro hq1
  refine zR 3 ?_
  refine go_val0 rfl (load_val (cs := hc f1 i1 []) Tk rfl rfl rfl (at_all zM (hc_len hf1 hi1)) rfl) rfl ?_
  refine go_store (cs' := hc f1 i1 []) Tk rfl rfl rfl rfl rfl rfl zM (beq_of (hc_len hf1 hi1)) (hc_one _ _) (putL_whole (by rw [show (cellsL (.agg (hc f1 i1 []).toArray)).length = 32 from hc_len hf1 hi1]; rfl)) zF ?_
  refine zR 1 ?_
  refine go_ret ⟨rfl, rfl⟩ _ _ (res1 (by rfl) (.cell rfl (reads_at Tk rfl (at_all zM (hc_len hf1 hi1)) (by rfl)))) ⟨by rw [hz, List.drop_eq_nil_of_le (by omega)]; rfl, rfl, rfl⟩ zM zM
 intro hq1
 refine zR 4 ?_
 refine go_elem_tm (xs := a.a) zM (k) (List.getElem?_eq_getElem (by omega)) (fun b1 o1 hA => ?_); cases hA
 refine zI 2 ?_
 refine zL 0 ?_
 refine zW 0 ?_
 intro bT
 refine zS 1 ?_
 refine zR 1 ?_
 refine go_freeze_pt (b := bT) zM ?_
 refine zL 3 ?_
 refine zB' 1 ?_ ?_
 ·intro g1
  (try simp only [dcs, ne_eq] at g1)
  refine zR 6 ?_
  refine zi 12 ?_
  refine zz (k + 1, f1, i1) ⟨by show k + 1 ≤ _; omega, hf1, hi1, by rw [hz, List.drop_eq_getElem_cons (by omega), meetL, if_neg (by rw [g1]; decide)]⟩ (by show a.a.length - (k + 1) < a.a.length - k; omega)
 intro g1
 (try simp only [dcs, ne_eq] at g1)
 obtain ⟨j, hj, hj16⟩ : ∃ j : Nat, a.a[k].n = (j : Int) ∧ j < 16 := ⟨a.a[k].n.toNat, by have := hv _ (List.getElem_mem _) g1; omega, by have := hv _ (List.getElem_mem _) g1; omega⟩
 refine go_elem_int (xs := x.a) zM (k) (List.getElem?_eq_getElem (by omega)) (fun b2 o2 hA => ?_); cases hA
 refine go_draw ([cl bT 0 [.bool a.a[k].v, .int .u32 a.a[k].n], cl bX 0 [.int .u32 x.p, .slice (some ⟨b2, o2, none⟩) x.a.length c], cl b2 (o2 + k * 1) [.int .u32 x.a[k]]]) ([]) [1, 3, 5, 8] (SL.pre [(1, 0), (1, 2), (1, 4), (1, 6), (1, 9), (1, 12), (2, 1), (2, 3), (2, 5), (1, 7), (2, 8), (1, 10), (0, 11), (1, 13), (0, 14)] .nil) mixed rfl (by kernel_rfl) ?_
 refine zK 6 ?_
 refine go_re 20 (.int .u32 (j : Int)) (by show some (Value.int _ _) = _; rw [hj]) ?_
 refine zK 0 ?_
 refine go_re 22 (.int .u32 (j : Int)) (by show some (Value.int _ _) = _; rw [hj]) ?_
 refine zK 0 ?_
 refine zI 0 ?_
 refine zK 0 ?_
 refine zIA 0 ?_
 refine go_store Tk rfl rfl rfl rfl rfl rfl zM rfl rfl (hc_put_few (j := j) (by omega) (by show 0 + 0 + j * 1 = j; omega)) (fun _ => satA) ?_
 refine zIA 0 ?_
 refine go_store Tk rfl rfl rfl rfl rfl rfl zM rfl rfl (hc_put_is (j := j) (by omega) (by show 0 + 16 + j * 1 = _; rw [List.length_set]; omega)) zF ?_
 refine zE 1 [3, 5, 6, 10, 11, 12] ?_
 refine zR 5 ?_
 refine zi 12 ?_
 refine zz (k + 1, f1.set j x.a[k], i1.set j true) ⟨by show k + 1 ≤ _; omega, by simpa using hf1, by simpa using hi1, by rw [hz, List.drop_eq_getElem_cons (by omega), meetL, if_pos g1, hj, Int.toNat_natCast, List.getElem?_eq_getElem (by omega)]; rfl⟩ (by show a.a.length - (k + 1) < a.a.length - k; omega)
structure JoinH (c : Cl) (F R N : List Fa) : Prop where
  vh : vok c.h
  vb : ∀ l ∈ c.b, vok l.a
  lh : c.h.a.length ≤ 12
  lb : ∀ l ∈ c.b, l.a.a.length ≤ 12
  nn : ∀ l ∈ c.b, ∀ t ∈ l.a.a, 0 ≤ t.n
  nF : F.length ≤ 50000000
  bF : ∀ x ∈ F, x.a.length ≤ 100000
  oF : ∀ x ∈ F, ∀ n ∈ x.a, 0 ≤ n
  rR : rises R
  nR : R.length ≤ 50000000
  rN : rises N
  nN : N.length ≤ 50000000
theorem putA_len (few : List Int) (is : List Bool) (a : Am) : (putA few is a).a.length = a.a.length := by simp [putA]
theorem ofA_len (a : Am) : (ofA a).a.length ≤ a.a.length := by unfold ofA; split <;> simp
theorem putA_nn {few : List Int} {is : List Bool} {a : Am} (hf : ∀ v ∈ few, 0 ≤ v) (ha : ∀ t ∈ a.a, 0 ≤ t.n) : ∀ t ∈ (putA few is a).a, 0 ≤ t.n := fun t ht => by
  simp only [putA, List.mem_map] at ht
  obtain ⟨u, hu, rfl⟩ := ht
  unfold putT
  split
  · show 0 ≤ (few[u.n.toNat]?).getD 0
    cases e : few[u.n.toNat]? with
    | none => simp
    | some v => exact hf v (List.mem_of_getElem? e)
  · exact ha u hu
theorem meetL_nn (f : List Int) (hf : ∀ n ∈ f, 0 ≤ n) : ∀ (l : List Tm) (c : Ch) (i : Nat), (∀ v ∈ c.1, 0 ≤ v) → ∀ v ∈ (meetL f c l i).1, 0 ≤ v
  | [], c, i, h => h
  | t :: l, c, i, h => by
    unfold meetL
    refine meetL_nn f hf l _ (i + 1) ?_
    split
    · intro v hv
      rcases List.mem_or_eq_of_mem_set hv with hv | rfl
      · exact h v hv
      · cases e : f[i]? with
        | none => simp
        | some v => exact hf v (List.mem_of_getElem? e)
    · exact h
noncomputable abbrev goF (c : Cl) (F R N : List Fa) (i : Nat) (few : List Int) (is : List Bool) (new : Bool) (f : Fa) : List Fa := goL c F R N (c.b.drop (i + 1)) (meetL f.a (few, is) (c.b[i]?.getD ⟨false, ⟨0, []⟩⟩).a.a 0) (new || decide (f ∈ R))
theorem goL_not {c : Cl} {F R N : List Fa} {i : Nat} (hi : i < c.b.length) (e : c.b[i].no = true) (ch : Ch) (new : Bool) : goL c F R N (c.b.drop i) ch new = goL c F R N (c.b.drop (i + 1)) ch new := by
  rw [List.drop_eq_getElem_cons hi, goL, if_pos e]
theorem goL_yes {c : Cl} {F R N : List Fa} {i : Nat} (hi : i < c.b.length) (e : c.b[i].no = false) (few : List Int) (is : List Bool) (new : Bool) : goL c F R N (c.b.drop i) (few, is) new = (F.filter (mtch (putA few is c.b[i].a))).flatMap (goF c F R N i few is new) := by
  rw [List.drop_eq_getElem_cons hi, goL, if_neg (by rw [e]; decide)]
  unfold goF
  rw [List.getElem?_eq_getElem hi]; rfl
theorem goL_end {c : Cl} {F R N : List Fa} {i : Nat} (hi : c.b.length ≤ i) (ch : Ch) (new : Bool) : goL c F R N (c.b.drop i) ch new = if okN N c.b ch = true ∧ new = true then [ofA (putA ch.1 ch.2 c.h)] else [] := by
  rw [List.drop_eq_nil_of_le hi, goL]
theorem flat_next {α β : Type} {l : List α} {k : Nat} (hk : k < l.length) (g : α → List β) : (l.take (k + 1)).flatMap g = (l.take k).flatMap g ++ g l[k] := by
  rw [List.take_succ_eq_append_getElem hk, List.flatMap_append]; simp
theorem flat_len {α β : Type} {l : List α} {k : Nat} (hk : k < l.length) (g : α → List β) : ((l.take k).flatMap g).length + (g l[k]).length ≤ (l.flatMap g).length := by
  rw [← List.length_append, ← flat_next hk]
  conv => rhs; rw [← List.take_append_drop (k + 1) l, List.flatMap_append, List.length_append]
  omega
theorem okN_no {N : List Fa} {b : List Li} {c : Ch} {k : Nat} (hk : k < b.length) (e : b[k].no = true) (h : ofA (putA c.1 c.2 b[k].a) ∈ N) : okN N b c = false := by
  unfold okN
  rw [Bool.not_eq_false', List.any_eq_true]
  exact ⟨b[k], List.getElem_mem hk, by rw [e, decide_eq_true h]; rfl⟩
theorem okN_yes {N : List Fa} {b : List Li} {c : Ch} {k : Nat} (hk : b.length ≤ k) (h : ∀ l ∈ b.take k, ¬ (l.no = true ∧ ofA (putA c.1 c.2 l.a) ∈ N)) : okN N b c = true := by
  rw [List.take_of_length_le hk] at h
  unfold okN
  rw [Bool.not_eq_true', List.any_eq_false]
  intro l hl
  have := h l hl
  simp only [Bool.and_eq_true, decide_eq_true_eq]
  exact this
theorem heads1 (c : Cl) (CA : Option Addr) (cc : Nat) (CB : Option Addr) (cd : Nat) (bC bF bf bg bn bo b : Nat) (pf pg pn : Option Addr) (F R N : List Fa) (H : JoinH c F R N) (i : Nat) (few : List Int) (is : List Bool) (new : Bool) (out : List Fa) (hil : i ≤ c.b.length) (hf : few.length = 16) (hi : is.length = 16) (hv : ∀ v ∈ few, 0 ≤ v) (ho : rises out) (hlen : out.length + (goL c F R N (c.b.drop (i)) (few, is) new).length ≤ 50000000) (ih : i < c.b.length → ∀ (few : List Int) (is : List Bool) (new : Bool) (out : List Fa) (hil : i + 1 ≤ c.b.length) (hf : few.length = 16) (hi : is.length = 16) (hv : ∀ v ∈ few, 0 ≤ v) (ho : rises out) (hlen : out.length + (goL c F R N (c.b.drop (i + 1)) (few, is) new).length ≤ 50000000), Spec Tryz.prog 135 #[.int .i64 ((i + 1 : Nat) : Int), .agg (hc (few) (is) []).toArray, .bool (new), .pointer (some ⟨bC, 0, none⟩), .pointer (some ⟨bF, 0, none⟩), .pointer (some ⟨bf, 0, none⟩), .pointer (some ⟨bg, 0, none⟩), .pointer (some ⟨bn, 0, none⟩), .pointer (some ⟨bo, 0, none⟩)] [cl bC 0 [.int .u32 c.h.p, .slice CA c.h.a.length cc, .slice CB c.b.length cd], sl tTm CA cc c.h.a, sl tLi CB cd c.b, cl bF 0 [.func (.func 135) #[] #[.pointer (some ⟨bC, 0, none⟩), .pointer (some ⟨bF, 0, none⟩), .pointer (some ⟨bf, 0, none⟩), .pointer (some ⟨bg, 0, none⟩), .pointer (some ⟨bn, 0, none⟩), .pointer (some ⟨bo, 0, none⟩)]], cl bf 0 [.pointer pf], cl bg 0 [.pointer pg], cl bn 0 [.pointer pn], cl bo 0 [.pointer (some ⟨b, 0, none⟩)], relN pf F, relN pg R, relN pn N] [relO b out] (fun v Ps' Os' => v = .tuple #[] ∧ Ps' = [] ∧ Os' = [relO b ((goL c F R N (c.b.drop (i + 1)) (few, is) (new)).foldl fput (out))])) :
    Spec Tryz.prog 135 #[.int .i64 (i : Int), .agg (hc (few) (is) []).toArray, .bool (new), .pointer (some ⟨bC, 0, none⟩), .pointer (some ⟨bF, 0, none⟩), .pointer (some ⟨bf, 0, none⟩), .pointer (some ⟨bg, 0, none⟩), .pointer (some ⟨bn, 0, none⟩), .pointer (some ⟨bo, 0, none⟩)] [cl bC 0 [.int .u32 c.h.p, .slice CA c.h.a.length cc, .slice CB c.b.length cd], sl tTm CA cc c.h.a, sl tLi CB cd c.b, cl bF 0 [.func (.func 135) #[] #[.pointer (some ⟨bC, 0, none⟩), .pointer (some ⟨bF, 0, none⟩), .pointer (some ⟨bf, 0, none⟩), .pointer (some ⟨bg, 0, none⟩), .pointer (some ⟨bn, 0, none⟩), .pointer (some ⟨bo, 0, none⟩)]], cl bf 0 [.pointer pf], cl bg 0 [.pointer pg], cl bn 0 [.pointer pn], cl bo 0 [.pointer (some ⟨b, 0, none⟩)], relN pf F, relN pg R, relN pn N] [relO b out] (fun v Ps' Os' => v = .tuple #[] ∧ Ps' = [] ∧ Os' = [relO b ((goL c F R N (c.b.drop (i)) (few, is) (new)).foldl fput (out))]) := by
 refine zSp _ Tryz.func135 Tryz.ntmps135 (fun _ _ _ => ?_)
 refine zR 2 ?_
 refine go_box (cs := hc few is []) Tk rfl rfl rfl rfl (takeL_len (hc_len hf hi)) (beq_of (hc_len hf hi)) rfl zF ?_
 intro bH
 refine go_freeze_pt (b := bH) zM ?_
 refine zR 3 ?_
 refine go_len (xs := c.b) zM (fun l0 m0 => ?_)
 refine zL 3 ?_
 refine zD' 3 ?_ ?_
 ·intro g0
  refine zR 3 ?_
  have hgo := goL_end (F := F) (R := R) (N := N) (show c.b.length ≤ i by omega) (few, is) new
  rw [hgo] at hlen
  refine zL 2 ?_
  refine zR 4 ?_
  refine zO (X := Nat) (fun k => [(64, .int .i64 (k : Int))]) [2, 3, 7, 8, 10, 62, 63] (fun _ => []) (fun k => k ≤ c.b.length ∧ ∀ l ∈ c.b.take k, ¬ (l.no = true ∧ ofA (putA few is l.a) ∈ N)) (fun k => c.b.length - k) 0 ⟨by omega, by simp⟩ ?_
  intro k ⟨hk, hz⟩
  refine zD' 5 ?_ ?_
  ·intro hq1
   refine zB' 5 ?_ ?_
   ·intro g5
    (try simp only [dcs, ne_eq] at g5)
    rw [if_neg (fun q => by rw [g5] at q; cases q.2)] at hgo
    refine zT 1 rfl ⟨rfl, rfl, by rw [hgo]⟩
   intro g5
   (try simp only [dcs, ne_eq] at g5)
   have hok : okN N c.b (few, is) = true := okN_yes (by omega) hz
   rw [if_pos ⟨hok, g5⟩, List.length_singleton] at hlen
   refine go_draw ([cl bo 0 [.pointer (some ⟨b, 0, none⟩)], cl bC 0 [.int .u32 c.h.p, .slice CA c.h.a.length cc, .slice CB c.b.length cd]]) ([]) [0, 2] (SL.pre [(1, 1), (2, 0), (2, 2), (0, 3), (0, 4)] .nil) mixed rfl (by kernel_rfl) ?_
   refine zK 1 ?_
   refine zK 0 ?_
   refine go_call (choiceBecomes bH few is hf hi c.h CA cc (by have := H.lh; omega) H.vh) rfl rfl (by rfl) rfl zM zM (fun _ v Ps' Os' hq => by obtain ⟨A6, c6, rfl, rfl, rfl⟩ := hq; exact satS zM zM) ?_
   rintro _ _ _ ⟨A6, c6, rfl, rfl, rfl⟩
   refine zC3 0 (relPut b out (ofA (putA few is c.h)) A6 c6 ho (by omega) (by have h1 := ofA_len (putA few is c.h); have h2 := H.lh; rw [putA_len] at h1; omega)) ?_
   refine zT 1 rfl ⟨rfl, rfl, by rw [hgo, if_pos ⟨hok, g5⟩]⟩
  intro hq1
  refine zR 4 ?_
  refine go_elem_li (xs := c.b) zM (k) (List.getElem?_eq_getElem (by omega)) (fun b4 o4 A4 c4 hA => ?_); cases hA
  refine zI 1 ?_
  refine zL 0 ?_
  refine zW 0 ?_
  intro bM
  refine zS 0 ?_
  refine zR 1 ?_
  refine go_freeze_pt (b := bM) zM ?_
  have hvk := H.vb c.b[k] (List.getElem_mem _)
  have hlk := H.lb c.b[k] (List.getElem_mem _)
  refine zR 1 ?_
  refine go_draw ([cl bn 0 [.pointer pn], cl bM 0 [.bool c.b[k].no, .int .u32 c.b[k].a.p, .slice A4 c.b[k].a.a.length c4]]) ([]) [1, 3, 5] (SL.pre [(1, 0), (2, 1), (1, 2), (1, 4), (2, 3), (2, 5), (0, 6), (0, 7), (1, 8)] .nil) mixed rfl (by kernel_rfl) ?_
  refine zK 1 ?_
  refine zG' 1 70 ?_ ?_
  ·intro g3
   (try simp only [dcs, ne_eq] at g3)
   have hkz : ¬ (c.b[k].no = true ∧ ofA (putA few is c.b[k].a) ∈ N) := fun q => by rw [g3] at q; cases q.1
   refine zJ 1 ?_
   refine zJ 0 ?_
   refine go_skip0f rfl satA rfl ?_
   refine zDf 3 ?_
   refine zR 6 ?_
   refine zi 64 ?_
   refine zz (k + 1) (⟨by omega, mem_take_next (by omega) hz hkz⟩) (by omega)
  intro g3
  (try simp only [dcs, ne_eq] at g3)
  refine zK 1 ?_
  refine zK 0 ?_
  refine go_call (choiceBecomes bH few is hf hi c.b[k].a A4 c4 (by omega) hvk) rfl rfl (by rfl) rfl zM zM (fun _ v Ps' Os' hq => by obtain ⟨A5, c5, rfl, rfl, rfl⟩ := hq; exact satS zM zM) ?_
  rintro _ _ _ ⟨A5, c5, rfl, rfl, rfl⟩
  refine zC3 0 (relHasN pn N (ofA (putA few is c.b[k].a)) A5 c5 H.rN H.nN) ?_
  refine zB 2 ?_ ?_
  ·intro g4
   (try simp only [dcs, ne_eq] at g4)
   refine zT 0 rfl ⟨rfl, rfl, by rw [hgo, if_neg (fun q => by rw [okN_no (c := (few, is)) (by omega) g3 g4] at q; cases q.1)]⟩
  intro g4
  (try simp only [dcs, ne_eq] at g4)
  have hkz : ¬ (c.b[k].no = true ∧ ofA (putA few is c.b[k].a) ∈ N) := fun q => g4 q.2
  refine zR 6 ?_
  refine zi 64 ?_
  refine zz (k + 1) (⟨by omega, mem_take_next (by omega) hz hkz⟩) (by omega)
 intro g0
 refine zR 1 ?_
 refine go_elem_li (xs := c.b) zM (i) (List.getElem?_eq_getElem (by omega)) (fun b0 o0 A0 c0 hA => ?_); cases hA
 refine zL 2 ?_
 refine zI 1 ?_
 refine zL 0 ?_
 refine zW 0 ?_
 intro bL
 refine zS 0 ?_
 refine zR 1 ?_
 refine go_freeze_pt (b := bL) zM ?_
 have hvl := H.vb c.b[i] (List.getElem_mem _)
 have hll := H.lb c.b[i] (List.getElem_mem _)
 have hnl := putA_nn (is := is) hv (H.nn c.b[i] (List.getElem_mem _))
 refine zE 0 [0, 2, 4, 5, 6, 10, 12] ?_
 refine zL 4 ?_
 refine zB 1 ?_ ?_
 ·intro g1
  (try simp only [dcs, ne_eq] at g1)
  have hgo := goL_not (F := F) (R := R) (N := N) (by omega) g1 (few, is) new
  rw [hgo] at hlen
  refine zL 2 ?_
  refine zR 2 ?_
  refine go_re 31 (.int .i64 ((i + 1 : Nat) : Int)) (by show some (Value.int _ _) = _; rw [wrap_i64 (by omega) (by omega)]; rfl) ?_
  refine go_val0 rfl (load_val (cs := hc few is []) Tk rfl rfl rfl (at_allcl zM (hc_len hf hi)) rfl) rfl ?_
  refine zC3 1 (ih (by omega) few is new out (by omega) hf hi hv ho hlen) ?_
  refine zE 1 [] ?_
  refine zT 0 rfl ⟨rfl, rfl, by rw [hgo]⟩
 intro g1
 (try simp only [dcs, ne_eq] at g1)
 have hgo := goL_yes (F := F) (R := R) (N := N) (by omega) g1 few is new
 rw [hgo] at hlen
 refine zR 3 ?_
 refine go_draw ([cl bf 0 [.pointer pf], cl bL 0 [.bool c.b[i].no, .int .u32 c.b[i].a.p, .slice A0 c.b[i].a.a.length c0]]) ([]) [0, 2] (SL.pre [(1, 1), (1, 6), (2, 0), (2, 2), (0, 3), (0, 4), (1, 5)] .nil) mixed rfl (by kernel_rfl) ?_
 refine zK 2 ?_
 refine zK 0 ?_
 refine go_call (choicePut bH few is hf hi c.b[i].a A0 c0 (by omega) hvl) rfl rfl (by rfl) rfl zM zM (fun _ v Ps' Os' hq => by obtain ⟨A1, c1, rfl, rfl, rfl⟩ := hq; exact satS zM zM) ?_
 rintro _ _ _ ⟨A1, c1, rfl, rfl, rfl⟩
 refine zC 0 (relFindN pf F (putA few is c.b[i].a) A1 c1 hnl (by rw [putA_len]; omega) H.nF H.bF) ?_
 rintro _ _ _ ⟨A2, c2, rfl, rfl, rfl⟩
 refine go_freeze_dl (T := tFa) (A := A2) zM ?_
 refine go_len (xs := F.filter (mtch (putA few is c.b[i].a))) zM (fun l2 m2 => ?_)
 refine go_same (A := relO b out) (B := relO b (((F.filter (mtch (putA few is c.b[i].a))).take (0) |>.flatMap (goF c F R N i few is new)).foldl fput out)) zM rfl ?_
 refine zR 3 ?_
 refine zO (X := Nat) (fun k => [(41, .int .i64 (k : Int))]) [0, 2, 4, 6, 10, 12, 39, 40] (fun k => [relO b (((F.filter (mtch (putA few is c.b[i].a))).take (k) |>.flatMap (goF c F R N i few is new)).foldl fput out)]) (fun k => k ≤ (F.filter (mtch (putA few is c.b[i].a))).length) (fun k => (F.filter (mtch (putA few is c.b[i].a))).length - k) 0 (by omega) ?_
 intro k hk
 refine zD' 5 ?_ ?_
 ·intro hk2
  refine go_same (B := relO b ((F.filter (mtch (putA few is c.b[i].a))).flatMap (goF c F R N i few is new) |>.foldl fput out)) .here (by rw [List.take_of_length_le (by omega)]) ?_
  refine zT 1 rfl ⟨rfl, rfl, by rw [hgo]⟩
 intro hk2
 refine zR 4 ?_
 have hkl : k < (F.filter (mtch (putA few is c.b[i].a))).length := by omega
 obtain ⟨f, hfe⟩ : ∃ f, f = (F.filter (mtch (putA few is c.b[i].a)))[k] := ⟨_, rfl⟩
 have hfm : f ∈ F.filter (mtch (putA few is c.b[i].a)) := by rw [hfe]; exact List.getElem_mem hkl
 rw [List.mem_filter] at hfm
 refine go_elem_fa (xs := F.filter (mtch (putA few is c.b[i].a))) zM (k) (List.getElem?_eq_getElem (by omega)) (fun b3 o3 A3 c3 hA => ?_); cases hA
 rw [← hfe]
 refine zI 1 ?_
 refine zL 0 ?_
 refine zW 0 ?_
 intro bX
 refine zS 0 ?_
 refine zR 1 ?_
 refine go_freeze_pt (b := bX) zM ?_
 refine go_draw ([cl bF 0 [.func (.func 135) #[] #[.pointer (some ⟨bC, 0, none⟩), .pointer (some ⟨bF, 0, none⟩), .pointer (some ⟨bf, 0, none⟩), .pointer (some ⟨bg, 0, none⟩), .pointer (some ⟨bn, 0, none⟩), .pointer (some ⟨bo, 0, none⟩)]], cl bH 0 (hc few is []), cl bL 0 [.bool c.b[i].no, .int .u32 c.b[i].a.p, .slice A0 c.b[i].a.a.length c0], cl bX 0 [.int .u32 f.p, .slice A3 f.a.length c3], cl bg 0 [.pointer pg]]) ([]) [0, 3, 5, 6, 10, 11] (SL.pre [(1, 1), (1, 2), (1, 4), (1, 8), (2, 0), (2, 3), (2, 5), (2, 6), (0, 7), (1, 9), (2, 10), (2, 11), (0, 12), (1, 13), (0, 14)] .nil) mixed rfl (by kernel_rfl) ?_
 refine zR 2 ?_
 refine go_re 47 (.int .i64 ((i + 1 : Nat) : Int)) (by show some (Value.int _ _) = _; rw [wrap_i64 (by omega) (by omega)]; rfl) ?_
 refine zK 2 ?_
 refine go_val2a rfl (load_val (cs := hc few is []) Tk rfl rfl rfl (at_allcl zM (hc_len hf hi)) rfl) rfl ?_
 refine zK 0 ?_
 refine zK 0 ?_
 refine go_call (choiceMeets few is hf hi c.b[i].a A0 c0 f A3 c3 (by have := (show Mt _ f from of_decide_eq_true hfm.2).pred.2; rw [putA_len] at this; exact this) hvl) rfl rfl (by rfl) rfl zM zM (fun _ v Ps' Os' hq => by obtain ⟨rfl, rfl, rfl⟩ := hq; exact satS zM zM) ?_
 rintro _ _ _ ⟨rfl, rfl, rfl⟩
 refine zG 1 54 ?_ ?_
 ·intro g2
  (try simp only [dcs, ne_eq] at g2)
  refine zJ 0 ?_
  refine zJ 0 ?_
  refine go_skip0f rfl satA rfl ?_
  refine zR 1 ?_
  refine go_re 58 (.bool (new || decide (f ∈ R))) (by show some (Value.bool _) = _; rw [g2]; simp) ?_
  have hfg : goF c F R N i few is new (F.filter (mtch (putA few is c.b[i].a)))[k] = goL c F R N (c.b.drop (i + 1)) (meetL f.a (few, is) c.b[i].a.a 0) (new || decide (f ∈ R)) := by
    unfold goF
    rw [← hfe, List.getElem?_eq_getElem (by omega)]; rfl
  have hfl := flat_len hkl (goF c F R N i few is new)
  rw [hfg] at hfl
  have hol := foldl_flen ((F.filter (mtch (putA few is c.b[i].a))).take k |>.flatMap (goF c F R N i few is new)) out
  refine zC3 0 (ih (by omega) (meetL f.a (few, is) c.b[i].a.a 0).1 (meetL f.a (few, is) c.b[i].a.a 0).2 (new || decide (f ∈ R)) (((F.filter (mtch (putA few is c.b[i].a))).take (k) |>.flatMap (goF c F R N i few is new)).foldl fput out) (by omega) (meetL_ok f.a _ (few, is) 0 ⟨hf, hi⟩).f (meetL_ok f.a _ (few, is) 0 ⟨hf, hi⟩).i (meetL_nn f.a (H.oF f hfm.1) _ (few, is) 0 hv) (foldl_rises _ _ ho) (by show _ + (goL c F R N (c.b.drop (i + 1)) (meetL f.a (few, is) c.b[i].a.a 0) (new || decide (f ∈ R))).length ≤ _; omega)) ?_
  refine zE 1 [0, 2, 4, 6, 10, 12, 39, 40, 41, 55, 56, 57] ?_
  refine zR 5 ?_
  refine zi 41 ?_
  refine go_same (B := relO b (((F.filter (mtch (putA few is c.b[i].a))).take (k + 1) |>.flatMap (goF c F R N i few is new)).foldl fput out)) .here (by rw [flat_next hkl, List.foldl_append, hfg]) ?_
  refine zz (k + 1) (by omega) (by omega)
 intro g2
 (try simp only [dcs, ne_eq] at g2)
 refine zK 0 ?_
 refine zK 0 ?_
 refine go_call (relHasN pg R f A3 c3 H.rR H.nR) rfl rfl (by rfl) rfl zM zM (fun _ v Ps' Os' hq => by obtain ⟨rfl, rfl, rfl⟩ := hq; exact satS zM zM) ?_
 rintro _ _ _ ⟨rfl, rfl, rfl⟩
 refine zR 1 ?_
 refine go_re 58 (.bool (new || decide (f ∈ R))) (by show some (Value.bool _) = _; rw [g2]; simp) ?_
 have hfg : goF c F R N i few is new (F.filter (mtch (putA few is c.b[i].a)))[k] = goL c F R N (c.b.drop (i + 1)) (meetL f.a (few, is) c.b[i].a.a 0) (new || decide (f ∈ R)) := by
   unfold goF
   rw [← hfe, List.getElem?_eq_getElem (by omega)]; rfl
 have hfl := flat_len hkl (goF c F R N i few is new)
 rw [hfg] at hfl
 have hol := foldl_flen ((F.filter (mtch (putA few is c.b[i].a))).take k |>.flatMap (goF c F R N i few is new)) out
 refine zC3 0 (ih (by omega) (meetL f.a (few, is) c.b[i].a.a 0).1 (meetL f.a (few, is) c.b[i].a.a 0).2 (new || decide (f ∈ R)) (((F.filter (mtch (putA few is c.b[i].a))).take (k) |>.flatMap (goF c F R N i few is new)).foldl fput out) (by omega) (meetL_ok f.a _ (few, is) 0 ⟨hf, hi⟩).f (meetL_ok f.a _ (few, is) 0 ⟨hf, hi⟩).i (meetL_nn f.a (H.oF f hfm.1) _ (few, is) 0 hv) (foldl_rises _ _ ho) (by show _ + (goL c F R N (c.b.drop (i + 1)) (meetL f.a (few, is) c.b[i].a.a 0) (new || decide (f ∈ R))).length ≤ _; omega)) ?_
 refine zE 1 [0, 2, 4, 6, 10, 12, 39, 40, 41, 55, 56, 57] ?_
 refine zR 5 ?_
 refine zi 41 ?_
 refine go_same (B := relO b (((F.filter (mtch (putA few is c.b[i].a))).take (k + 1) |>.flatMap (goF c F R N i few is new)).foldl fput out)) .here (by rw [flat_next hkl, List.foldl_append, hfg]) ?_
 refine zz (k + 1) (by omega) (by omega)
theorem headsFrom (c : Cl) (CA : Option Addr) (cc : Nat) (CB : Option Addr) (cd : Nat) (bC bF bf bg bn bo b : Nat) (pf pg pn : Option Addr) (F R N : List Fa) (H : JoinH c F R N) : ∀ (n i : Nat) (few : List Int) (is : List Bool) (new : Bool) (out : List Fa) (hn : c.b.length - i = n) (hil : i ≤ c.b.length) (hf : few.length = 16) (hi : is.length = 16) (hv : ∀ v ∈ few, 0 ≤ v) (ho : rises out) (hlen : out.length + (goL c F R N (c.b.drop i) (few, is) new).length ≤ 50000000),
    Spec Tryz.prog 135 #[.int .i64 (i : Int), .agg (hc (few) (is) []).toArray, .bool (new), .pointer (some ⟨bC, 0, none⟩), .pointer (some ⟨bF, 0, none⟩), .pointer (some ⟨bf, 0, none⟩), .pointer (some ⟨bg, 0, none⟩), .pointer (some ⟨bn, 0, none⟩), .pointer (some ⟨bo, 0, none⟩)] [cl bC 0 [.int .u32 c.h.p, .slice CA c.h.a.length cc, .slice CB c.b.length cd], sl tTm CA cc c.h.a, sl tLi CB cd c.b, cl bF 0 [.func (.func 135) #[] #[.pointer (some ⟨bC, 0, none⟩), .pointer (some ⟨bF, 0, none⟩), .pointer (some ⟨bf, 0, none⟩), .pointer (some ⟨bg, 0, none⟩), .pointer (some ⟨bn, 0, none⟩), .pointer (some ⟨bo, 0, none⟩)]], cl bf 0 [.pointer pf], cl bg 0 [.pointer pg], cl bn 0 [.pointer pn], cl bo 0 [.pointer (some ⟨b, 0, none⟩)], relN pf F, relN pg R, relN pn N] [relO b out] (fun v Ps' Os' => v = .tuple #[] ∧ Ps' = [] ∧ Os' = [relO b ((goL c F R N (c.b.drop (i)) (few, is) (new)).foldl fput (out))])
  | 0, i, few, is, new, out, hn, hil, hf, hi, hv, ho, hlen => heads1 c CA cc CB cd bC bF bf bg bn bo b pf pg pn F R N H i few is new out hil hf hi hv ho hlen (fun h => absurd h (by omega))
  | n + 1, i, few, is, new, out, hn, hil, hf, hi, hv, ho, hlen => heads1 c CA cc CB cd bC bF bf bg bn bo b pf pg pn F R N H i few is new out hil hf hi hv ho hlen (fun h few' is' new' out' h1 h2 h3 h4 h5 h6 =>
      headsFrom c CA cc CB cd bC bF bf bg bn bo b pf pg pn F R N H n (i + 1) few' is' new' out' (by omega) h1 h2 h3 h4 h5 h6)
theorem goL_args (c : Cl) (F R N : List Fa) : ∀ (r : List Li) (ch : Ch) (new : Bool), ∀ x ∈ goL c F R N r ch new, x.a.length ≤ c.h.a.length
  | [], ch, new => by
    unfold goL
    split
    · intro x hx
      rw [List.mem_singleton] at hx
      subst hx
      exact Nat.le_trans (ofA_len _) (by rw [putA_len]; exact Nat.le_refl _)
    · intro x hx; cases hx
  | l :: r, ch, new => by
    unfold goL
    split
    · exact goL_args c F R N r ch new
    · intro x hx
      rw [List.mem_flatMap] at hx
      obtain ⟨f, _, hx⟩ := hx
      exact goL_args c F R N r _ _ x hx
structure JoinS (F R N : List Fa) : Prop where
  nF : F.length ≤ 50000000
  bF : ∀ x ∈ F, x.a.length ≤ 100000
  oF : ∀ x ∈ F, x.ok
  rR : rises R
  nR : R.length ≤ 50000000
  rN : rises N
  nN : N.length ≤ 50000000
theorem JoinS.h {c : Cl} {F R N : List Fa} (h : JoinS F R N) (ho : c.ok) (hr : (rightC [c]).2 = 0) : JoinH c F R N := by
  obtain ⟨h1, h2, _⟩ := right_one hr
  obtain ⟨g1, g2, g3⟩ := mayC_of h1
  exact ⟨may_vok g2 ho.1, fun l hl => may_vok (g3 l hl) (ho.2 l hl), Nat.le_trans (may_len6 g2) (by omega), fun l hl => Nat.le_trans (may_len6 (g3 l hl)) (by omega), fun l hl t ht => ((ho.2 l hl).2 t ht).1,
    h.nF, h.bF, fun x hx n hn => ((h.oF x hx).2 n hn).1, h.rR, h.nR, h.rN, h.nN⟩
theorem headsC_args {c : Cl} {F R N : List Fa} {some : Bool} (x : Fa) (hx : x ∈ headsC c F R N some) : x.a.length ≤ 6 := by
  unfold headsC at hx
  split at hx
  · rename_i h
    exact Nat.le_trans (goL_args c F R N _ _ _ x (mem_fof.1 hx)) (may_len6 (mayC_of (right_one h).1).2.1)
  · cases hx
theorem joinHeads (c : Cl) (CA : Option Addr) (cc : Nat) (CB : Option Addr) (cd : Nat) (pf pg pn : Option Addr) (F R N : List Fa) (hs : JoinS F R N) (hok : c.ok) (some : Bool) (hb : (goL c F R N c.b ch0 (!some)).length ≤ 50000000) :
    Spec Tryz.prog 105 #[.agg #[.int .u32 c.h.p, .slice CA c.h.a.length cc, .slice CB c.b.length cd], .pointer pf, .pointer pg, .pointer pn, .bool some] [sl tTm CA cc c.h.a, sl tLi CB cd c.b, relN pf F, relN pg R, relN pn N] [] (fun v Ps' Os' => ∃ A k, v = .slice A (headsC c F R N some).length k ∧ Ps' = [] ∧ Os' = [dl tFa 40 A k (headsC c F R N some)]) := by
 refine zSp _ Tryz.func105 Tryz.ntmps105 (fun _ _ _ => ?_)
 refine zX 2 ?_
 intro bC
 refine zX 0 ?_
 intro bf
 refine zX 0 ?_
 intro bg
 refine zX 0 ?_
 intro bn
 refine zR 2 ?_
 refine go_freeze_pt (b := bC) zM ?_
 refine go_freeze_pt (b := bf) zM ?_
 refine go_freeze_pt (b := bg) zM ?_
 refine go_freeze_pt (b := bn) zM ?_
 refine zL 3 ?_
 refine zV 0 ?_
 intro bs
 refine go_lit tCl (b := bs) [c] zM (fun hp a => ⟨[.int .u32 c.h.p, .slice CA c.h.a.length cc, .slice CB c.b.length cd], [], rfl, tCl_mk (a (sl tTm CA cc c.h.a) zM) (a (sl tLi CB cd c.b) zM), rfl⟩) (by simp) ?_
 refine zC3 0 (safeRight (Option.some ⟨bs, 0, none⟩) 1 [c]) ?_
 refine zE 6 [4, 5, 6, 7, 8, 12] ?_
 refine zN 5 ?_ ?_
 ·intro g1
  have hc0 : headsC c F R N some = [] := by unfold headsC; rw [if_neg (by simpa using g1)]
  refine go_down_nil tFa 40 none ?_
  refine zT 4 rfl ⟨none, 0, by rw [hc0]; rfl, rfl, by rw [hc0]⟩
 intro g1
 have g1' : (rightC [c]).2 = 0 := by simpa using g1
 have hc1 : headsC c F R N some = headsL c F R N some := by unfold headsC; rw [if_pos g1']
 have H := hs.h hok g1'
 refine zC 3 relNew ?_
 rintro _ _ _ ⟨b, rfl, rfl, rfl⟩
 refine zW 0 ?_
 intro bo
 refine zS 0 ?_
 refine zW 3 ?_
 intro bF
 refine zS 4 ?_
 refine zR 1 ?_
 refine go_freeze_pt (b := bo) zM ?_
 refine go_freeze_pt (b := bF) zM ?_
 refine zL 2 ?_
 refine zq 0 ?_
 refine go_re 26 (.agg (hc (List.replicate 16 0) (List.replicate 16 false) []).toArray) (by rfl) ?_
 refine zC3 2 (headsFrom c CA cc CB cd bC bF bf bg bn bo b pf pg pn F R N H (c.b.length - 0) 0 (List.replicate 16 0) (List.replicate 16 false) (!some) [] rfl (by omega) (by simp) (by simp) (by intro v hv; rw [List.mem_replicate] at hv; omega) rises_nil (by show 0 + _ ≤ _; rw [Nat.zero_add]; exact hb)) ?_
 refine go_same (A := relO b _) (B := relO b (headsL c F R N some)) zM rfl ?_
 refine go_freeze_rel (b := b) zM ?_
 refine go_ent (relN (Option.some ⟨b, 0, none⟩) (headsL c F R N some)) (fun hh hps => relN_some (hps (relP b (headsL c F R N some)) zM)) ?_
 refine zE 1 [13] ?_
 refine zL 2 ?_
 refine zC 0 (relListN (Option.some ⟨b, 0, none⟩) (headsL c F R N some) (Nat.le_trans (fof_len _) hb) (fun x hx => by have := headsC_args (c := c) (F := F) (R := R) (N := N) (some := some) x (by rw [hc1]; exact hx); omega)) ?_
 rintro _ _ _ ⟨A9, c9, rfl, rfl, rfl⟩
 refine zT 2 rfl ⟨A9, c9, by rw [hc1], rfl, by rw [hc1]⟩
theorem joinHeadsAll (c : Cl) (CA : Option Addr) (cc : Nat) (CB : Option Addr) (cd : Nat) (pf pn : Option Addr) (F N : List Fa) (hs : JoinS F [] N) (hok : c.ok) (hb : (goL c F [] N c.b ch0 true).length ≤ 50000000) :
    Spec Tryz.prog 69 #[.agg #[.int .u32 c.h.p, .slice CA c.h.a.length cc, .slice CB c.b.length cd], .pointer pf, .pointer pn] [sl tTm CA cc c.h.a, sl tLi CB cd c.b, relN pf F, relN pn N] [] (fun v Ps' Os' => ∃ A k, v = .slice A (headsC c F [] N false).length k ∧ Ps' = [] ∧ Os' = [dl tFa 40 A k (headsC c F [] N false)]) := by
 refine zSp _ Tryz.func69 Tryz.ntmps69 (fun _ _ _ => ?_)
 refine zX 2 ?_
 intro bC
 refine zR 2 ?_
 refine go_freeze_pt (b := bC) zM ?_
 refine go_ent (relN none []) (fun _ _ => relN_nil) ?_
 refine zL 2 ?_
 refine zC 2 (joinHeads c CA cc CB cd pf none pn F [] N hs hok false hb) ?_
 rintro _ _ _ ⟨A9, c9, rfl, rfl, rfl⟩
 refine zT 2 rfl ⟨A9, c9, rfl, rfl, rfl⟩
theorem joinNews (c : Cl) (CA : Option Addr) (cc : Nat) (CB : Option Addr) (cd : Nat) (pf pg pn : Option Addr) (F R N : List Fa) (hs : JoinS F R N) (hok : c.ok) (hb : (goL c F R N c.b ch0 false).length ≤ 50000000) :
    Spec Tryz.prog 72 #[.agg #[.int .u32 c.h.p, .slice CA c.h.a.length cc, .slice CB c.b.length cd], .pointer pf, .pointer pg, .pointer pn] [sl tTm CA cc c.h.a, sl tLi CB cd c.b, relN pf F, relN pg R, relN pn N] [] (fun v Ps' Os' => ∃ A k, v = .slice A (headsC c F R N true).length k ∧ Ps' = [] ∧ Os' = [dl tFa 40 A k (headsC c F R N true)]) := by
 refine zSp _ Tryz.func72 Tryz.ntmps72 (fun _ _ _ => ?_)
 refine zX 2 ?_
 intro bC
 refine zR 2 ?_
 refine go_freeze_pt (b := bC) zM ?_
 refine zL 2 ?_
 refine zC 3 (joinHeads c CA cc CB cd pf pg pn F R N hs hok true hb) ?_
 rintro _ _ _ ⟨A9, c9, rfl, rfl, rfl⟩
 refine zT 2 rfl ⟨A9, c9, rfl, rfl, rfl⟩
end Go.Proofs.YtdconhalfanclaaGreat.SL

