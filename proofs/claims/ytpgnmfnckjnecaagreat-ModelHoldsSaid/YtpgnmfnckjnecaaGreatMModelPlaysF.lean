/- Engine, data and contracts: parts of the proof of ModelPlays, put together (Law14b Modelb EA Law15a Law15p S8 Open SE Law15h EB Law15b Law15c). -/
import Derived.Test.YtpgnmfnckjnecaaGreatMModelPlaysE
import Derived.Test.YtpgnmfnckjnecaaGreatMModelPlaysB
import Derived.Test.YtpgnmfnckjnecaaGreatMModelPlaysD
import Derived.Test.YtpgnmfnckjnecaaGreatMModelPlaysA
import Derived.WalkKit
import Derived.ProofKit
import Derived.OpenShut
import Derived.ShutString
import Derived.ChangeOld
import Derived.Below
import Derived.Carry
import Derived.SizedLaws
import Derived.Deep.Slices
set_option linter.unusedVariables false
set_option linter.unusedSimpArgs false
set_option maxHeartbeats 2000000
set_option maxRecDepth 20000
namespace Go.Proofs.YtpgnmfnckjnecaaGreat.SL
open Go
theorem ref14right (l : List Cl) (LA : Option Addr) (lc : Nat) (hb : ∀ c ∈ l, c.b.length ≤ 1000) :
    Spec Tryz.prog 60 #[.slice LA l.length lc] [sl tCl LA lc l] [] (fun v Ps' Os' => v = .bool (fixR l) ∧ Ps' = [] ∧ Os' = []) := by
 refine zSp [.slice LA l.length lc] Tryz.func60 Tryz.ntmps60 (fun w0 hp0 hf0 => ?_)
 refine zC3 7 (ref11Right LA lc l hb) ?_
 refine zN 12 ?_ ?_
 ·intro g1
  refine zT 4 rfl ⟨by rw [show fixR l = false from decide_eq_false (fun q => g1 q.1)], rfl, rfl⟩
 intro g1
 refine zR 3 ?_
 refine go_len (xs := l) zM (fun l0 m0 => ?_)
 refine zR 4 ?_
 refine zO (X := Nat) (fun i => [(5, .int .i64 (i : Int))]) [0] (fun _ => []) (fun i => i ≤ l.length ∧ ∀ c ∈ l.take i, ∀ x ∈ c.b, x.no = true → ∀ d ∈ l, ¬ d.h.p = x.a.p) (fun i => l.length - i) 0 ⟨by omega, by simp⟩ ?_
 intro i ⟨hi, hz⟩
 refine zD' 8 ?_ ?_
 ·intro hq1
  refine zT 5 rfl ⟨by rw [show fixR l = true from decide_eq_true ⟨by simpa using g1, fun c hc => by rw [List.take_of_length_le (by omega)] at hz; exact hz c hc⟩], rfl, rfl⟩
 intro hq1
 refine zR 4 ?_
 refine go_elem_cl (xs := l) zM (i) (List.getElem?_eq_getElem (by omega)) (fun b1 o1 A1 c1 B1 d1 hA => ?_); cases hA
 refine go_len (xs := l[i].b) zM (fun l1 m1 => ?_)
 refine zR 4 ?_
 refine zO (X := Nat) (fun j => [(6, .int .i64 (j : Int))]) [0, 5] (fun _ => []) (fun j => j ≤ l[i].b.length ∧ ∀ x ∈ l[i].b.take j, x.no = true → ∀ d ∈ l, ¬ d.h.p = x.a.p) (fun j => l[i].b.length - j) 0 ⟨by omega, by simp⟩ ?_
 intro j ⟨hj, hy⟩
 refine zI 6 ?_
 refine zL 1 ?_
 refine zD' 3 ?_ ?_
 ·intro hq2
  refine zR 7 ?_
  refine go_i64 5 rfl (by omega) (by omega) ?_
  refine zz (i + 1) (⟨by omega, mem_take_next (by omega) hz (by rw [List.take_of_length_le (by omega)] at hy; exact hy)⟩) (by omega)
 intro hq2
 refine zR 4 ?_
 refine go_elem_li (xs := l[i].b) zM (j) (List.getElem?_eq_getElem (by omega)) (fun b3 o3 A3 c3 hA => ?_); cases hA
 refine zR 4 ?_
 refine zO (X := Nat) (fun m => [(7, .int .i64 (m : Int))]) [0, 5, 6] (fun _ => []) (fun m => m ≤ l.length ∧ (l[i].b[j].no = true → ∀ d ∈ l.take m, ¬ d.h.p = l[i].b[j].a.p)) (fun m => l.length - m) 0 ⟨by omega, by simp⟩ ?_
 intro m ⟨hm, hw⟩
 refine zG' 8 35 ?_ ?_
 ·intro g2
  (try simp only [dcs, ne_eq] at g2)
  refine zDf 11 ?_
  refine zR 7 ?_
  refine go_i64 6 rfl (by omega) (by omega) ?_
  refine zz (j + 1) (⟨by omega, mem_take_next (by omega) hy (fun q => by first | exact absurd (g3.symm.trans q) (by decide) | (rw [List.take_of_length_le (by omega)] at hw; exact hw q))⟩) (by omega)
 intro g2
 (try simp only [dcs, ne_eq] at g2)
 refine zI 2 ?_
 refine zL 1 ?_
 refine zI 1 ?_
 refine zL 1 ?_
 refine zB' 2 ?_ ?_
 ·intro g3
  (try simp only [dcs, ne_eq] at g3)
  refine zR 7 ?_
  refine go_i64 6 rfl (by omega) (by omega) ?_
  refine zz (j + 1) (⟨by omega, mem_take_next (by omega) hy (fun q => by first | exact absurd (g3.symm.trans q) (by decide) | (rw [List.take_of_length_le (by omega)] at hw; exact hw q))⟩) (by omega)
 intro g3
 (try simp only [dcs, ne_eq] at g3)
 refine zR 4 ?_
 refine go_elem_cl (xs := l) zM (m) (List.getElem?_eq_getElem (by omega)) (fun b4 o4 A4 c4 B4 d4 hA => ?_); cases hA
 refine go_draw ([cl b1 (o1 + m * 3) [.int .u32 l[m].h.p, .slice A4 l[m].h.a.length c4, .slice B4 l[m].b.length d4], cl b1 (o1 + i * 3) [.int .u32 l[i].h.p, .slice A1 l[i].h.a.length c1, .slice (some ⟨b3, o3, none⟩) l[i].b.length d1], cl b3 (o3 + j * 3) [.bool l[i].b[j].no, .int .u32 l[i].b[j].a.p, .slice A3 l[i].b[j].a.a.length c3]]) ([]) [5, 10, 15] (SL.pre [(1, 0), (1, 1), (1, 2), (1, 3), (1, 4), (1, 6), (1, 7), (1, 8), (1, 9), (1, 11), (2, 5), (2, 10), (1, 12), (1, 13), (1, 14), (2, 15), (1, 16)] .nil) mixed rfl (by kernel_rfl) ?_
 refine zI 2 ?_
 refine zI 4 ?_
 refine zK 2 ?_
 refine zK 0 ?_
 refine zI 0 ?_
 refine zK 2 ?_
 refine zE 2 [0, 5, 6, 7, 36, 37, 38, 39, 40, 41, 42, 43, 44, 64] ?_
 refine zD 0 ?_ ?_
 ·intro g4
  refine zE 4 [2] ?_
  refine zT 0 rfl ⟨by rw [show fixR l = false from decide_eq_false (fun q => q.2 l[i] (List.getElem_mem _) _ (List.getElem_mem _) g3 l[m] (List.getElem_mem _) g4)], rfl, rfl⟩
 intro g4
 refine zR 7 ?_
 refine go_i64 7 rfl (by omega) (by omega) ?_
 refine zz (m + 1) (⟨by omega, fun q => mem_take_next (by omega) (hw q) g4⟩) (by omega)
theorem flatMap_le {α β : Type} {l : List α} {g : α → List β} {n : Nat} (h : ∀ x ∈ l, (g x).length ≤ n) : (l.flatMap g).length ≤ l.length * n := by
  induction l with
  | nil => simp
  | cons x l ih =>
    rw [List.flatMap_cons, List.length_append, List.length_cons, Nat.add_mul, Nat.one_mul]
    have := h x (.head _)
    have := ih fun y hy => h y (.tail _ hy)
    omega
set_option maxHeartbeats 4000000 in
theorem ref14Least (l : List Cl) (LA : Option Addr) (lc : Nat) (a : List Fa) (A : Option Addr) (ka : Nat) (most : Int) (hl : ∀ c ∈ l, c.ok) (hb : ∀ c ∈ l, c.b.length ≤ 1000) (hll : l.length ≤ 20) (ha : a.length ≤ 60) (hm : most ≤ 60) (hbig : ∀ c ∈ l, ∀ F : List Fa, F.length ≤ 60 → (goL c F [] (fof a) c.b ch0 true).length ≤ 216000) :
    Spec Tryz.prog 33 #[.slice LA l.length lc, .slice A a.length ka, .int .i64 most] [sl tCl LA lc l, sl tFa A ka a] [] (fun v Ps' Os' => ∃ b e A' k', RefL l (fof a) most b e ∧ v = .tuple #[.slice A' b.length k', .int .i64 e] ∧ Ps' = [sl tFa A' k' b] ∧ Os' = []) := by
 refine zSp [.slice LA l.length lc, .slice A a.length ka, .int .i64 most] Tryz.func33 Tryz.ntmps33 (fun w0 hp0 hf0 => ?_)
 refine zC3 9 (ref14right l LA lc hb) ?_
 refine zG 2 17 ?_ ?_
 ·intro g1
  (try simp only [dcs, ne_eq] at g1)
  refine zDt 4 ?_
  refine zR 1 ?_
  refine go_ent (sl tFa none 0 []) (fun h _ => Sl_nil tFa h) ?_
  refine zT 4 rfl ⟨[], 1, none, 0, .arg (.inr g1), rfl, rfl, rfl⟩
 intro g1
 (try simp only [dcs, ne_eq] at g1)
 refine zB 4 ?_ ?_
 ·intro g2
  (try simp only [dcs, ne_eq] at g2)
  refine zR 1 ?_
  refine go_ent (sl tFa none 0 []) (fun h _ => Sl_nil tFa h) ?_
  refine zT 4 rfl ⟨[], 1, none, 0, .arg (.inl g2), rfl, rfl, rfl⟩
 intro g2
 (try simp only [dcs, ne_eq] at g2)
 refine zR 2 ?_
 have g2' : 0 ≤ most := by omega
 refine zC 2 (ref13Sorted A ka a (by omega)) ?_
 rintro _ _ _ ⟨AN, kN, rfl, rfl, rfl⟩
 refine zE 2 [0, 2, 8] ?_
 refine zR 5 ?_
 refine go_re 9 (.slice AN (Sq l (fof a) 0).length kN) (by rfl) ?_
 have hS0 : (Sq l (fof a) 0).length ≤ 60 := Nat.le_trans (fof_len a) ha
 refine go_sl (sl tFa AN kN (fof a)) (sl tFa AN kN (Sq l (fof a) 0)) zM (fun _ h => h) ?_
 refine zR 1 ?_
 refine go_loop (X := Nat × Option Addr × Nat) (fun x => [(9, .slice x.2.1 (Sq l (fof a) x.1).length x.2.2)]) [(0, _), (2, _), (8, _)] (fun x => [sl tFa x.2.1 x.2.2 (Sq l (fof a) x.1), sl tCl LA lc l, sl tFa A ka a, sl tFa AN kN (fof a)]) (fun _ => []) (fun x => (Sq l (fof a) x.1).length ≤ 60 ∧ ∀ j < x.1, ¬ nx l (fof a) (Sq l (fof a) j) = []) (fun x => 61 - (Sq l (fof a) x.1).length) ((0, AN, kN)) zA zM zM ⟨hS0, fun j hj => absurd hj (Nat.not_lt_zero j)⟩ ?_
 intro ⟨k, AS, kS⟩ ⟨hkS, hkn⟩
 simp only at hkS hkn ⊢
 have hrS := rises_Sq (l := l) (rises_fof a) k
 have hlenS := Sq_len l (fof a) k
 refine zR 2 ?_
 skip
 refine zR 6 ?_
 refine go_len (xs := l) zM (fun l0 m0 => ?_)
 have hhl : ∀ c ∈ l, (headsC c (Sq l (fof a) k) [] (fof a) false).length ≤ 216000 := fun c hc => headsC_len (hbig c hc _ hkS)
 have hxl : ∀ i, (((l.take (i)).flatMap (fun c => headsC c (Sq l (fof a) k) [] (fof a) false))).length ≤ i * 216000 := fun i => by
   exact Nat.le_trans (flatMap_le (n := 216000) (fun c hc => hhl c (List.mem_of_mem_take hc))) (Nat.mul_le_mul_right _ (by rw [List.length_take]; omega))
 refine zR 3 ?_
 refine go_re 10 (.slice AS (((l.take (0)).flatMap (fun c => headsC c (Sq l (fof a) k) [] (fof a) false)).foldl fput (Sq l (fof a) k)).length kS) (by rfl) ?_
 refine go_sl (sl tFa AS kS (Sq l (fof a) k)) (sl tFa AS kS (((l.take (0)).flatMap (fun c => headsC c (Sq l (fof a) k) [] (fof a) false)).foldl fput (Sq l (fof a) k))) zM (fun _ h => h) ?_
 refine zR 1 ?_
 refine go_loop (X := Nat × Option Addr × Nat) (fun x => [(10, .slice x.2.1 (((l.take (x.1)).flatMap (fun c => headsC c (Sq l (fof a) k) [] (fof a) false)).foldl fput (Sq l (fof a) k)).length x.2.2), (11, .int .i64 (x.1 : Int))]) [(0, _), (2, _), (8, _), (9, _)] (fun x => [sl tFa x.2.1 x.2.2 (((l.take (x.1)).flatMap (fun c => headsC c (Sq l (fof a) k) [] (fof a) false)).foldl fput (Sq l (fof a) k)), sl tFa AS kS (Sq l (fof a) k), sl tCl LA lc l, sl tFa A ka a, sl tFa AN kN (fof a)]) (fun _ => []) (fun x => x.1 ≤ l.length) (fun x => l.length - x.1) ((0, AS, kS)) zA zM zM (by omega) ?_
 intro ⟨i, A7, k7⟩ hi
 simp only at hi ⊢
 refine zD' 8 ?_ ?_
 ·intro hq1
  refine zR 3 ?_
  have hxn : ((l.take (i)).flatMap (fun c => headsC c (Sq l (fof a) k) [] (fof a) false)).foldl fput (Sq l (fof a) k) = Sq l (fof a) (k + 1) := by rw [List.take_of_length_le (show l.length ≤ i by omega)]; exact fold_next_S hrS
  obtain ⟨A9, rfl⟩ : ∃ A9, A9 = A7 := ⟨_, rfl⟩
  obtain ⟨k9, rfl⟩ : ∃ k9, k9 = k7 := ⟨_, rfl⟩
  refine go_re 10 (.slice A9 (Sq l (fof a) (k + 1)).length k9) (by show some (Value.slice _ _ _) = _; rw [hxn]) ?_
  refine go_sl (sl tFa A9 k9 (((l.take (i)).flatMap (fun c => headsC c (Sq l (fof a) k) [] (fof a) false)).foldl fput (Sq l (fof a) k))) (sl tFa A9 k9 (Sq l (fof a) (k + 1))) zM (fun _ h => hxn ▸ h) ?_
  refine zD 6 ?_ ?_
  ·intro g3
   refine zR 1 ?_
   refine go_ent (sl tFa none 0 []) (fun h _ => Sl_nil tFa h) ?_
   refine zE 4 [6, 7] ?_
   refine zT 0 rfl ⟨[], 6, none, 0, .many (k + 1) g2' g1 (by omega), rfl, rfl, rfl⟩
  intro g3
  refine zE 10 [0, 2, 8, 9, 10, 58] ?_
  refine zD 0 ?_ ?_
  ·intro g5
   have g4 : nx l (fof a) (Sq l (fof a) k) = [] := List.eq_nil_of_length_eq_zero (by omega)
   refine zT 6 rfl ⟨Sq l (fof a) k, 0, AS, kS, .ok k g2' g1 (by omega) g4, rfl, rfl, rfl⟩
  intro g5
  have g4 : ¬ nx l (fof a) (Sq l (fof a) k) = [] := fun q => g5 (by rw [hlenS, q]; simp)
  refine zR 6 ?_
  have hpos := List.length_pos_iff.2 g4
  refine zz (k + 1, A9, k9) ⟨by show (Sq l (fof a) (k + 1)).length ≤ 60; omega, fun j hj => (Nat.lt_or_ge j k).elim (hkn j) (fun q => by rw [show j = k by have : j < k + 1 := hj; omega]; exact g4)⟩ (by show 61 - (Sq l (fof a) (k + 1)).length < 61 - (Sq l (fof a) k).length; omega)
 intro hq1
 refine zR 4 ?_
 refine go_elem_cl (xs := l) zM (i) (List.getElem?_eq_getElem (by omega)) (fun b1 o1 A1 c1 B1 d1 hA => ?_); cases hA
 refine zI 3 ?_
 refine zL 0 ?_
 refine zC 2 (ref13Heads l[i] A1 c1 B1 d1 (Sq l (fof a) k) AS kS (fof a) AN kN (hl _ (List.getElem_mem _)) (hb _ (List.getElem_mem _)) (Nat.le_trans (hbig _ (List.getElem_mem _) _ hkS) (by omega))) ?_
 rintro _ _ _ ⟨AH, kH, rfl, rfl, rfl⟩
 refine zR 3 ?_
 refine go_len (xs := headsC l[i] (Sq l (fof a) k) [] (fof a) false) zM (fun l2 m2 => ?_)
 have hhi := hhl l[i] (List.getElem_mem _)
 have hxi := hxl i
 refine zR 3 ?_
 refine go_re 10 (.slice A7 (((l.take (i)).flatMap (fun c => headsC c (Sq l (fof a) k) [] (fof a) false) ++ (headsC l[i] (Sq l (fof a) k) [] (fof a) false).take (0)).foldl fput (Sq l (fof a) k)).length k7) (by show some (Value.slice _ _ _) = _; rw [List.take_zero, List.append_nil]) ?_
 refine go_sl (sl tFa A7 k7 (((l.take (i)).flatMap (fun c => headsC c (Sq l (fof a) k) [] (fof a) false)).foldl fput (Sq l (fof a) k))) (sl tFa A7 k7 (((l.take (i)).flatMap (fun c => headsC c (Sq l (fof a) k) [] (fof a) false) ++ (headsC l[i] (Sq l (fof a) k) [] (fof a) false).take (0)).foldl fput (Sq l (fof a) k))) zM (fun _ h => by rw [List.take_zero, List.append_nil]; exact h) ?_
 refine zR 1 ?_
 refine go_loop (X := Nat × Option Addr × Nat) (fun x => [(10, .slice x.2.1 (((l.take (i)).flatMap (fun c => headsC c (Sq l (fof a) k) [] (fof a) false) ++ (headsC l[i] (Sq l (fof a) k) [] (fof a) false).take (x.1)).foldl fput (Sq l (fof a) k)).length x.2.2), (13, .int .i64 (x.1 : Int))]) [(0, _), (2, _), (8, _), (9, _), (11, _), (12, _)] (fun x => [sl tFa x.2.1 x.2.2 (((l.take (i)).flatMap (fun c => headsC c (Sq l (fof a) k) [] (fof a) false) ++ (headsC l[i] (Sq l (fof a) k) [] (fof a) false).take (x.1)).foldl fput (Sq l (fof a) k)), sl tFa AH kH (headsC l[i] (Sq l (fof a) k) [] (fof a) false), sl tFa AS kS (Sq l (fof a) k), sl tCl (some ⟨b1, o1, none⟩) lc l, sl tFa A ka a, sl tFa AN kN (fof a)]) (fun _ => []) (fun x => x.1 ≤ (headsC l[i] (Sq l (fof a) k) [] (fof a) false).length) (fun x => (headsC l[i] (Sq l (fof a) k) [] (fof a) false).length - x.1) ((0, A7, k7)) zA zM zM (by omega) ?_
 intro ⟨j, A8, k8⟩ hj
 simp only at hj ⊢
 have hul := foldl_flen ((l.take (i)).flatMap (fun c => headsC c (Sq l (fof a) k) [] (fof a) false) ++ (headsC l[i] (Sq l (fof a) k) [] (fof a) false).take (j)) (Sq l (fof a) k)
 have hxs : ((l.take (i)).flatMap (fun c => headsC c (Sq l (fof a) k) [] (fof a) false) ++ (headsC l[i] (Sq l (fof a) k) [] (fof a) false).take (j)) = ((l.take (i)).flatMap (fun c => headsC c (Sq l (fof a) k) [] (fof a) false)) ++ (headsC l[i] (Sq l (fof a) k) [] (fof a) false).take j := rfl
 rw [List.length_append, List.length_take] at hul
 refine zD' 8 ?_ ?_
 ·intro g7
  have hxe : ((l.take (i)).flatMap (fun c => headsC c (Sq l (fof a) k) [] (fof a) false) ++ (headsC l[i] (Sq l (fof a) k) [] (fof a) false).take (j)).foldl fput (Sq l (fof a) k) = ((l.take (i + 1)).flatMap (fun c => headsC c (Sq l (fof a) k) [] (fof a) false)).foldl fput (Sq l (fof a) k) := by rw [List.take_of_length_le (show (headsC l[i] (Sq l (fof a) k) [] (fof a) false).length ≤ j by omega), ← flat_next (by omega)]
  refine zR 7 ?_
  refine go_i64 11 rfl (by omega) (by omega) ?_
  refine go_re 10 (.slice A8 (((l.take (i + 1)).flatMap (fun c => headsC c (Sq l (fof a) k) [] (fof a) false)).foldl fput (Sq l (fof a) k)).length k8) (by show some (Value.slice _ _ _) = _; rw [hxe]) ?_
  refine go_sl (sl tFa A8 k8 (((l.take (i)).flatMap (fun c => headsC c (Sq l (fof a) k) [] (fof a) false) ++ (headsC l[i] (Sq l (fof a) k) [] (fof a) false).take (j)).foldl fput (Sq l (fof a) k))) (sl tFa A8 k8 (((l.take (i + 1)).flatMap (fun c => headsC c (Sq l (fof a) k) [] (fof a) false)).foldl fput (Sq l (fof a) k))) zM (fun _ h => hxe ▸ h) ?_
  refine zz (i + 1, A8, k8) (by show i + 1 ≤ _; omega) (by show l.length - (i + 1) < l.length - i; omega)
 intro g7
 refine zR 3 ?_
 refine go_elem_fa (xs := headsC l[i] (Sq l (fof a) k) [] (fof a) false) zM (j) (List.getElem?_eq_getElem (by omega)) (fun b3 o3 A3 c3 hA => ?_); cases hA
 refine zI 4 ?_
 refine zL 0 ?_
 refine zC 0 (ref13With A8 k8 (((l.take (i)).flatMap (fun c => headsC c (Sq l (fof a) k) [] (fof a) false) ++ (headsC l[i] (Sq l (fof a) k) [] (fof a) false).take (j)).foldl fput (Sq l (fof a) k)) (headsC l[i] (Sq l (fof a) k) [] (fof a) false)[j] A3 c3 (foldl_rises _ _ hrS) (by have : i * 216000 ≤ 20 * 216000 := Nat.mul_le_mul_right _ (by omega); omega)) ?_
 rintro _ _ _ ⟨A6, k6, rfl, rfl, rfl⟩
 refine zR 8 ?_
 refine go_i64 13 rfl (by omega) (by omega) ?_
 have hnx : fput (((l.take (i)).flatMap (fun c => headsC c (Sq l (fof a) k) [] (fof a) false) ++ (headsC l[i] (Sq l (fof a) k) [] (fof a) false).take (j)).foldl fput (Sq l (fof a) k)) (headsC l[i] (Sq l (fof a) k) [] (fof a) false)[j] = ((l.take (i)).flatMap (fun c => headsC c (Sq l (fof a) k) [] (fof a) false) ++ (headsC l[i] (Sq l (fof a) k) [] (fof a) false).take ((j + 1))).foldl fput (Sq l (fof a) k) := by rw [List.take_succ_eq_append_getElem (show j < (headsC l[i] (Sq l (fof a) k) [] (fof a) false).length by omega), ← List.append_assoc]; simp only [List.foldl_append, List.foldl_cons, List.foldl_nil]
 refine go_re 10 (.slice A6 (((l.take (i)).flatMap (fun c => headsC c (Sq l (fof a) k) [] (fof a) false) ++ (headsC l[i] (Sq l (fof a) k) [] (fof a) false).take ((j + 1))).foldl fput (Sq l (fof a) k)).length k6) (by show some (Value.slice _ _ _) = _; rw [hnx]) ?_
 refine go_sl (sl tFa A6 k6 (fput (((l.take (i)).flatMap (fun c => headsC c (Sq l (fof a) k) [] (fof a) false) ++ (headsC l[i] (Sq l (fof a) k) [] (fof a) false).take (j)).foldl fput (Sq l (fof a) k)) (headsC l[i] (Sq l (fof a) k) [] (fof a) false)[j])) (sl tFa A6 k6 (((l.take (i)).flatMap (fun c => headsC c (Sq l (fof a) k) [] (fof a) false) ++ (headsC l[i] (Sq l (fof a) k) [] (fof a) false).take ((j + 1))).foldl fput (Sq l (fof a) k))) zM (fun _ h => hnx ▸ h) ?_
 refine zz (j + 1, A6, k6) (by show j + 1 ≤ _; omega) (by show _ - (j + 1) < _ - j; omega)
end Go.Proofs.YtpgnmfnckjnecaaGreat.SL
namespace Go.Proofs.YtpgnmfnckjnecaaGreat.SL
open Go Md
theorem strR_row {l : List Cl} {ss : List (List Nat)} {e : Int} (h : StrR l ss e) (he : e = 0) : ∀ p ∈ ss, p.length ≤ l.length := by
  cases h with
  | bad e h1 h2 => exact absurd he h1
  | ok lv h1 h2 h3 h4 =>
    intro p hp
    unfold strata at hp
    obtain ⟨k, _, rfl⟩ := List.mem_map.1 hp
    have := strI_len (l.map fun c => lv c.h.p) k
    rwa [List.length_map] at this
set_option maxHeartbeats 8000000 in
theorem ref15Of (l : List Cl) (LA : Option Addr) (lc : Nat) (fs : List Fa) (FA : Option Addr) (fc : Nat) (most : Int) (hl : ∀ c ∈ l, c.ok) (hb0 : ∀ x ∈ l, x.b.length ≤ 1000) (hll : l.length ≤ 20) (hfl : fs.length ≤ 60) (hm : most ≤ 60) (hbig : ∀ c ∈ l, ∀ F N : List Fa, F.length ≤ 60 → (goL c F [] N c.b ch0 true).length ≤ 216000) :
    Spec Tryz.prog 11 #[.slice LA l.length lc, .slice FA fs.length fc, .int .i64 most] [sl tCl LA lc l, sl tFa FA fc fs] [] (fun v Ps' Os' => ∃ A c r e, ModA l fs most r e ∧ v = .tuple #[.slice A (r.getD []).length c, .int .i64 e] ∧ Ps' = [sl tFa A c (r.getD [])] ∧ Os' = []) := by
 refine zSp [.slice LA l.length lc, .slice FA fs.length fc, .int .i64 most] Tryz.func11 Tryz.ntmps11 (fun w0 hp0 hf0 => ?_)
 refine zD 11 ?_ ?_
 ·intro g1
  refine go_sl_nil tFa ?_
  refine zT 5 rfl ⟨none, 0, none, 1, .arg g1, rfl, rfl, rfl⟩
 intro g1
 have g1' : 0 ≤ most := by omega
 refine zC 4 (ref12Strata l LA lc hb0) ?_
 rintro _ _ _ ⟨SA, sc, ss, e, hS, rfl, rfl, rfl⟩
 refine zN 12 ?_ ?_
 ·intro g2
  refine go_sl_nil tFa ?_
  refine zE 6 [6, 7] ?_
  refine zT 0 rfl ⟨none, 0, none, e, .strat g1' hS g2, rfl, rfl, rfl⟩
 intro g2
 subst g2
 obtain ⟨hr, hsl, hss⟩ := hS.zero rfl
 have hrw := strR_row hS rfl
 refine zC 5 (ref11Arities l LA lc fs FA fc hr) ?_
 rintro _ _ _ ⟨i1, e1, rfl, hA, rfl, rfl⟩
 refine zE 5 [0, 1, 2, 8, 9] ?_
 refine zN 6 ?_ ?_
 ·intro g3
  obtain ⟨rfl, hA'⟩ := hA.resolve_left (fun q => g3 q.1)
  refine go_sl_nil tFa ?_
  refine zT 6 rfl ⟨none, 0, none, 9, .ari g1' hS hA', rfl, rfl, rfl⟩
 intro g3
 have hA' := (hA.resolve_right (fun q => by have := q.1; omega)).2
 refine zC 4 (ref13Sorted FA fc fs (by omega)) ?_
 rintro _ _ _ ⟨AN, kN, rfl, rfl, rfl⟩
 refine zR 4 ?_
 refine go_len (xs := fof fs) zM (fun l7 m7 => ?_)
 refine zD 6 ?_ ?_
 ·intro g4
  refine go_sl_nil tFa ?_
  refine zE 5 [6, 7] ?_
  refine zT 0 rfl ⟨none, 0, none, 6, .run g1' hS hA' (.big (by omega)), rfl, rfl, rfl⟩
 intro g4
 have hfN : ((fof fs).length : Int) ≤ most := by omega
 refine zR 3 ?_
 refine go_len (xs := ss.map cs) zM (fun l0 m0 => ?_)
 rw [List.length_map] at l0
 refine go_len (xs := l) zM (fun l1 m1 => ?_)
 refine zR 4 ?_
 refine go_loop (X := Nat × List Fa × Option Addr × Nat) (fun x => [(10, .slice x.2.2.1 x.2.1.length x.2.2.2), (11, .int .i64 (x.1 : Int))]) [(0, _), (2, _), (8, _)] (fun x => [sl tFa x.2.2.1 x.2.2.2 x.2.1, sl tCl LA lc l, sl (tSl (tInt .i64)) SA sc (ss.map cs)]) (fun _ => []) (fun x => x.1 ≤ ss.length ∧ Upto (ss.map (clausesAt l)) most (fof fs) x.1 x.2.1) (fun x => ss.length - x.1) ((0, fof fs, AN, kN)) zA zM zM ⟨Nat.zero_le _, .zero⟩ ?_
 intro ⟨k, M, AM, kM⟩ ⟨hk, hU⟩
 simp only at hk hU ⊢
 have hMl := hU.len hfN
 have hrM := hU.rises (rises_fof _)
 refine zD' 8 ?_ ?_
 ·intro g6
  refine zT 7 rfl ⟨AM, kM, some M, 0, .run g1' hS hA' (.ok hfN (by rw [List.length_map, show ss.length = k by omega]; exact hU)), rfl, rfl, rfl⟩
 intro g6
 obtain ⟨p, hpk⟩ : ∃ p, ss[k]? = some p := ⟨_, List.getElem?_eq_getElem (by omega)⟩
 have hpk' : ss[k]'(by omega) = p := (List.getElem?_eq_some_iff.1 hpk).2
 have hpm := hss p (List.mem_of_getElem? hpk)
 have hpl := hrw p (List.mem_of_getElem? hpk)
 have hcp := cs_len p
 have hkl : k < (ss.map (clausesAt l)).length := by rw [List.length_map]; omega
 have hst1 : (ss.map (clausesAt l))[k] = clausesAt l p := by rw [List.getElem_map, hpk']
 refine go_elem_row (T := tInt .i64) (xss := ss.map cs) zM k (xs := cs p) (by rw [List.getElem?_map, hpk]; rfl) (fun b1 o1 A5 c5 hA1 => ?_); cases hA1
 refine go_len (xs := cs p) zM (fun lp mp => ?_)
 refine zR 4 ?_
 refine go_own_nil tCl 36 none ?_
 refine zR 9 ?_
 refine zO (X := Nat × Option Addr × Nat) (fun x => [(12, .slice x.2.1 (clausesAt l (p.take x.1)).length x.2.2), (13, .int .i64 (x.1 : Int))]) [0, 2, 8, 10, 11] (fun x => [ol tCl 36 x.2.1 x.2.2 (clausesAt l (p.take x.1))]) (fun x => x.1 ≤ p.length) (fun x => p.length - x.1) (0, none, 0) (Nat.zero_le _) ?_
 intro ⟨j, A3, c3⟩ hj
 simp only at hj ⊢
 have hcl := clausesAt_len (l := l) (is := p.take j) (fun u hu => hpm.2 u (List.mem_of_mem_take hu))
 rw [List.length_take] at hcl
 refine zI 6 ?_
 refine zL 0 ?_
 refine zD' 3 ?_ ?_
 ·intro hq1
  refine zR 2 ?_
  rw [List.take_of_length_le (show p.length ≤ j by omega)]
  refine go_freeze_ol (xs := clausesAt l p) zM ?_
  refine zC 4 (ref14Least (clausesAt l p) A3 c3 M AM kM most (fun c hc => hl c (clausesAt_mem hc)) (fun c hc => hb0 c (clausesAt_mem hc)) (by rw [clausesAt_len hpm.2]; omega) (by omega) hm (fun c hc F hF => hbig c (clausesAt_mem hc) F _ hF)) ?_
  rintro _ _ _ ⟨b2, e2, A2, k2, hR, rfl, rfl, rfl⟩
  rw [fof_self hrM] at hR
  have hS2 := stg_ref hR
  refine zE 6 [0, 2, 8, 9, 10, 11] ?_
  refine zN 5 ?_ ?_
  ·intro g5
   rw [if_neg g5] at hS2
   refine go_sl_nil tFa ?_
   refine zT 6 rfl ⟨none, 0, none, e2, .run g1' hS hA' (.bad hfN hU hkl (by rw [hst1]; exact hS2)), rfl, rfl, rfl⟩
  intro g5
  subst g5
  rw [if_pos rfl] at hS2
  refine zR 7 ?_
  refine go_i64n 11 (k + 1) rfl ?_
  refine zz (k + 1, b2, A2, k2) (⟨by show k + 1 ≤ _; omega, .succ hU hkl (by rw [hst1]; exact hS2)⟩) (by show _ - (k + 1) < _ - k; omega)
 intro hq1
 refine zR 3 ?_
 obtain ⟨u, hpu⟩ : ∃ u, p[j]? = some u := ⟨_, List.getElem?_eq_getElem (by omega)⟩
 have hpu' : p[j]'(by omega) = u := (List.getElem?_eq_some_iff.1 hpu).2
 have hun := hpm.2 u (List.mem_of_getElem? hpu)
 have hnx : clausesAt l (p.take j) ++ [l[u]] = clausesAt l (p.take (j + 1)) := by rw [List.take_succ_eq_append_getElem (show j < p.length by omega), hpu', clausesAt_snoc hun]
 refine go_elem_int (xs := cs p) zM j (cs_get hpu) (fun b2 o2 hA2 => ?_); cases hA2
 refine go_elem_cl (xs := l) zM (u) (List.getElem?_eq_getElem (by omega)) (fun b3 o3 A6 c6 B6 d6 hA => ?_); cases hA
 refine zI 5 ?_
 refine zL 0 ?_
 refine zI 1 ?_
 refine zL 0 ?_
 refine zI 0 ?_
 refine zL 0 ?_
 refine zV 0 ?_
 intro b1
 refine go_append1 (T := tCl) (xs := clausesAt l (p.take j)) Tk (l[u]) rfl rfl rfl rfl rfl rfl rfl rfl rfl zM zM rfl (ent_cl zM zM) (by omega) zH ?_
 intro A4 c4
 refine zE 2 [0, 2, 8, 10, 11, 12, 13] ?_
 refine zR 6 ?_
 refine go_i64n 13 (j + 1) rfl ?_
 rw [hnx]
 refine zz (j + 1, A4, c4) (by show j + 1 ≤ _; omega) (by show _ - (j + 1) < _ - j; omega)
end Go.Proofs.YtpgnmfnckjnecaaGreat.SL
namespace Go.Proofs.YtpgnmfnckjnecaaGreat.SL
open Md
def RP (l : List Cl) (fs : List Fa) : Prop := (rightC l).2 = 0 ∧ (∃ lv, Levels l lv) ∧ ArOK (atomsL l) fs
theorem filterMap_len {α β : Type} (f : α → Option β) (l : List α) : (l.filterMap f).length ≤ l.length := List.length_filterMap_le ..
theorem run_perfect {l : List Cl} {fs : List Fa} {most : Int} {ss : List (List Nat)} {r : Option (List Fa)} {e : Int} (ho : ∀ c ∈ l, c.ok) (hs : StrR l ss 0) (h0 : 0 ≤ most) (h : ModelR (ss.map (clausesAt l)) most (fof fs) r e) : (∃ lv, Levels l lv) ∧ Perfect l (· ∈ fof fs) most r e := by
  generalize he : (0 : Int) = z at hs
  cases hs with
  | bad e h1 h2 => exact absurd he.symm h1
  | ok lv h1 h2 h3 h4 =>
    refine ⟨⟨lv, h2⟩, ModelR.perfect ho h2 (strata_split l lv) (strata_all l lv) (fun k hk => level_fix h1 h2 (k := k) (fun c => strata_split l lv k hk c) ?_) h0 (rises_fof _) h⟩
    have hk' : k < (strata (l.map fun c => lv c.h.p)).length := by simpa using hk
    rw [List.getElem_map]
    refine Nat.le_trans (filterMap_len _ _) ?_
    have : (strata (l.map fun c => lv c.h.p))[k] = strI (l.map fun c => lv c.h.p) k := by simp [strata]
    rw [this]
    refine Nat.le_trans (strI_len _ _) ?_
    rw [List.length_map]; exact (rightC_iff.1 h1).1
theorem StrR.right {l : List Cl} {ss : List (List Nat)} (h : StrR l ss 0) : (rightC l).2 = 0 ∧ ∃ lv, Levels l lv := by
  generalize he : (0 : Int) = z at h
  cases h with
  | bad e h1 h2 => exact absurd he.symm h1
  | ok lv h1 h2 h3 h4 => exact ⟨h1, lv, h2⟩
theorem StrR.wrong {l : List Cl} {ss : List (List Nat)} {e : Int} (h : StrR l ss e) (he : e ≠ 0) : ¬ ((rightC l).2 = 0 ∧ ∃ lv, Levels l lv) := by
  cases h with
  | bad e h1 h2 =>
    rintro ⟨q1, lv, q2⟩
    rcases h2 with ⟨a, _⟩ | ⟨_, _, b⟩
    · exact a q1
    · exact b lv q2
  | ok lv h1 h2 h3 h4 => exact absurd rfl he
theorem ModA.one {l : List Cl} {fs : List Fa} {most : Int} {r r' : Option (List Fa)} {e e' : Int} (ho : ∀ c ∈ l, c.ok) (h : ModA l fs most r e) (h' : ModA l fs most r' e') : r = r' ∧ e = e' := by
  cases h with
  | arg a =>
    cases h' with
    | arg a' => exact ⟨rfl, rfl⟩
    | strat a' s' n' => omega
    | ari a' s' n' => omega
    | run a' s' o' m' => omega
  | strat a s n =>
    cases h' with
    | arg a' => omega
    | strat a' s' n' => exact ⟨rfl, (s.one s').2⟩
    | ari a' s' n' => exact absurd (s.one s').2 n
    | run a' s' o' m' => exact absurd (s.one s').2 n
  | ari a s n =>
    cases h' with
    | arg a' => omega
    | strat a' s' n' => exact absurd (s'.one s).2 n'
    | ari a' s' n' => exact ⟨rfl, rfl⟩
    | run a' s' o' m' => exact absurd o' n
  | run a s o m =>
    cases h' with
    | arg a' => omega
    | strat a' s' n' => exact absurd (s'.one s).2 n'
    | ari a' s' n' => exact absurd o n'
    | run a' s' o' m' =>
      obtain ⟨⟨lv, hl⟩, p⟩ := run_perfect ho s a m
      exact p.same (run_perfect ho s' a' m').2 hl fun _ => Iff.rfl
theorem ModA.of_right {l : List Cl} {fs : List Fa} {most : Int} {r : Option (List Fa)} {e : Int} (ho : ∀ c ∈ l, c.ok) (h : ModA l fs most r e) (hr : RP l fs) (h0 : 0 ≤ most) : Perfect l (· ∈ fof fs) most r e := by
  cases h with
  | arg a => omega
  | strat a s n => exact absurd ⟨hr.1, hr.2.1⟩ (s.wrong n)
  | ari a s n => exact absurd hr.2.2 n
  | run a s o m => exact (run_perfect ho s a m).2
theorem ModA.ok {l : List Cl} {fs : List Fa} {most : Int} {r : Option (List Fa)} {e : Int} (ho : ∀ c ∈ l, c.ok) (h : ModA l fs most r e) (he : e = 0) : RP l fs ∧ 0 ≤ most ∧ ∃ M, r = some M ∧ rises M ∧ (M.length : Int) ≤ most ∧ Stable l (· ∈ fof fs) (· ∈ M) := by
  cases h with
  | arg a => cases he
  | strat a s n => exact absurd he n
  | ari a s n => cases he
  | run a s o m =>
    have hp := (run_perfect ho s a m).2
    refine ⟨⟨s.right.1, s.right.2, o⟩, a, ?_⟩
    rcases hp with ⟨_, M, h2, h3, h4, h5⟩ | ⟨h1, _, _⟩
    · exact ⟨M, h2, h3, h4, h5⟩
    · omega
theorem ModA.none_ {l : List Cl} {fs : List Fa} {most : Int} {r : Option (List Fa)} {e : Int} (ho : ∀ c ∈ l, c.ok) (h : ModA l fs most r e) (he : ¬ e = 0) : r = none := by
  cases h with
  | arg a => rfl
  | strat a s n => rfl
  | ari a s n => rfl
  | run a s o m =>
    rcases (run_perfect ho s a m).2 with ⟨h1, _⟩ | ⟨_, h2, _⟩
    · exact absurd h1 he
    · exact h2
theorem Md.Perfect.of_stable {l : List Cl} {B : Fa → Prop} {most : Int} {M : List Fa} {r : Option (List Fa)} {e : Int} (h : Perfect l B most r e) {lv : Int → Nat} (hl : Levels l lv) (hM : rises M) (hS : Stable l B (· ∈ M)) :
    ((M.length : Int) ≤ most → r = some M ∧ e = 0) ∧ (most < (M.length : Int) → r = none ∧ e = 6) := by
  rcases h with ⟨g1, M', g2, g3, g4, g5⟩ | ⟨g1, g2, g3⟩
  · have : M = M' := rises_ext hM g3 fun x => hS.same hl g5 x
    subst this
    exact ⟨fun _ => ⟨g2, g1⟩, fun q => by omega⟩
  · have := g3 M hM hS
    exact ⟨fun q => by omega, fun _ => ⟨g2, g1⟩⟩
theorem ArOK.mono {X Y : List Am} {fs gs : List Fa} (h : ArOK X fs) (hX : ∀ a ∈ Y, a ∈ X) (hf : ∀ f ∈ gs, f ∈ fs) : ArOK Y gs := ⟨fun f q => h.1 f (hf f q), sameLen_sub h.2 fun a ha => by
  rcases List.mem_append.1 ha with h | h
  · exact List.mem_append_left _ (hX a h)
  · obtain ⟨g, hg, rfl⟩ := List.mem_map.1 h
    exact List.mem_append_right _ (List.mem_map.2 ⟨g, hf g hg, rfl⟩)⟩
theorem atomsL_mono {l l' : List Cl} (h : ∀ c ∈ l', c ∈ l) : ∀ a ∈ atomsL l', a ∈ atomsL l := fun a ha => by
  obtain ⟨c, hc, q⟩ := mem_atomsL.1 ha
  exact mem_atomsL.2 ⟨c, h c hc, q⟩
theorem RP.sub {l l' : List Cl} {fs gs : List Fa} (h : RP l fs) (hl : ∀ c ∈ l', c ∈ l) (hf : ∀ f ∈ gs, f ∈ fs) (hn : l'.length ≤ 400) : RP l' gs :=
  ⟨right_sub h.1 hl hn, h.2.1.imp fun lv q => levels_sub q fun c hc => .inl (hl c hc), h.2.2.mono (atomsL_mono hl) hf⟩
theorem turned_same {l l' : List Cl} {fs gs : List Fa} {most : Int} {M : List Fa} {r : Option (List Fa)} {e : Int} (ho : ∀ c ∈ l, c.ok) (h : ModA l fs most (some M) 0) (hl : ∀ c, c ∈ l' ↔ c ∈ l) (hf : ∀ f, f ∈ gs ↔ f ∈ fs) (hn : l'.length ≤ 400) (h' : ModA l' gs most r e) : r = some M ∧ e = 0 := by
  obtain ⟨hr, h0, M', q, h3, h4, h5⟩ := h.ok ho rfl
  cases q
  have hr' := hr.sub (fun c hc => (hl c).1 hc) (fun f q => (hf f).1 q) hn
  obtain ⟨lv, hlv⟩ := hr'.2.1
  exact ((h'.of_right (fun c hc => ho c ((hl c).1 hc)) hr' h0).of_stable hlv h3 (h5.perm hl (fun x => by rw [mem_fof, mem_fof, hf]))).1 h4
theorem model_all {l : List Cl} {fs : List Fa} {most : Int} {M : List Fa} (ho : ∀ c ∈ l, c.ok) (h : ModA l fs most (some M) 0) : (∀ f ∈ fs, f ∈ M) ∧ (∀ c ∈ l, ∀ x ∈ headsC c M [] M false, x ∈ M) ∧ rises M ∧ fof (fs ++ l.flatMap fun c => headsC c M [] M false) = M := by
  obtain ⟨hr, h0, M', q, h3, h4, h5⟩ := h.ok ho rfl
  cases q
  have h6 : ∀ f ∈ fs, f ∈ M := fun f q => h5.base f (mem_fof.2 q)
  have h7 : ∀ c ∈ l, ∀ x ∈ headsC c M [] M false, x ∈ M := fun c hc x hx => h5.closed c hc x ((mem_H (ho c hc)).1 hx)
  refine ⟨h6, h7, h3, rises_ext (rises_fof _) h3 fun x => ?_⟩
  rw [mem_fof, List.mem_append]
  constructor
  · rintro (q | q)
    · exact h6 x q
    · obtain ⟨c, hc, q⟩ := List.mem_flatMap.1 q
      exact h7 c hc x q
  · intro hx
    rcases h5.why x hx with q | ⟨c, hc, q⟩
    · exact .inl (mem_fof.1 q)
    · exact .inr (List.mem_flatMap.2 ⟨c, hc, (mem_H (ho c hc)).2 q⟩)
theorem Md.H.len {c : Cl} {F N : Fa → Prop} {x : Fa} (h : H c F N x) : x.a.length = c.h.a.length := by
  obtain ⟨_, s, _, _, _, h4⟩ := h
  rw [h4]; simp [ap]
theorem may_head {c : Cl} (h : mayC c = true) : c.h.a.length ≤ 6 := (mayA_iff.1 (mayC_iff.1 h).2.1).1
theorem RP.model {l : List Cl} {fs M : List Fa} (h : RP l fs) (hS : Stable l (· ∈ fof fs) (· ∈ M)) : ArOK (atomsL l) M := by
  have hw : ∀ x ∈ M, x.a.length ≤ 6 ∧ ∃ y ∈ atomsL l ++ fs.map lift, y.p = x.p ∧ y.a.length = x.a.length := fun x hx => by
    rcases hS.why x hx with q | ⟨c, hc, q⟩
    · have q := mem_fof.1 q
      exact ⟨h.2.2.1 x q, lift x, List.mem_append_right _ (List.mem_map.2 ⟨x, q, rfl⟩), rfl, lift_len x⟩
    · refine ⟨by rw [q.len]; exact may_head ((rightC_iff.1 h.1).2.1 c hc).1, c.h, List.mem_append_left _ (mem_atomsL.2 ⟨c, hc, .head _⟩), q.p.symm, q.len.symm⟩
  refine ⟨fun x hx => (hw x hx).1, ?_⟩
  have key : ∀ a ∈ atomsL l ++ M.map lift, ∃ y ∈ atomsL l ++ fs.map lift, y.p = a.p ∧ y.a.length = a.a.length := fun a ha => by
    rcases List.mem_append.1 ha with q | q
    · exact ⟨a, List.mem_append_left _ q, rfl, rfl⟩
    · obtain ⟨x, hx, rfl⟩ := List.mem_map.1 q
      obtain ⟨_, y, h1, h2, h3⟩ := hw x hx
      exact ⟨y, h1, h2, by rw [lift_len]; exact h3⟩
  intro a ha b hb e
  obtain ⟨y, h1, h2, h3⟩ := key a ha
  obtain ⟨z, h4, h5, h6⟩ := key b hb
  have := h.2.2.2 y h1 z h4 (by rw [h2, h5, e])
  omega
theorem model_bound {l : List Cl} {fs : List Fa} {most most' : Int} {M : List Fa} {r : Option (List Fa)} {e : Int} (ho : ∀ c ∈ l, c.ok) (h : ModA l fs most (some M) 0) (h0 : 0 ≤ most') (h' : ModA l fs most' r e) : ((M.length : Int) ≤ most' → r = some M ∧ e = 0) ∧ (most' < (M.length : Int) → r = none ∧ e = 6) := by
  obtain ⟨hr, h0', M', q, h3, h4, h5⟩ := h.ok ho rfl
  cases q
  obtain ⟨lv, hlv⟩ := hr.2.1
  exact (h'.of_right ho hr h0).of_stable hlv h3 h5
theorem model_again {l l' : List Cl} {fs : List Fa} {most : Int} {M : List Fa} {r : Option (List Fa)} {e : Int} (ho : ∀ c ∈ l, c.ok) (h : ModA l fs most (some M) 0) (hl : ∀ c ∈ l', c ∈ l) (hn : l'.length ≤ 400) (h' : ModA l' M most r e) : r = some M ∧ e = 0 := by
  obtain ⟨hr, h0, M', q, h3, h4, h5⟩ := h.ok ho rfl
  cases q
  have hr' : RP l' M := ⟨right_sub hr.1 hl hn, hr.2.1.imp fun lv q => levels_sub q fun c hc => .inl (hl c hc), (hr.model h5).mono (atomsL_mono hl) (fun _ q => q)⟩
  obtain ⟨lv, hlv⟩ := hr'.2.1
  exact ((h'.of_right (fun c hc => ho c (hl c hc)) hr' h0).of_stable hlv h3 (by rw [fof_self h3]; exact h5.again hl)).1 h4
def rotL (l : List Cl) (t n : Nat) : List Cl := (List.range n).filterMap fun i => l[(i + t) % l.length]?
theorem rotL_snoc {l : List Cl} {t n : Nat} (h : 0 < l.length) : rotL l t (n + 1) = rotL l t n ++ [l[(n + t) % l.length]'(Nat.mod_lt _ h)] := by
  unfold rotL
  rw [List.range_succ, List.filterMap_append]
  simp [List.getElem?_eq_getElem (Nat.mod_lt (n + t) h)]
theorem rotL_len {l : List Cl} {t : Nat} (h : 0 < l.length) : ∀ n, (rotL l t n).length = n
  | 0 => rfl
  | n + 1 => by rw [rotL_snoc h, List.length_append, rotL_len h n]; rfl
theorem mem_rotL {l : List Cl} {t : Nat} {c : Cl} : c ∈ rotL l t l.length ↔ c ∈ l := by
  unfold rotL
  rw [List.mem_filterMap]
  constructor
  · rintro ⟨i, _, h⟩; exact List.mem_of_getElem? h
  · intro h
    obtain ⟨j, hj, e⟩ := List.getElem_of_mem h
    have hn : 0 < l.length := by omega
    have ht := Nat.mod_lt t hn
    refine ⟨(j + (l.length - t % l.length)) % l.length, List.mem_range.2 (Nat.mod_lt _ hn), ?_⟩
    have : ((j + (l.length - t % l.length)) % l.length + t) % l.length = j := by
      rw [Nat.add_mod, Nat.mod_mod, ← Nat.add_mod]
      have h2 : (j + (l.length - t % l.length) + t) % l.length = (j + (l.length - t % l.length) + t % l.length) % l.length := by rw [Nat.add_mod, Nat.add_mod (j + (l.length - t % l.length)) (t % l.length), Nat.mod_mod]
      rw [h2, show j + (l.length - t % l.length) + t % l.length = j + l.length by omega, Nat.add_mod_right, Nat.mod_eq_of_lt hj]
    rw [this, List.getElem?_eq_getElem hj, e]
end Go.Proofs.YtpgnmfnckjnecaaGreat.SL
namespace Go.Proofs.YtpgnmfnckjnecaaGreat.SL
open Go Md
def wa15 : Cl := ⟨⟨1, [⟨true, 0⟩]⟩, [⟨false, ⟨2, [⟨true, 0⟩]⟩⟩, ⟨true, ⟨3, [⟨true, 0⟩]⟩⟩]⟩
def wb15 : Cl := ⟨⟨3, [⟨true, 0⟩]⟩, [⟨false, ⟨4, [⟨true, 0⟩]⟩⟩]⟩
def wl15 : List Cl := [wa15, wb15]
def wn15 : List Fa := [(⟨2, [10]⟩ : Fa), (⟨2, [11]⟩ : Fa), (⟨4, [10]⟩ : Fa)]
def wm15 : List Fa := [(⟨1, [11]⟩ : Fa), (⟨2, [10]⟩ : Fa), (⟨2, [11]⟩ : Fa), (⟨3, [10]⟩ : Fa), (⟨4, [10]⟩ : Fa)]
theorem wa15_ok : wa15.ok := ⟨ok_am _ _ (by decide), fun l hl => by
  simp only [wa15, List.mem_cons, List.not_mem_nil, or_false] at hl
  rcases hl with rfl | rfl <;> exact ok_am _ _ (by decide)⟩
theorem wb15_ok : wb15.ok := ⟨ok_am _ _ (by decide), fun l hl => by
  simp only [wb15, List.mem_cons, List.not_mem_nil, or_false] at hl
  rcases hl with rfl; exact ok_am _ _ (by decide)⟩
theorem wl15_ok : ∀ c ∈ wl15, c.ok := fun c hc => by
  simp only [wl15, List.mem_cons, List.not_mem_nil, or_false] at hc
  rcases hc with rfl | rfl
  · exact wa15_ok
  · exact wb15_ok
theorem wl15_at : ∀ a ∈ atomsL wl15, a.a.length = 1 := fun a ha => by
  obtain ⟨c, hc, q⟩ := mem_atomsL.1 ha
  simp only [wl15, List.mem_cons, List.not_mem_nil, or_false] at hc
  rcases hc with rfl | rfl <;> simp only [atomsC, wa15, wb15, List.map_cons, List.map_nil, List.mem_cons, List.not_mem_nil, or_false] at q
  · rcases q with rfl | rfl | rfl <;> rfl
  · rcases q with rfl | rfl <;> rfl
theorem wl15_r : (rightC wl15).2 = 0 := rightC_iff.2 ⟨by decide, fun c hc => by
  simp only [wl15, List.mem_cons, List.not_mem_nil, or_false] at hc
  rcases hc with rfl | rfl <;> exact ⟨by decide, by decide⟩, fun a ha b hb _ => by rw [wl15_at a ha, wl15_at b hb]⟩
theorem wl15_c : ∀ c ∈ wl15, (rightC [c]).2 = 0 := right_all wl15_r
theorem wn15_len : ∀ x ∈ wn15, x.ok ∧ x.a.length = 1 := fun x hx => by
  simp only [wn15, List.mem_cons, List.not_mem_nil, or_false] at hx
  rcases hx with rfl | rfl | rfl <;> exact ⟨ok_fa _ _ (by decide), rfl⟩
def wlv15 (p : Int) : Nat := if p = 1 then 1 else 0
theorem wl15_lv : Levels wl15 wlv15 := fun c hc x hx => by
  simp only [wl15, List.mem_cons, List.not_mem_nil, or_false] at hc
  rcases hc with rfl | rfl <;> simp only [wa15, wb15, List.mem_cons, List.not_mem_nil, or_false] at hx
  · rcases hx with rfl | rfl <;> decide
  · rcases hx with rfl; decide
theorem wl15_rp : RP wl15 wn15 := ⟨wl15_r, ⟨_, wl15_lv⟩, fun x hx => by rw [(wn15_len x hx).2]; omega, fun a ha b hb _ => by
  have h : ∀ a ∈ atomsL wl15 ++ wn15.map lift, a.a.length = 1 := fun a ha => by
    rcases List.mem_append.1 ha with q | q
    · exact wl15_at a q
    · obtain ⟨x, hx, rfl⟩ := List.mem_map.1 q
      rw [lift_len]; exact (wn15_len x hx).2
  rw [h a ha, h b hb]⟩
theorem wa15_H {F N : Fa → Prop} {x : Fa} : H wa15 F N x ↔ ∃ a : Int, F ⟨2, [a]⟩ ∧ ¬ N ⟨3, [a]⟩ ∧ x = ⟨1, [a]⟩ := by
  unfold H Hd
  constructor
  · rintro ⟨_, s, h1, h2, _, h4⟩
    exact ⟨s 0, h1 _ (.head _) rfl, h2 _ (.tail _ (.head _)) rfl, h4⟩
  · rintro ⟨a, h1, h2, h3⟩
    refine ⟨wl15_c _ (.head _), fun _ => a, fun l hl e => ?_, fun l hl e => ?_, fun e => (nomatch e), h3⟩
    · simp only [wa15, List.mem_cons, List.not_mem_nil, or_false] at hl
      rcases hl with rfl | rfl
      · exact h1
      · cases e
    · simp only [wa15, List.mem_cons, List.not_mem_nil, or_false] at hl
      rcases hl with rfl | rfl
      · cases e
      · exact h2
theorem wb15_H {F N : Fa → Prop} {x : Fa} : H wb15 F N x ↔ ∃ a : Int, F ⟨4, [a]⟩ ∧ x = ⟨3, [a]⟩ := by
  unfold H Hd
  constructor
  · rintro ⟨_, s, h1, h2, _, h4⟩
    exact ⟨s 0, h1 _ (.head _) rfl, h4⟩
  · rintro ⟨a, h1, h3⟩
    refine ⟨wl15_c _ (.tail _ (.head _)), fun _ => a, fun l hl e => ?_, fun l hl e => ?_, fun e => (nomatch e), h3⟩
    · simp only [wb15, List.mem_cons, List.not_mem_nil, or_false] at hl
      rcases hl with rfl
      exact h1
    · simp only [wb15, List.mem_cons, List.not_mem_nil, or_false] at hl
      rcases hl with rfl
      cases e
theorem wm15_st : Stable wl15 (· ∈ fof wn15) (· ∈ wm15) := by
  refine ⟨fun x hx => ?_, fun c hc x hx => ?_, fun S h1 h2 x hx => ?_⟩
  · rw [mem_fof] at hx
    simp only [wn15, wm15, List.mem_cons, List.not_mem_nil, or_false] at hx ⊢
    rcases hx with rfl | rfl | rfl <;> simp
  · simp only [wl15, List.mem_cons, List.not_mem_nil, or_false] at hc
    rcases hc with rfl | rfl
    · obtain ⟨a, q1, q2, rfl⟩ := wa15_H.1 hx
      have q1 : (⟨2, [a]⟩ : Fa) ∈ wm15 := q1
      have q2 : ¬ (⟨3, [a]⟩ : Fa) ∈ wm15 := q2
      show (⟨1, [a]⟩ : Fa) ∈ wm15
      simp [wm15] at q1 q2 ⊢
      omega
    · obtain ⟨a, q1, rfl⟩ := wb15_H.1 hx
      have q1 : (⟨4, [a]⟩ : Fa) ∈ wm15 := q1
      show (⟨3, [a]⟩ : Fa) ∈ wm15
      simp [wm15] at q1 ⊢
      exact q1
  · have b1 : ∀ y ∈ wn15, S y := fun y hy => h1 y (mem_fof.2 hy)
    simp only [wm15, List.mem_cons, List.not_mem_nil, or_false] at hx
    rcases hx with rfl | rfl | rfl | rfl | rfl
    · refine h2 wa15 (.head _) _ (wa15_H.2 ⟨11, b1 _ (by simp [wn15]), ?_, rfl⟩)
      simp [wm15]
    · exact b1 _ (by simp [wn15])
    · exact b1 _ (by simp [wn15])
    · exact h2 wb15 (.tail _ (.head _)) _ (wb15_H.2 ⟨10, b1 _ (by simp [wn15]), rfl⟩)
    · exact b1 _ (by simp [wn15])
theorem wm15_rises : rises wm15 := by unfold rises wm15; decide
theorem w15_big : ∀ c ∈ wl15, ∀ (F R N : List Fa) (new : Bool), (F.length : Int) ≤ 100 → (goL c F R N c.b ch0 new).length ≤ 50000000 := fun c hc F R N new hF => by
  have h : F.length ≤ 100 := by omega
  refine Nat.le_trans (goL_len _ _ _ _ _ _ _) ?_
  simp only [wl15, List.mem_cons, List.not_mem_nil, or_false] at hc
  rcases hc with rfl | rfl
  · show F.length ^ 1 ≤ _; rw [Nat.pow_one]; omega
  · show F.length ^ 1 ≤ _; rw [Nat.pow_one]; omega
theorem w15_yes {r : Option (List Fa)} {e : Int} (h : ModA wl15 wn15 100 r e) : r = some wm15 ∧ e = 0 :=
  ((h.of_right wl15_ok wl15_rp (by omega)).of_stable wl15_lv wm15_rises wm15_st).1 (by decide)
theorem w15_no {r : Option (List Fa)} {e : Int} (h : ModA wl15 wn15 4 r e) : r = none ∧ e = 6 :=
  ((h.of_right wl15_ok wl15_rp (by omega)).of_stable wl15_lv wm15_rises wm15_st).2 (by decide)
set_option maxHeartbeats 4000000 in
theorem law15Example  :
    Spec Tryz.prog 22 #[] [] [] (fun v Ps' Os' => ∃ A B, v = .tuple #[.slice A 2 2, .slice B 3 3] ∧ Ps' = [sl tCl A 2 wl15, sl tFa B 3 wn15] ∧ Os' = []) := by
 refine zSp [] Tryz.func22 Tryz.ntmps22 (fun w0 hp0 hf0 => ?_)
 refine zC3 7 (law11V 0) ?_
 refine zV 0 ?_
 intro u1
 refine go_lit tTm (b := u1) [⟨true, 0⟩] zM (fun hp a => ⟨[_, _], [], rfl, tTm_mk (x := ⟨true, 0⟩), rfl⟩) (by simp) ?_
 refine zC3 0 (law11A _ _ _ _) ?_
 refine zC3 0 (law11V 0) ?_
 refine zV 0 ?_
 intro u2
 refine go_lit tTm (b := u2) [⟨true, 0⟩] zM (fun hp a => ⟨[_, _], [], rfl, tTm_mk (x := ⟨true, 0⟩), rfl⟩) (by simp) ?_
 refine zC3 0 (law11Yes _ _ _ _) ?_
 refine zC3 0 (law11V 0) ?_
 refine zV 0 ?_
 intro u3
 refine go_lit tTm (b := u3) [⟨true, 0⟩] zM (fun hp a => ⟨[_, _], [], rfl, tTm_mk (x := ⟨true, 0⟩), rfl⟩) (by simp) ?_
 refine zC3 0 (law11No _ _ _ _) ?_
 refine zV 0 ?_
 intro u4
 refine go_lit tLi (b := u4) wa15.b zM (fun hp a => ⟨[_, _, _], _, rfl, tLi_mk (x := ⟨false, ⟨2, [⟨true, 0⟩]⟩⟩) (a (sl tTm (some ⟨u2, 0, none⟩) 1 [⟨true, 0⟩]) zM), [_, _, _], [], rfl, tLi_mk (x := ⟨true, ⟨3, [⟨true, 0⟩]⟩⟩) (a (sl tTm (some ⟨u3, 0, none⟩) 1 [⟨true, 0⟩]) zM), rfl⟩) (by decide) ?_
 refine zC3 0 (law11If _ _ _ _ _ _ _) ?_
 refine zC3 0 (law11V 0) ?_
 refine zV 0 ?_
 intro u5
 refine go_lit tTm (b := u5) [⟨true, 0⟩] zM (fun hp a => ⟨[_, _], [], rfl, tTm_mk (x := ⟨true, 0⟩), rfl⟩) (by simp) ?_
 refine zC3 0 (law11A _ _ _ _) ?_
 refine zC3 0 (law11V 0) ?_
 refine zV 0 ?_
 intro u6
 refine go_lit tTm (b := u6) [⟨true, 0⟩] zM (fun hp a => ⟨[_, _], [], rfl, tTm_mk (x := ⟨true, 0⟩), rfl⟩) (by simp) ?_
 refine zC3 0 (law11Yes _ _ _ _) ?_
 refine zV 0 ?_
 intro u7
 refine go_lit tLi (b := u7) wb15.b zM (fun hp a => ⟨[_, _, _], [], rfl, tLi_mk (x := ⟨false, ⟨4, [⟨true, 0⟩]⟩⟩) (a (sl tTm (some ⟨u6, 0, none⟩) 1 [⟨true, 0⟩]) zM), rfl⟩) (by decide) ?_
 refine zC3 0 (law11If _ _ _ _ _ _ _) ?_
 refine zV 0 ?_
 intro bs
 refine go_lit tCl (b := bs) wl15 zM (fun hp a => ⟨[.int .u32 wa15.h.p, .slice (some ⟨u1, 0, none⟩) wa15.h.a.length 1, .slice (some ⟨u4, 0, none⟩) wa15.b.length 2], _, rfl, tCl_mk (a (sl tTm (some ⟨u1, 0, none⟩) 1 wa15.h.a) zM) (a (sl tLi (some ⟨u4, 0, none⟩) 2 wa15.b) zM), [.int .u32 wb15.h.p, .slice (some ⟨u5, 0, none⟩) wb15.h.a.length 1, .slice (some ⟨u7, 0, none⟩) wb15.b.length 1], [], rfl, tCl_mk (a (sl tTm (some ⟨u5, 0, none⟩) 1 wb15.h.a) zM) (a (sl tLi (some ⟨u7, 0, none⟩) 1 wb15.b) zM), rfl⟩) (by decide) ?_
 refine zV 0 ?_
 intro f1
 refine go_lit_int (kk := .u32) [10] zM (by simp) ?_
 refine zC3 0 (law13F 2 _ 1 1) ?_
 refine zV 0 ?_
 intro f2
 refine go_lit_int (kk := .u32) [11] zM (by simp) ?_
 refine zC3 0 (law13F 2 _ 1 1) ?_
 refine zV 0 ?_
 intro f3
 refine go_lit_int (kk := .u32) [10] zM (by simp) ?_
 refine zC3 0 (law13F 4 _ 1 1) ?_
 refine zV 0 ?_
 intro bf
 refine go_lit tFa (b := bf) wn15 zM (fun hp a => ⟨[_, _], _, rfl, tFa_mk (x := (⟨2, [10]⟩ : Fa)) (a (sl tU (some ⟨f1, 0, none⟩) 1 [10]) zM), [_, _], _, rfl, tFa_mk (x := (⟨2, [11]⟩ : Fa)) (a (sl tU (some ⟨f2, 0, none⟩) 1 [11]) zM), [_, _], [], rfl, tFa_mk (x := (⟨4, [10]⟩ : Fa)) (a (sl tU (some ⟨f3, 0, none⟩) 1 [10]) zM), rfl⟩) (by decide) ?_
 refine zE 3 [0, 1] ?_
 refine go_ret ⟨rfl, rfl⟩ [sl tCl (some ⟨bs, 0, none⟩) 2 wl15, sl tFa (some ⟨bf, 0, none⟩) 3 wn15] [] (res2 (by rfl) (.tmp rfl) (.tmp rfl)) ⟨_, _, rfl, rfl, rfl⟩ zM zM
set_option maxHeartbeats 4000000 in
theorem lawWorks15  :
    Spec Tryz.prog 9 #[] [] [] (fun v Ps' Os' => v = .bool true ∧ Ps' = [] ∧ Os' = []) := by
 refine zSp [] Tryz.func9 Tryz.ntmps9 (fun w0 hp0 hf0 => ?_)
 refine zC 6 law15Example ?_
 rintro _ _ _ ⟨A, B, rfl, rfl, rfl⟩
 refine zC 10 (modelOf wl15 A 2 wn15 B 3 100 wl15_ok (fun x hx => ⟨(wn15_len x hx).1, by rw [(wn15_len x hx).2]; omega⟩) (by decide) (by omega) (fun c hc F R N new h => w15_big c hc F R N new (by omega))) ?_
 rintro _ _ _ ⟨A5, c5, r5, e5, hM5, rfl, rfl, rfl⟩
 obtain ⟨rfl, rfl⟩ := w15_yes hM5
 refine zC 10 (modelOf wl15 A 2 wn15 B 3 4 wl15_ok (fun x hx => ⟨(wn15_len x hx).1, by rw [(wn15_len x hx).2]; omega⟩) (by decide) (by omega) (fun c hc F R N new h => w15_big c hc F R N new (by omega))) ?_
 rintro _ _ _ ⟨A6, c6, r6, e6, hM6, rfl, rfl, rfl⟩
 obtain ⟨rfl, rfl⟩ := w15_no hM6
 refine zE 6 [3, 4, 6] ?_
 refine zR 5 ?_
 refine go_re 25 (.bool true) (by show some (Value.bool _) = _; first | rfl | simp) ?_
 refine zV 1 ?_
 intro f0
 refine go_lit_int (kk := .u32) [11] zM (by simp) ?_
 refine zC3 0 (law13F 1 _ 1 1) ?_
 refine zV 0 ?_
 intro f1
 refine go_lit_int (kk := .u32) [10] zM (by simp) ?_
 refine zC3 0 (law13F 2 _ 1 1) ?_
 refine zV 0 ?_
 intro f2
 refine go_lit_int (kk := .u32) [11] zM (by simp) ?_
 refine zC3 0 (law13F 2 _ 1 1) ?_
 refine zV 0 ?_
 intro f3
 refine go_lit_int (kk := .u32) [10] zM (by simp) ?_
 refine zC3 0 (law13F 3 _ 1 1) ?_
 refine zV 0 ?_
 intro f4
 refine go_lit_int (kk := .u32) [10] zM (by simp) ?_
 refine zC3 0 (law13F 4 _ 1 1) ?_
 refine zV 0 ?_
 intro bm
 refine go_lit tFa (b := bm) wm15 zM (fun hp a => ⟨[_, _], _, rfl, tFa_mk (x := (⟨1, [11]⟩ : Fa)) (a (sl tU (some ⟨f0, 0, none⟩) 1 [11]) zM), [_, _], _, rfl, tFa_mk (x := (⟨2, [10]⟩ : Fa)) (a (sl tU (some ⟨f1, 0, none⟩) 1 [10]) zM), [_, _], _, rfl, tFa_mk (x := (⟨2, [11]⟩ : Fa)) (a (sl tU (some ⟨f2, 0, none⟩) 1 [11]) zM), [_, _], _, rfl, tFa_mk (x := (⟨3, [10]⟩ : Fa)) (a (sl tU (some ⟨f3, 0, none⟩) 1 [10]) zM), [_, _], [], rfl, tFa_mk (x := (⟨4, [10]⟩ : Fa)) (a (sl tU (some ⟨f4, 0, none⟩) 1 [10]) zM), rfl⟩) (by decide) ?_
 refine zC3 0 (ref13Same A5 c5 wm15 (some ⟨bm, 0, none⟩) 5 wm15) ?_
 refine zR 2 ?_
 refine go_re 40 (.bool true) (by show some (Value.bool _) = _; first | rfl | simp) ?_
 refine zR 3 ?_
 refine go_re 43 (.bool true) (by show some (Value.bool _) = _; first | rfl | simp) ?_
 refine zE 2 [0] ?_
 refine zT 0 rfl ⟨rfl, rfl, rfl⟩
theorem rot_le {l : List Cl} {t : Nat} (h : l.length ≤ 20) : (rotL l t l.length).length ≤ 400 := by
  unfold rotL; exact Nat.le_trans (filterMap_len _ _) (by rw [List.length_range]; omega)
set_option maxHeartbeats 4000000 in
theorem lawModelPlays (l : List Cl) (LA : Option Addr) (lc : Nat) (gl : ∀ c ∈ l, c.ok) (zl : l.length ≤ 140737488351232) (a : List Fa) (A : Option Addr) (k : Nat) (ga : ∀ x ∈ a, x.ok) (za : a.length ≤ 140737488351232) (most : Int) (hmo : -9223372036854775808 ≤ most ∧ most ≤ 9223372036854775807) (at_ : Int) (hat : 0 ≤ at_ ∧ at_ < 256) :
    Spec Tryz.prog 3 #[.slice LA l.length lc, .slice A a.length k, .int .i64 most, .int .u8 at_] [sl tCl LA lc l, sl tFa A k a] [] (fun v Ps' Os' => v = .bool true ∧ Ps' = [] ∧ Os' = []) := by
 refine zSp [.slice LA l.length lc, .slice A a.length k, .int .i64 most, .int .u8 at_] Tryz.func3 Tryz.ntmps3 (fun w0 hp0 hf0 => ?_)
 refine zR 1 ?_
 obtain ⟨t, rfl⟩ : ∃ t : Nat, at_ = (t : Int) := ⟨at_.toNat, by omega⟩
 refine zC3 8 (law14Few l LA lc a A k) ?_
 refine zG 2 23 ?_ ?_
 ·intro g1
  (try simp only [dcs, ne_eq] at g1)
  refine zDt 4 ?_
  refine zC3 2 lawWorks15 ?_
  refine zE 2 [8] ?_
  refine zT 0 rfl ⟨rfl, rfl, rfl⟩
 intro g1
 (try simp only [dcs, ne_eq] at g1)
 refine zB 4 ?_ ?_
 ·intro g2
  (try simp only [dcs, ne_eq] at g2)
  refine zC3 2 lawWorks15 ?_
  refine zE 2 [8] ?_
  refine zT 0 rfl ⟨rfl, rfl, rfl⟩
 intro g2
 (try simp only [dcs, ne_eq] at g2)
 refine zR 2 ?_
 have fp := few14_of g1
 have hlen : l.length ≤ 20 ∧ a.length ≤ 30 := ⟨fp.1, fp.2.1⟩
 have hla : ∀ x ∈ a, x.a.length ≤ 30 := (few11_of fp.2.2.1).2.2
 have hbl : ∀ c ∈ l, c.b.length ≤ 1000 := fun c hc => Nat.le_trans ((few11_of fp.2.2.1).2.1 c hc).1 (by omega)
 have hfa : ∀ x ∈ a, x.ok ∧ x.a.length ≤ 100000 := fun x hx => ⟨ga x hx, Nat.le_trans (hla x hx) (by omega)⟩
 have hfl := fof_len a
 refine zC 4 (modelOf l LA lc a A k most gl hfa (by first | omega | (rw [List.length_reverse]; omega)) (by omega) (fun c hc F R N new h => big14 fp (by omega) N c hc F R new h)) ?_
 rintro _ _ _ ⟨A1, k1, r1, e1, hM1, rfl, rfl, rfl⟩
 refine zE 6 [0, 1, 2, 3, 9, 10] ?_
 refine zC 5 (ref15Of l LA lc a A k most gl hbl hlen.1 (by omega) (by omega) (fun c hc F N hF => Nat.le_trans (small60 (fp.2.2.2 c hc) (n := 60) hF (by omega)) (by decide))) ?_
 rintro _ _ _ ⟨A2, k2, r2, e2, hM2, rfl, rfl, rfl⟩
 obtain ⟨rfl, rfl⟩ := ModA.one gl hM1 hM2
 refine zR 13 ?_
 refine go_re 45 (.bool false) (by show some (Value.bool _) = _; simp) ?_
 refine zC3 2 (ref13Same A1 k1 (r1.getD []) A2 k2 (r1.getD [])) ?_
 refine zR 2 ?_
 refine go_re 50 (.bool false) (by show some (Value.bool _) = _; simp) ?_
 refine zE 1 [0, 1, 2, 3, 9, 12, 50] ?_
 refine zDf 0 ?_
 refine zN 7 ?_ ?_
 ·intro g3
  refine zC3 2 lawWorks15 ?_
  refine zT 2 rfl ⟨rfl, rfl, rfl⟩
 intro g3
 subst g3
 obtain ⟨hRP, h0m, M, rfl, hMr, hMl, hSt⟩ := hM1.ok gl rfl
 have hlp : ∀ i, i < l.length → 0 < l.length := fun i h => by omega
 refine zR 7 ?_
 refine go_len (xs := l) zM (fun ll ml => ?_)
 refine go_len (xs := a) zM (fun la ma => ?_)
 refine go_own_nil tCl 36 none ?_
 refine zR 4 ?_
 refine zO (X := Nat × Option Addr × Nat) (fun x => [(13, .slice x.2.1 (rotL l t x.1).length x.2.2), (14, .int .i64 (x.1 : Int))]) [0, 1, 2, 3, 9] (fun x => [ol tCl 36 x.2.1 x.2.2 (rotL l t x.1)]) (fun x => x.1 ≤ l.length ∧ (rotL l t x.1).length = x.1) (fun x => l.length - x.1) (0, none, 0) ⟨Nat.zero_le _, rfl⟩ ?_
 intro ⟨i, A3, c3⟩ ⟨hi, hrl⟩
 simp only at hi hrl ⊢
 refine zD 8 ?_ ?_
 ·intro hq1
  refine zR 3 ?_
  have hpos : 0 < l.length := by omega
  have hmod : (i + t) % l.length < l.length := Nat.mod_lt _ hpos
  have hnx : rotL l t i ++ [l[(i + t) % l.length]] = rotL l t (i + 1) := (rotL_snoc hpos).symm
  refine go_elem_cl (xs := l) zM ((i + t) % l.length) (List.getElem?_eq_getElem (hmod)) (fun b1 o1 A5 c5 B5 d5 hA => ?_); cases hA
  refine zR 6 ?_
  refine go_re 64 (.int .i64 (t : Int)) (by first | rfl | (show some (Value.int _ _) = _; rw [wrap_i64 (by omega) (by omega)])) ?_
  refine zR 1 ?_
  refine go_i64n 65 (i + t) rfl ?_
  refine zR 2 ?_
  refine go_val0 rfl (rem_val rfl rfl rfl (by omega)) rfl ?_
  refine go_re 68 (.int .i64 (((i + t) % l.length : Nat) : Int)) (by rfl) ?_
  refine zI 0 ?_
  refine zL 0 ?_
  refine zV 0 ?_
  intro b1
  refine go_append1 (T := tCl) (xs := rotL l t i) Tk (l[(i + t) % l.length]) rfl rfl rfl rfl rfl rfl rfl rfl rfl zM zM rfl (ent_cl zM zM) (by omega) zH ?_
  intro A4 c4
  refine zE 2 [0, 1, 2, 3, 9, 13, 14] ?_
  refine zR 6 ?_
  refine go_i64n 14 (i + 1) rfl ?_
  rw [hnx]
  refine zz (i + 1, A4, c4) (⟨by show i + 1 ≤ _; omega, rotL_len hpos _⟩) (by show _ - (i + 1) < _ - i; omega)
 intro hq1
 refine zR 2 ?_
 rw [show i = l.length by omega]
 refine go_freeze_ol (xs := rotL l t l.length) zM ?_
 refine zR 5 ?_
 refine go_own_nil tFa 39 none ?_
 refine zR 4 ?_
 refine go_i64 75 rfl (by omega) (by omega) ?_
 refine zR 2 ?_
 refine go_re 16 (.int .i64 ((a.length : Int) - 1 - ((0 : Nat) : Int))) (congrArg (fun z : Int => some (Value.int IntKind.i64 z)) (show (a.length : Int) - 1 = (a.length : Int) - 1 - ((0 : Nat) : Int) by omega)) ?_
 refine zR 1 ?_
 refine zO (X := Nat × Option Addr × Nat) (fun x => [(15, .slice x.2.1 (a.reverse.take x.1).length x.2.2), (16, .int .i64 ((a.length : Int) - 1 - (x.1 : Int)))]) [1, 2, 9, 13] (fun x => [ol tFa 39 x.2.1 x.2.2 (a.reverse.take x.1)]) (fun x => x.1 ≤ a.length) (fun x => a.length - x.1) (0, none, 0) (Nat.zero_le _) ?_
 intro ⟨j, A6, c6⟩ hj
 simp only at hj ⊢
 refine zD 6 ?_ ?_
 ·intro hq2
  refine zR 3 ?_
  obtain ⟨jj, hjj⟩ : ∃ jj, jj = a.length - 1 - j := ⟨_, rfl⟩
  have hjl : jj < a.length := by omega
  have hnr : a.reverse.take j ++ [a[jj]] = a.reverse.take (j + 1) := by rw [List.take_succ_eq_append_getElem (by rw [List.length_reverse]; omega), List.getElem_reverse]; simp [hjj]
  refine go_re 16 (.int .i64 (jj : Int)) (congrArg (fun z : Int => some (Value.int IntKind.i64 z)) (show (a.length : Int) - 1 - (j : Int) = (jj : Int) by omega)) ?_
  refine go_elem_fa (xs := a) zM (jj) (List.getElem?_eq_getElem (by omega)) (fun b2 o2 A8 c8 hA => ?_); cases hA
  refine zI 4 ?_
  refine zL 0 ?_
  refine zV 0 ?_
  intro b2
  refine go_append1 (T := tFa) (xs := a.reverse.take j) Tk (a[jj]) rfl rfl rfl rfl rfl rfl rfl rfl rfl zM zM rfl (ent_fa zM) (by rw [List.length_take, List.length_reverse]; omega) zH ?_
  intro A7 c7
  refine zR 2 ?_
  refine go_re 16 (.int .i64 ((a.length : Int) - 1 - (j : Int))) (congrArg (fun z : Int => some (Value.int IntKind.i64 z)) (show (jj : Int) = (a.length : Int) - 1 - (j : Int) by omega)) ?_
  refine zR 6 ?_
  refine go_i64 16 rfl (by omega) (by omega) ?_
  refine go_re 16 (.int .i64 ((a.length : Int) - 1 - ((j + 1 : Nat) : Int))) (congrArg (fun z : Int => some (Value.int IntKind.i64 z)) (show (a.length : Int) - 1 - (j : Int) - 1 = (a.length : Int) - 1 - ((j + 1 : Nat) : Int) by omega)) ?_
  rw [hnr]
  refine zz (j + 1, A7, c7) (by show j + 1 ≤ _; omega) (by show _ - (j + 1) < _ - j; omega)
 intro hq2
 refine zR 2 ?_
 rw [show j = a.length by omega, show a.reverse.take a.length = a.reverse by rw [← List.length_reverse, List.take_length]]
 refine go_freeze_ol (xs := a.reverse) zM ?_
 have hrl2 := rotL_len (l := l) (t := t)
 refine zC 4 (modelOf (rotL l t l.length) A3 c3 a.reverse A6 c6 most (fun c hc => gl c (mem_rotL.1 hc)) (fun x hx => hfa x (List.mem_reverse.1 hx)) (by first | omega | (rw [List.length_reverse]; omega)) (by omega) (fun c hc F R N new h => big14 fp (by omega) N c (mem_rotL.1 hc) F R new h)) ?_
 rintro _ _ _ ⟨A9, k9, r9, e9, hM9, rfl, rfl, rfl⟩
 obtain ⟨rfl, rfl⟩ := turned_same gl hM1 (fun c => mem_rotL) (fun f => List.mem_reverse) (rot_le fp.1) hM9
 refine zE 6 [9, 17, 18] ?_
 refine zR 5 ?_
 refine go_re 96 (.bool true) (by show some (Value.bool _) = _; first | rfl | simp) ?_
 refine zC3 2 (ref13Same A1 k1 M A9 k9 M) ?_
 refine zR 2 ?_
 refine go_re 101 (.bool true) (by show some (Value.bool _) = _; simp) ?_
 refine zC3 0 lawWorks15 ?_
 refine zE 3 [8] ?_
 refine zT 0 rfl ⟨rfl, rfl, rfl⟩
end Go.Proofs.YtpgnmfnckjnecaaGreat.SL
namespace Go.Proofs.YtpgnmfnckjnecaaGreat.SL
open Go.RowKit Go.Deep
def Opens (P : Program) (t : TypeId) {α : Type} (T : Ty α) (G : α → Prop) : Prop :=
  ∀ {H : Type} {enc : TypeId × Value → H} {W : World} {base : Nat} {sp : Nat → Bool} {hd : Bool} {fuel : Nat} {cs : List Value} {x : DataW H × List MemPlace}, DataW.trod enc P W base sp hd fuel t cs = some x → ∃ v, T.rep (hpOf W) v cs ∧ G v
theorem wf_u32 {n : Int} (h : (Lit.int .u32 n).wf = true) : 0 ≤ n ∧ n < 4294967296 := by
  simp [Lit.wf, IntKind.min, IntKind.max, IntKind.signed, IntKind.bits] at h; omega
theorem wf_u8 {n : Int} (h : (Lit.int .u8 n).wf = true) : 0 ≤ n ∧ n < 256 := by
  simp [Lit.wf, IntKind.min, IntKind.max, IntKind.signed, IntKind.bits] at h; omega
theorem wf_i64 {n : Int} (h : (Lit.int .i64 n).wf = true) : -9223372036854775808 ≤ n ∧ n ≤ 9223372036854775807 := by
  simp [Lit.wf, IntKind.min, IntKind.max, IntKind.signed, IntKind.bits] at h; omega
section
variable {P : Program}
theorem opens_int {t : TypeId} {k : IntKind} (ht : P.underlying t = some (.int k)) : Opens P t (tInt k) (fun n => (Lit.int k n).wf = true) := fun h => by
  obtain ⟨n, rfl, _, hw⟩ := DataW.trod_int ht h
  exact ⟨n, rfl, hw⟩
theorem opens_bool {t : TypeId} (ht : P.underlying t = some .bool) : Opens P t tBool (fun _ => True) := fun h => by
  obtain ⟨n, rfl, _⟩ := DataW.trod_bool ht h
  exact ⟨n, rfl, trivial⟩
theorem opens_iso {t : TypeId} {α β : Type} {T : Ty β} {G : β → Prop} {G' : α → Prop} (f : α → β) (g : β → α) (o : Opens P t T G) (hg : ∀ b, f (g b) = b) (hG : ∀ b, G b → G' (g b)) : Opens P t (tIso T f) G' := fun h => by
  obtain ⟨v, r, q⟩ := o h
  exact ⟨g v, by show T.rep _ (f (g v)) _; rw [hg]; exact r, hG v q⟩
theorem opens_pair {t : TypeId} {f0 f1 : Field} {α β : Type} {T : Ty α} {U : Ty β} {G : α → Prop} {K : β → Prop} (ht : P.underlying t = some (.struct #[f0, f1])) (o0 : Opens P f0.type T G) (o1 : Opens P f1.type U K)
    (h0 : f0.offset = 0) (h1 : f1.offset = T.size) (c0 : P.cellsOf f0.type = T.size) (c1 : P.cellsOf f1.type = U.size) (ct : P.cellsOf t = T.size + U.size) : Opens P t (tPair T U) (fun x => G x.1 ∧ K x.2) := fun h => by
  obtain ⟨xs, n, _, rfl, hl, hlen, hf⟩ := DataW.trod_struct ht h
  match xs, hlen with
  | [y0, y1], _ =>
    have e0 := hf 0 f0 rfl
    have e1 := hf 1 f1 rfl
    obtain ⟨v0, r0, g0⟩ := o0 (by simpa using e0)
    obtain ⟨v1, r1, g1⟩ := o1 (by simpa using e1)
    refine ⟨(v0, v1), ⟨_, _, ?_, r0, r1⟩, g0, g1⟩
    rw [h0, h1, c0, c1, List.drop_zero]
    rw [ct] at hl
    rw [List.take_of_length_le (l := List.drop _ _) (by simp; omega), List.take_append_drop]
theorem opens_slice {t e : TypeId} {α : Type} {T : Ty α} {G : α → Prop} (ht : P.underlying t = some (.slice e)) (o : Opens P e T G) (hc : P.cellsOf e = T.size) (hp : 0 < T.size) : Opens P t (tSl T) (fun xs => ∀ x ∈ xs, G x) := fun {H enc W base sp hd fuel cs x} h => by
  rcases open_slice ht h with ⟨rfl, _⟩ | ⟨a, len, cap, m, n, D, Pl, rfl, hb, hl, hm, hmm, rfl, hx⟩
  · exact ⟨[], ⟨none, 0, rfl, by simp, by simp [maxLen], fun _ => rfl, fun j x hj => by simp at hj⟩, fun x hx => by cases hx⟩
  · have hlm : len ≤ m := by rw [hmm]; split <;> omega
    have el : ∀ i, i < len → ∃ v, (∃ cs, T.rep (hpOf W) v cs ∧ W.cells? base (a.add (i * T.size)) T.size = some cs) ∧ G v := fun i hi => by
      obtain ⟨cs', h1, h2⟩ := hx i (by omega)
      obtain ⟨v, r, g⟩ := o h2
      rw [hc] at h1
      exact ⟨v, ⟨cs', r, h1⟩, g⟩
    have ex : ∃ xs : List α, xs.length = len ∧ ∀ i x, xs[i]? = some x → (∃ cs, T.rep (hpOf W) x cs ∧ W.cells? base (a.add (i * T.size)) T.size = some cs) ∧ G x := by
      have key : ∀ k, k ≤ len → ∃ xs : List α, xs.length = k ∧ ∀ i x, xs[i]? = some x → (∃ cs, T.rep (hpOf W) x cs ∧ W.cells? base (a.add (i * T.size)) T.size = some cs) ∧ G x := by
        intro k
        induction k with
        | zero => exact fun _ => ⟨[], rfl, fun i x hx => by simp at hx⟩
        | succ k ih =>
          intro hk
          obtain ⟨xs, h1, h2⟩ := ih (by omega)
          obtain ⟨v, hv⟩ := el k (by omega)
          refine ⟨xs ++ [v], by simp [h1], fun i x hx => ?_⟩
          rw [List.getElem?_append] at hx
          split at hx
          · exact h2 i x hx
          · rename_i hlt
            have : i = k := by
              rcases Nat.eq_or_lt_of_le (show xs.length ≤ i by omega) with q | q
              · omega
              · rw [List.getElem?_eq_none (by simp; omega)] at hx; cases hx
            subst this
            simp [h1] at hx
            subst hx
            exact hv
      exact key len (Nat.le_refl _)
    obtain ⟨xs, h1, h2⟩ := ex
    refine ⟨xs, ⟨some a, cap, by rw [h1], by omega, hm, fun e => (by cases e), fun j x hj => ?_⟩, fun x hx => ?_⟩
    · obtain ⟨⟨cs, r, hcs⟩, _⟩ := h2 j x hj
      obtain ⟨_, hln, hget⟩ := World.cells?_some hcs
      have hspot : a.spot = none := by
        obtain ⟨v0, hv0⟩ : ∃ v, xs[0]? = some v := by
          cases xs with
          | nil => simp at hj
          | cons v l => exact ⟨v, rfl⟩
        obtain ⟨⟨cs0, _, hcs0⟩, _⟩ := h2 0 v0 hv0
        obtain ⟨_, hln0, hget0⟩ := World.cells?_some hcs0
        have := hget0 0 hp
        rw [List.getElem?_eq_getElem (by omega)] at this
        simp only [Nat.zero_mul, Addr.add, if_true, World.cell?] at this
        split at this
        · cases hs : a.spot with
          | none => rfl
          | some q => rw [hs] at this; simp at this
        · cases this
      obtain ⟨b, oo, sp0⟩ := a
      cases hspot
      refine ⟨b, oo, cs, rfl, r, fun i v hi => ?_⟩
      have hlt : i < T.size := by
        rw [← hln]
        rcases Nat.lt_or_ge i cs.length with q | q
        · exact q
        · simp [q] at hi
      have := hget i hlt
      rw [run_addOff, run_addOff, hi] at this
      unfold World.cell? at this
      unfold cellH hpOf
      rw [Nat.add_assoc] at this
      simp only at this ⊢
      split at this
      · rename_i e
        simp only [e]
        simpa using this
      · cases this
    · obtain ⟨j, hj, rfl⟩ := List.getElem_of_mem hx
      exact (h2 j _ (List.getElem?_eq_getElem hj)).2
theorem Spec.law {f : FuncId} {args : Array Value} {Ps : List PA} (s : Spec P f args Ps [] (fun v Ps' Os' => v = .bool true ∧ Ps' = [] ∧ Os' = [])) (W : World) (h : ∀ p, p ∈ Ps → p.p (hpOf W)) :
    Calls P f args W fun e W' => e = .returned (.bool true) ∧ Below W.heap.size W W' := by
  refine (s.calls W (hpOf W) Heap.nil Heap.nil ⟨Heap.le_refl _, Heap.nil_le _, Heap.dj_symm (Heap.nil_dj _), h, trivial⟩ (Heap.nil_le _) (Heap.nil_dj _) (Heap.nil_dj _)).mono ?_
  rintro e w' ⟨v, hp', ho', Ps', Os', rfl, ⟨rfl, _, _⟩, hs, hle, _, _, _, hr⟩
  refine ⟨rfl, hr.os, hr.tape, hr.output, hr.size, fun k hk => ?_⟩
  have h1 : hpOf W k = some W.heap[k] := by simp [hpOf, hk]
  have h2 := hs.inp _ _ (hle _ _ h1)
  unfold hpOf at h1 h2
  rw [h1, h2]
end
end Go.Proofs.YtpgnmfnckjnecaaGreat.SL
namespace Go.Proofs.YtpgnmfnckjnecaaGreat.SL
theorem opU : Opens Tryz.prog 30 tU (fun n => 0 ≤ n ∧ n < 4294967296) := fun h => (opens_int Tryz.underlying30 h).imp fun v q => ⟨q.1, wf_u32 q.2⟩
theorem opUs : Opens Tryz.prog 37 (tSl tU) (fun xs => ∀ x ∈ xs, (fun n : Int => 0 ≤ n ∧ n < 4294967296) x) := opens_slice Tryz.underlying37 opU (by kernel_rfl) (by decide)
theorem opFa : Opens Tryz.prog 39 tFa Fa.ok := opens_iso (fun x : Fa => (x.p, x.a)) (fun b => ⟨b.1, b.2⟩) (opens_pair Tryz.underlying39 opU opUs rfl rfl (by kernel_rfl) (by kernel_rfl) (by kernel_rfl)) (fun b => rfl) (fun b g => g)
theorem opFas : Opens Tryz.prog 23 (tSl tFa) (fun xs => ∀ x ∈ xs, Fa.ok x) := opens_slice Tryz.underlying23 opFa (by kernel_rfl) (by decide)
theorem opTm : Opens Tryz.prog 82 tTm Tm.ok := opens_iso (fun x : Tm => (x.v, x.n)) (fun b => ⟨b.1, b.2⟩) (opens_pair Tryz.underlying82 (opens_bool Tryz.underlying4) opU rfl rfl (by kernel_rfl) (by kernel_rfl) (by kernel_rfl)) (fun b => rfl) (fun b g => g.2)
theorem opTms : Opens Tryz.prog 31 (tSl tTm) (fun xs => ∀ x ∈ xs, Tm.ok x) := opens_slice Tryz.underlying31 opTm (by kernel_rfl) (by decide)
theorem opAm : Opens Tryz.prog 33 tAm Am.ok := opens_iso (fun x : Am => (x.p, x.a)) (fun b => ⟨b.1, b.2⟩) (opens_pair Tryz.underlying33 opU opTms rfl rfl (by kernel_rfl) (by kernel_rfl) (by kernel_rfl)) (fun b => rfl) (fun b g => g)
theorem opLi : Opens Tryz.prog 45 tLi (fun x : Li => x.a.ok) := opens_iso (fun x : Li => (x.no, x.a)) (fun b => ⟨b.1, b.2⟩) (opens_pair Tryz.underlying45 (opens_bool Tryz.underlying4) opAm rfl rfl (by kernel_rfl) (by kernel_rfl) (by kernel_rfl)) (fun b => rfl) (fun b g => g.2)
theorem opLis : Opens Tryz.prog 34 (tSl tLi) (fun xs => ∀ x ∈ xs, (fun x : Li => x.a.ok) x) := opens_slice Tryz.underlying34 opLi (by kernel_rfl) (by decide)
theorem opCl : Opens Tryz.prog 36 tCl Cl.ok := opens_iso (fun x : Cl => (x.h, x.b)) (fun b => ⟨b.1, b.2⟩) (opens_pair Tryz.underlying36 opAm opLis rfl rfl (by kernel_rfl) (by kernel_rfl) (by kernel_rfl)) (fun b => rfl) (fun b g => ⟨g.1, g.2⟩)
theorem opCls : Opens Tryz.prog 22 (tSl tCl) (fun xs => ∀ x ∈ xs, Cl.ok x) := opens_slice Tryz.underlying22 opCl (by kernel_rfl) (by decide)
theorem sized_len {H : Type} {enc : TypeId × Value → H} {P : Program} {W : World} {base : Nat} {sp : Nat → Bool} {hd : Bool} {fuel : Nat} {ts : List TypeId} {ds : List (DataW H)} {j : Nat} {t e : TypeId} {cs : List Value} {x : DataW H × List MemPlace} {A : Option Addr} {n c : Nat}
    (h : (DataW.weightsEach P ts ds).all (· ≤ reachBytes) = true) (ht : ts[j]? = some t) (hd' : ds[j]? = some x.1) (hu : P.underlying t = some (.slice e)) (hx : DataW.trod enc P W base sp hd fuel t cs = some x) (hc : cs = [.slice A n c]) (hb : Nat.ble 1 (P.bytesOf e) = true) : n ≤ 140737488351232 := by
  subst hc
  rcases Deep.open_slice hu hx with ⟨h1, _⟩ | ⟨a, len, cap, m, q, D, Pl, h1, _, _, _, _, rfl, _⟩
  · cases h1; omega
  · cases h1
    have := sized_slice h ht hd' hu
    have hb' := Nat.le_of_ble_eq_true hb
    have h2 : n ≤ n * P.bytesOf e := Nat.le_mul_of_pos_right _ hb'
    simp only [List.length_map, List.length_range] at this
    rw [Nat.add_mul] at this
    have h3 : reachBytes = 140737488351232 := rfl
    omega
end Go.Proofs.YtpgnmfnckjnecaaGreat.SL
namespace Go.Proofs.YtpgnmfnckjnecaaGreat.SL
open Go Md
set_option maxHeartbeats 6000000 in
theorem lawModelHolds (l : List Cl) (LA : Option Addr) (lc : Nat) (gl : ∀ c ∈ l, c.ok) (zl : l.length ≤ 140737488351232) (a : List Fa) (A : Option Addr) (k : Nat) (ga : ∀ x ∈ a, x.ok) (za : a.length ≤ 140737488351232) :
    Spec Tryz.prog 4 #[.slice LA l.length lc, .slice A a.length k] [sl tCl LA lc l, sl tFa A k a] [] (fun v Ps' Os' => v = .bool true ∧ Ps' = [] ∧ Os' = []) := by
 refine zSp [.slice LA l.length lc, .slice A a.length k] Tryz.func4 Tryz.ntmps4 (fun w0 hp0 hf0 => ?_)
 refine zC3 9 (law14Few l LA lc a A k) ?_
 refine zB 2 ?_ ?_
 ·intro g1
  (try simp only [dcs, ne_eq] at g1)
  refine zC3 2 lawWorks15 ?_
  refine zT 2 rfl ⟨rfl, rfl, rfl⟩
 intro g1
 (try simp only [dcs, ne_eq] at g1)
 refine zR 2 ?_
 have fp := few14_of g1
 have hlen : l.length ≤ 20 ∧ a.length ≤ 30 := ⟨fp.1, fp.2.1⟩
 have hla : ∀ x ∈ a, x.a.length ≤ 30 := (few11_of fp.2.2.1).2.2
 have hbl : ∀ c ∈ l, c.b.length ≤ 1000 := fun c hc => Nat.le_trans ((few11_of fp.2.2.1).2.1 c hc).1 (by omega)
 have hfa : ∀ x ∈ a, x.ok ∧ x.a.length ≤ 100000 := fun x hx => ⟨ga x hx, Nat.le_trans (hla x hx) (by omega)⟩
 have hfl := fof_len a
 refine zC 3 (modelOf l LA lc a A k 60 gl hfa (by first | omega | (rw [List.length_reverse]; omega)) (by omega) (fun c hc F R N new h => big14 fp (by omega) N c hc F R new h)) ?_
 rintro _ _ _ ⟨A1, k1, r1, e1, hM1, rfl, rfl, rfl⟩
 refine zE 12 [0, 1, 5, 24] ?_
 refine zN 0 ?_ ?_
 ·intro g3
  refine zC3 2 lawWorks15 ?_
  refine zT 2 rfl ⟨rfl, rfl, rfl⟩
 intro g3
 subst g3
 obtain ⟨hRP, h0m, M, rfl, hMr, hMl, hSt⟩ := hM1.ok gl rfl
 obtain ⟨hm1, hm2, _, hm4⟩ := model_all gl hM1
 have hfin : (a ++ l.flatMap (fun c => headsC c M [] M false)).foldl fput [] = M := hm4
 refine go_re 5 (.slice A1 M.length k1) (by rfl) ?_
 refine go_sl (sl tFa A1 k1 ((some M).getD [])) (sl tFa A1 k1 M) zM (fun _ h => h) ?_
 have hhl : ∀ c ∈ l, ((fun c => headsC c M [] M false) c).length ≤ 216000 := fun c hc => headsC_len (Nat.le_trans (small60 (fp.2.2.2 c hc) (n := 60) (by omega) (by omega)) (by decide))
 have hxl : ∀ i, ((l.take i).flatMap (fun c => headsC c M [] M false)).length ≤ i * 216000 := fun i => by
   exact Nat.le_trans (flatMap_le (n := 216000) (fun c hc => hhl c (List.mem_of_mem_take hc))) (Nat.mul_le_mul_right _ (by rw [List.length_take]; omega))
 refine zR 2 ?_
 refine go_len (xs := a) zM (fun la ma => ?_)
 refine go_len (xs := l) zM (fun ll ml => ?_)
 refine go_sl_nil tFa ?_
 refine zR 3 ?_
 refine go_re 7 (.slice none ((a.take (0)).foldl fput []).length 0) (by rfl) ?_
 refine go_sl (sl tFa none 0 []) (sl tFa none 0 ((a.take (0)).foldl fput [])) zM (fun _ h => h) ?_
 refine zR 6 ?_
 refine go_loop (X := Nat × Option Addr × Nat) (fun x => [(7, .slice x.2.1 ((a.take (x.1)).foldl fput []).length x.2.2), (8, .int .i64 (x.1 : Int))]) [(0, _), (1, _), (5, _)] (fun x => [sl tFa x.2.1 x.2.2 ((a.take (x.1)).foldl fput []), sl tFa A1 k1 M, sl tCl LA lc l, sl tFa A k a]) (fun _ => []) (fun x => x.1 ≤ a.length) (fun x => a.length - x.1) ((0, none, 0)) zA zM zM (Nat.zero_le _) ?_
 intro ⟨i, A7, k7⟩ hi
 simp only at hi ⊢
 have hul := foldl_flen (a.take (i)) []
 rw [List.length_take] at hul
 refine zD 8 ?_ ?_
 ·intro hq1
  refine zR 5 ?_
  refine go_elem_fa (xs := a) zM (i) (List.getElem?_eq_getElem (by omega)) (fun b1 o1 A2 c2 hA => ?_); cases hA
  refine zI 4 ?_
  refine zL 0 ?_
  refine zC3 0 (ref13Has A1 k1 M a[i] A2 c2) ?_
  refine zR 1 ?_
  refine go_re 38 (.bool false) (by show some (Value.bool _) = _; rw [decide_eq_true (hm1 _ (List.getElem_mem _))]; rfl) ?_
  refine zDf 1 ?_
  refine zR 1 ?_
  refine go_elem_fa (xs := a) zM (i) (List.getElem?_eq_getElem (by omega)) (fun b3 o3 A3 c3 hA => ?_); cases hA
  refine zI 4 ?_
  refine zL 0 ?_
  refine zC 0 (ref13With A7 k7 ((a.take (i)).foldl fput []) a[i] A3 c3 (foldl_rises _ _ rises_nil) (by simp only [List.length_nil] at hul; omega)) ?_
  rintro _ _ _ ⟨A6, k6, rfl, rfl, rfl⟩
  refine zE 2 [0, 1, 5, 7, 8] ?_
  refine zR 6 ?_
  refine go_i64n 8 (i + 1) rfl ?_
  have hnx : fput ((a.take (i)).foldl fput []) a[i] = (a.take (i + 1)).foldl fput [] := by rw [List.take_succ_eq_append_getElem (show i < a.length by omega)]; simp only [List.foldl_append, List.foldl_cons, List.foldl_nil]
  refine go_re 7 (.slice A6 ((a.take (i + 1)).foldl fput []).length k6) (by show some (Value.slice _ _ _) = _; rw [hnx]) ?_
  refine go_sl (sl tFa A6 k6 (fput ((a.take (i)).foldl fput []) a[i])) (sl tFa A6 k6 ((a.take (i + 1)).foldl fput [])) zM (fun _ h => hnx ▸ h) ?_
  refine zz (i + 1, A6, k6) (by show i + 1 ≤ _; omega) (by show _ - (i + 1) < _ - i; omega)
 intro hq1
 refine zR 3 ?_
 have hxe0 : (a.take (i)).foldl fput [] = (a ++ (l.take (0)).flatMap (fun c => headsC c M [] M false)).foldl fput [] := by rw [List.take_of_length_le (show a.length ≤ i by omega)]; simp
 refine go_re 7 (.slice A7 ((a ++ (l.take (0)).flatMap (fun c => headsC c M [] M false)).foldl fput []).length k7) (by show some (Value.slice _ _ _) = _; rw [hxe0]) ?_
 refine go_sl (sl tFa A7 k7 ((a.take (i)).foldl fput [])) (sl tFa A7 k7 ((a ++ (l.take (0)).flatMap (fun c => headsC c M [] M false)).foldl fput [])) zM (fun _ h => hxe0 ▸ h) ?_
 rename_i i0
 obtain ⟨A17, rfl⟩ : ∃ z, z = A7 := ⟨_, rfl⟩
 obtain ⟨k17, rfl⟩ : ∃ z, z = k7 := ⟨_, rfl⟩
 refine zR 4 ?_
 refine go_loop (X := Nat × Option Addr × Nat) (fun x => [(7, .slice x.2.1 ((a ++ (l.take (x.1)).flatMap (fun c => headsC c M [] M false)).foldl fput []).length x.2.2), (9, .int .i64 (x.1 : Int))]) [(0, _), (5, _)] (fun x => [sl tFa x.2.1 x.2.2 ((a ++ (l.take (x.1)).flatMap (fun c => headsC c M [] M false)).foldl fput []), sl tFa A1 k1 M, sl tCl LA lc l, sl tFa A k a]) (fun _ => []) (fun x => x.1 ≤ l.length) (fun x => l.length - x.1) ((0, A17, k17)) zA zM zM (Nat.zero_le _) ?_
 intro ⟨i, A8, k8⟩ hi
 simp only at hi ⊢
 refine zD' 8 ?_ ?_
 ·intro hq2
  refine zR 2 ?_
  have hfin2 : (a ++ (l.take (i)).flatMap (fun c => headsC c M [] M false)).foldl fput [] = M := by rw [List.take_of_length_le (show l.length ≤ i by omega)]; exact hfin
  refine zC3 3 (ref13Same A8 k8 ((a ++ (l.take (i)).flatMap (fun c => headsC c M [] M false)).foldl fput []) A1 k1 M) ?_
  refine zR 1 ?_
  refine go_re 80 (.bool true) (by show some (Value.bool _) = _; rw [decide_eq_true hfin2]) ?_
  refine zC3 0 lawWorks15 ?_
  refine zE 3 [4] ?_
  refine zT 0 rfl ⟨rfl, rfl, rfl⟩
 intro hq2
 refine zR 4 ?_
 refine go_elem_cl (xs := l) zM (i) (List.getElem?_eq_getElem (by omega)) (fun b4 o4 A10 c10 B10 d10 hA => ?_); cases hA
 refine zI 3 ?_
 refine zL 0 ?_
 refine zC 2 (ref13Heads l[i] A10 c10 B10 d10 M A1 k1 M A1 k1 (gl _ (List.getElem_mem _)) (hbl _ (List.getElem_mem _)) (Nat.le_trans (small60 (fp.2.2.2 _ (List.getElem_mem _)) (n := 60) (by omega) (by omega)) (by decide))) ?_
 rintro _ _ _ ⟨AH, kH, rfl, rfl, rfl⟩
 refine zR 3 ?_
 refine go_len (xs := headsC l[i] M [] M false) zM (fun lh mh => ?_)
 have hhi : (headsC l[i] M [] M false).length ≤ 216000 := hhl l[i] (List.getElem_mem _)
 have hxi := hxl i
 refine zR 3 ?_
 refine go_re 7 (.slice A8 ((a ++ (l.take (i)).flatMap (fun c => headsC c M [] M false) ++ (headsC l[i] M [] M false).take (0)).foldl fput []).length k8) (by show some (Value.slice _ _ _) = _; rw [List.take_zero, List.append_nil]) ?_
 refine go_sl (sl tFa A8 k8 ((a ++ (l.take (i)).flatMap (fun c => headsC c M [] M false)).foldl fput [])) (sl tFa A8 k8 ((a ++ (l.take (i)).flatMap (fun c => headsC c M [] M false) ++ (headsC l[i] M [] M false).take (0)).foldl fput [])) zM (fun _ h => by rw [List.take_zero, List.append_nil]; exact h) ?_
 refine zR 1 ?_
 refine go_loop (X := Nat × Option Addr × Nat) (fun x => [(7, .slice x.2.1 ((a ++ (l.take (i)).flatMap (fun c => headsC c M [] M false) ++ (headsC l[i] M [] M false).take (x.1)).foldl fput []).length x.2.2), (11, .int .i64 (x.1 : Int))]) [(0, _), (5, _), (9, _), (10, _)] (fun x => [sl tFa x.2.1 x.2.2 ((a ++ (l.take (i)).flatMap (fun c => headsC c M [] M false) ++ (headsC l[i] M [] M false).take (x.1)).foldl fput []), sl tFa AH kH (headsC l[i] M [] M false), sl tFa A1 k1 M, sl tCl (some ⟨b4, o4, none⟩) lc l, sl tFa A k a]) (fun _ => []) (fun x => x.1 ≤ (headsC l[i] M [] M false).length) (fun x => (headsC l[i] M [] M false).length - x.1) ((0, A8, k8)) zA zM zM (Nat.zero_le _) ?_
 intro ⟨j, A9, k9⟩ hj
 simp only at hj ⊢
 have hul := foldl_flen (a ++ (l.take (i)).flatMap (fun c => headsC c M [] M false) ++ (headsC l[i] M [] M false).take (j)) []
 rw [List.length_append, List.length_append, List.length_take] at hul
 refine zD' 8 ?_ ?_
 ·intro g7
  have hxe : (a ++ (l.take (i)).flatMap (fun c => headsC c M [] M false) ++ (headsC l[i] M [] M false).take (j)).foldl fput [] = (a ++ (l.take (i + 1)).flatMap (fun c => headsC c M [] M false)).foldl fput [] := by rw [List.take_of_length_le (show (headsC l[i] M [] M false).length ≤ j by omega), List.append_assoc, ← flat_next (by omega)]
  refine zR 7 ?_
  refine go_i64n 9 (i + 1) rfl ?_
  refine go_re 7 (.slice A9 ((a ++ (l.take (i + 1)).flatMap (fun c => headsC c M [] M false)).foldl fput []).length k9) (by show some (Value.slice _ _ _) = _; rw [hxe]) ?_
  refine go_sl (sl tFa A9 k9 ((a ++ (l.take (i)).flatMap (fun c => headsC c M [] M false) ++ (headsC l[i] M [] M false).take (j)).foldl fput [])) (sl tFa A9 k9 ((a ++ (l.take (i + 1)).flatMap (fun c => headsC c M [] M false)).foldl fput [])) zM (fun _ h => hxe ▸ h) ?_
  refine zz (i + 1, A9, k9) (by show i + 1 ≤ _; omega) (by show _ - (i + 1) < _ - i; omega)
 intro g7
 refine zR 5 ?_
 refine go_elem_fa (xs := headsC l[i] M [] M false) zM (j) (List.getElem?_eq_getElem (by omega)) (fun b5 o5 A12 c12 hA => ?_); cases hA
 refine zI 4 ?_
 refine zL 0 ?_
 refine zC3 0 (ref13Has A1 k1 M (headsC l[i] M [] M false)[j] A12 c12) ?_
 refine zR 1 ?_
 refine go_re 70 (.bool false) (by show some (Value.bool _) = _; rw [decide_eq_true (hm2 l[i] (List.getElem_mem _) _ (List.getElem_mem _))]; rfl) ?_
 refine zDf 1 ?_
 refine zR 1 ?_
 refine go_elem_fa (xs := headsC l[i] M [] M false) zM (j) (List.getElem?_eq_getElem (by omega)) (fun b6 o6 A13 c13 hA => ?_); cases hA
 refine zI 4 ?_
 refine zL 0 ?_
 refine zC 0 (ref13With A9 k9 ((a ++ (l.take (i)).flatMap (fun c => headsC c M [] M false) ++ (headsC l[i] M [] M false).take (j)).foldl fput []) (headsC l[i] M [] M false)[j] A13 c13 (foldl_rises _ _ rises_nil) (by have : i * 216000 ≤ 20 * 216000 := Nat.mul_le_mul_right _ (by omega); simp only [List.length_nil] at hul; omega)) ?_
 rintro _ _ _ ⟨A11, k11, rfl, rfl, rfl⟩
 refine zE 2 [0, 5, 7, 9, 10, 11] ?_
 refine zR 6 ?_
 refine go_i64n 11 (j + 1) rfl ?_
 have hnx : fput ((a ++ (l.take (i)).flatMap (fun c => headsC c M [] M false) ++ (headsC l[i] M [] M false).take (j)).foldl fput []) (headsC l[i] M [] M false)[j] = (a ++ (l.take (i)).flatMap (fun c => headsC c M [] M false) ++ (headsC l[i] M [] M false).take ((j + 1))).foldl fput [] := by rw [List.take_succ_eq_append_getElem (show j < (headsC l[i] M [] M false).length by omega), ← List.append_assoc]; simp only [List.foldl_append, List.foldl_cons, List.foldl_nil]
 refine go_re 7 (.slice A11 ((a ++ (l.take (i)).flatMap (fun c => headsC c M [] M false) ++ (headsC l[i] M [] M false).take ((j + 1))).foldl fput []).length k11) (by show some (Value.slice _ _ _) = _; rw [hnx]) ?_
 refine go_sl (sl tFa A11 k11 (fput ((a ++ (l.take (i)).flatMap (fun c => headsC c M [] M false) ++ (headsC l[i] M [] M false).take (j)).foldl fput []) (headsC l[i] M [] M false)[j])) (sl tFa A11 k11 ((a ++ (l.take (i)).flatMap (fun c => headsC c M [] M false) ++ (headsC l[i] M [] M false).take ((j + 1))).foldl fput [])) zM (fun _ h => hnx ▸ h) ?_
 refine zz (j + 1, A11, k11) (by show j + 1 ≤ _; omega) (by show _ - (j + 1) < _ - j; omega)
end Go.Proofs.YtpgnmfnckjnecaaGreat.SL
namespace Go.Proofs.YtpgnmfnckjnecaaGreat.SL
open Md
theorem ModA.fine {l : List Cl} {fs : List Fa} {most : Int} {M : List Fa} (ho : ∀ c ∈ l, c.ok) (hf : ∀ x ∈ fs, x.ok ∧ x.a.length ≤ 100000) (h : ModA l fs most (some M) 0) : ∀ x ∈ M, x.ok ∧ x.a.length ≤ 100000 := by
  generalize hr : some M = r at h
  generalize he : (0 : Int) = e at h
  cases h with
  | arg a => cases hr
  | strat a s n => cases hr
  | ari a s n => cases hr
  | run a s o m =>
    cases m with
    | big g => cases hr
    | bad h0 h1 hk hL => cases hr
    | ok g u => cases hr; exact u.fine (fun s hs c hc => ho c (st_mem s hs c hc)) (fun x hx => hf x (mem_fof.1 hx))
def nots (b : List Li) (k : Nat) : Bool := (b.take k).any (·.no)
theorem nots_succ {b : List Li} {k : Nat} (h : k < b.length) : nots b (k + 1) = (nots b k || b[k].no) := by
  unfold nots; rw [List.take_succ_eq_append_getElem h, List.any_append]; simp
def noN (l : List Cl) : List Cl := l.filter fun c => !nots c.b c.b.length
theorem noN_mem {l : List Cl} {c : Cl} (h : c ∈ noN l) : c ∈ l := (List.mem_filter.1 h).1
theorem noN_len (l : List Cl) : (noN l).length ≤ l.length := List.length_filter_le ..
theorem noN_take (l : List Cl) (i : Nat) : (noN (l.take i)).length ≤ i := Nat.le_trans (noN_len _) (by rw [List.length_take]; omega)
theorem noN_yes {l : List Cl} {i : Nat} (h : i < l.length) (q : nots l[i].b l[i].b.length = false) : noN (l.take i) ++ [l[i]] = noN (l.take (i + 1)) := by
  rw [List.take_succ_eq_append_getElem h]; unfold noN; rw [List.filter_append]; simp [q]
theorem noN_no {l : List Cl} {i : Nat} (h : i < l.length) (q : nots l[i].b l[i].b.length = true) : noN (l.take i) = noN (l.take (i + 1)) := by
  rw [List.take_succ_eq_append_getElem h]; unfold noN; rw [List.filter_append]; simp [q]
def bareC (f : Fa) : Cl := ⟨lift f, []⟩
theorem lift_var {f : Fa} {t : Tm} (h : t ∈ (lift f).a) : t.v = false := by
  obtain ⟨n, _, rfl⟩ := List.mem_map.1 h; rfl
theorem may_bare {f : Fa} : mayC (bareC f) = true ↔ f.a.length ≤ 6 := by
  rw [mayC_iff, mayA_iff]
  constructor
  · rintro ⟨_, ⟨h, _⟩, _⟩; rw [← lift_len]; exact h
  · intro h
    refine ⟨Nat.zero_le _, ⟨by rw [← lift_len] at h; exact h, fun t ht e => ?_⟩, fun x hx => absurd hx List.not_mem_nil⟩
    have ht' : t ∈ (lift f).a := ht
    rw [lift_var ht'] at e; cases e
theorem held_bare (f : Fa) : heldP (bareC f) := by
  refine ⟨fun t ht e => ?_, fun x hx => absurd hx List.not_mem_nil⟩
  have ht' : t ∈ (lift f).a := ht
  rw [lift_var ht'] at e; cases e
theorem H_bare {f x : Fa} {F N : Fa → Prop} : H (bareC f) F N x ↔ f.a.length ≤ 6 ∧ x = f := by
  unfold H
  rw [right_iff, may_bare]
  constructor
  · rintro ⟨⟨h, _⟩, s, _, _, _, e⟩
    exact ⟨h, by rw [e]; exact ap_lift s f⟩
  · rintro ⟨h, rfl⟩
    refine ⟨⟨h, held_bare _, fun a ha b hb _ => ?_⟩, fun n => n, fun x hx => absurd hx List.not_mem_nil, fun x hx => absurd hx List.not_mem_nil, (fun e => nomatch e), (ap_lift _ _).symm⟩
    have e1 : a = lift x := by simpa [atomsC, bareC] using ha
    have e2 : b = lift x := by simpa [atomsC, bareC] using hb
    rw [e1, e2]
theorem Md.Stable.unbare {l u : List Cl} {B M : Fa → Prop} (h : Stable (l ++ u) (fun _ => False) M) (hu : ∀ N F : Fa → Prop, ∀ x, B x ↔ ∃ c ∈ u, H c F N x) : Stable l B M := by
  refine ⟨fun x hx => ?_, fun c hc => h.closed c (List.mem_append_left _ hc), fun S h1 h2 => h.least S (fun _ q => q.elim) fun c hc x hx => ?_⟩
  · obtain ⟨c, hc, q⟩ := (hu M M x).1 hx
    exact h.closed c (List.mem_append_right _ hc) x q
  · rcases List.mem_append.1 hc with q | q
    · exact h2 c q x hx
    · exact h1 x ((hu M S x).2 ⟨c, q, hx⟩)
theorem atomsL_bare (l : List Cl) (fs : List Fa) : atomsL (l ++ fs.map bareC) = atomsL l ++ fs.map lift := by
  unfold atomsL
  rw [List.flatMap_append]
  congr 1
  induction fs with
  | nil => rfl
  | cons f fs ih => rw [List.map_cons, List.flatMap_cons, ih]; rfl
theorem RP.bare {l : List Cl} {fs : List Fa} (hn : l.length + fs.length ≤ 400) : RP (l ++ fs.map bareC) [] ↔ RP l fs := by
  constructor
  · rintro ⟨h1, ⟨lv, h2⟩, h3⟩
    have h4 := rightC_iff.1 h1
    rw [atomsL_bare] at h4
    exact ⟨right_sub h1 (fun c hc => List.mem_append_left _ hc) (by omega), ⟨lv, levels_sub h2 fun c hc => .inl (List.mem_append_left _ hc)⟩, fun f hf => may_bare.1 (h4.2.1 _ (List.mem_append_right _ (List.mem_map_of_mem hf))).1, h4.2.2⟩
  · rintro ⟨h1, ⟨lv, h2⟩, h3⟩
    have h4 := rightC_iff.1 h1
    have h5 : (rightC (l ++ fs.map bareC)).2 = 0 := by
      refine rightC_iff.2 ⟨by rw [List.length_append, List.length_map]; exact hn, fun c hc => ?_, by rw [atomsL_bare]; exact h3.2⟩
      rcases List.mem_append.1 hc with q | q
      · exact h4.2.1 c q
      · obtain ⟨f, hf, rfl⟩ := List.mem_map.1 q
        exact ⟨may_bare.2 (h3.1 f hf), heldC_iff.2 (held_bare f)⟩
    refine ⟨h5, ⟨lv, levels_sub h2 fun c hc => ?_⟩, ArOK.nil (rightC_iff.1 h5).2.2⟩
    rcases List.mem_append.1 hc with q | q
    · exact .inl q
    · obtain ⟨f, hf, rfl⟩ := List.mem_map.1 q; exact .inr rfl
theorem bare_H {l : List Cl} {fs : List Fa} (h : RP l fs) (N F : Fa → Prop) (x : Fa) : x ∈ fof fs ↔ ∃ c ∈ fs.map bareC, H c F N x := by
  rw [mem_fof]
  constructor
  · intro q; exact ⟨_, List.mem_map_of_mem q, H_bare.2 ⟨h.2.2.1 x q, rfl⟩⟩
  · rintro ⟨c, hc, q⟩
    obtain ⟨f, hf, rfl⟩ := List.mem_map.1 hc
    rw [(H_bare.1 q).2]; exact hf
theorem bare_ok {f : Fa} (h : f.ok) : (bareC f).ok := by
  refine ⟨⟨h.1, fun t ht => ?_⟩, fun x hx => absurd hx List.not_mem_nil⟩
  obtain ⟨n, hn, rfl⟩ := List.mem_map.1 ht
  exact h.2 n hn
theorem bare_oks {l : List Cl} {fs : List Fa} (ho : ∀ c ∈ l, c.ok) (hf : ∀ f ∈ fs, f.ok) : ∀ c ∈ l ++ fs.map bareC, c.ok := fun c hc => by
  rcases List.mem_append.1 hc with q | q
  · exact ho c q
  · obtain ⟨f, hf', rfl⟩ := List.mem_map.1 q; exact bare_ok (hf f hf')
theorem big_bare {l : List Cl} {fs : List Fa} {most : Int} (h : ∀ c ∈ l, ∀ (F R N : List Fa) (new : Bool), (F.length : Int) ≤ most → (goL c F R N c.b ch0 new).length ≤ 50000000) : ∀ c ∈ l ++ fs.map bareC, ∀ (F R N : List Fa) (new : Bool), (F.length : Int) ≤ most → (goL c F R N c.b ch0 new).length ≤ 50000000 := fun c hc F R N new hF => by
  rcases List.mem_append.1 hc with q | q
  · exact h c q F R N new hF
  · obtain ⟨f, _, rfl⟩ := List.mem_map.1 q
    show (goL _ F R N [] ch0 new).length ≤ _
    unfold goL; split <;> simp
theorem mem_none (x : Fa) : x ∈ fof [] ↔ False := ⟨fun h => absurd (mem_fof.1 h) List.not_mem_nil, False.elim⟩
theorem model_bare {l : List Cl} {fs : List Fa} {most : Int} {r r' : Option (List Fa)} {e e' : Int} (ho : ∀ c ∈ l, c.ok) (hf : ∀ f ∈ fs, f.ok) (hn : l.length + fs.length ≤ 400) (h0 : 0 ≤ most) (h : ModA l fs most r e) (h' : ModA (l ++ fs.map bareC) [] most r' e') :
    (e = 0 → r' = r ∧ e' = 0) ∧ (e ≠ 0 → e' ≠ 0) := by
  have ho' := bare_oks ho hf
  constructor
  · intro he
    subst he
    obtain ⟨hr, _, M, rfl, h3, h4, h5⟩ := h.ok ho rfl
    have hr' := (RP.bare hn).2 hr
    obtain ⟨lv, hlv⟩ := hr'.2.1
    exact ((h'.of_right ho' hr' h0).of_stable hlv h3 ((h5.bare (bare_H hr)).perm (fun _ => Iff.rfl) mem_none)).1 h4
  · intro he q
    subst q
    obtain ⟨hr', _, M, rfl, h3, h4, h5⟩ := h'.ok ho' rfl
    have hr := (RP.bare hn).1 hr'
    obtain ⟨lv, hlv⟩ := hr.2.1
    have h6 : Stable (l ++ fs.map bareC) (fun _ => False) (· ∈ M) := h5.perm (fun _ => Iff.rfl) (fun x => (mem_none x).symm)
    exact he (((h.of_right ho hr h0).of_stable hlv h3 (h6.unbare (bare_H hr))).1 h4).2
theorem ok_pos {c : Cl} (h : c.ok) : 0 ≤ c.h.p ∧ ∀ x ∈ c.b, 0 ≤ x.a.p := ⟨h.1.1.1, fun x hx => (h.2 x hx).1.1⟩
def lowC (c : Cl) : Prop := c.h.p < far ∧ ∀ x ∈ c.b, x.a.p < far
theorem far_ok {c : Cl} (h : c.ok) : ¬ (awC c).h.p < far ∧ ∀ x ∈ (awC c).b, ¬ x.a.p < far := by
  obtain ⟨h1, h2⟩ := ok_pos h
  refine ⟨by show ¬ c.h.p + far < far; omega, fun x hx => ?_⟩
  obtain ⟨m, hm, rfl⟩ := mem_awC.1 hx
  have := h2 m hm
  show ¬ m.a.p + far < far; omega
theorem low_atoms {l : List Cl} {fs : List Fa} (h : ∀ c ∈ l, lowC c) (hf : ∀ f ∈ fs, f.p < far) : ∀ a ∈ atomsL l ++ fs.map lift, a.p < far := fun a ha => by
  rcases List.mem_append.1 ha with q | q
  · obtain ⟨c, hc, q⟩ := mem_atomsL.1 q
    rcases List.mem_cons.1 q with rfl | q
    · exact (h c hc).1
    · obtain ⟨x, hx, rfl⟩ := List.mem_map.1 q; exact (h c hc).2 x hx
  · obtain ⟨f, hf', rfl⟩ := List.mem_map.1 q; exact hf f hf'
theorem pos_atoms {l : List Cl} {fs : List Fa} (h : ∀ c ∈ l, c.ok) (hf : ∀ f ∈ fs, f.ok) : ∀ a ∈ atomsL l ++ fs.map lift, 0 ≤ a.p := fun a ha => by
  rcases List.mem_append.1 ha with q | q
  · obtain ⟨c, hc, q⟩ := mem_atomsL.1 q
    rcases List.mem_cons.1 q with rfl | q
    · exact (ok_pos (h c hc)).1
    · obtain ⟨x, hx, rfl⟩ := List.mem_map.1 q; exact (ok_pos (h c hc)).2 x hx
  · obtain ⟨f, hf', rfl⟩ := List.mem_map.1 q; exact (hf f hf').1.1
theorem lift_aw (f : Fa) : lift (awF f) = awA (lift f) := rfl
theorem RP.apart {l k : List Cl} {fs gs : List Fa} (ho' : ∀ c ∈ k, c.ok) (hg : ∀ f ∈ gs, f.ok) (hl : ∀ c ∈ l, lowC c) (hfl : ∀ f ∈ fs, f.p < far) (hn : l.length + k.length ≤ 400) (h : RP l fs) (h' : RP k gs) : RP (l ++ k.map awC) (fs ++ gs.map awF) := by
  obtain ⟨a1, ⟨lv, a2⟩, a3⟩ := h
  obtain ⟨b1, ⟨lw, b2⟩, b3⟩ := h'
  have hY : ∀ a ∈ (atomsL k ++ gs.map lift).map awA, ¬ a.p < far := fun a ha => by
    obtain ⟨b, hb, rfl⟩ := List.mem_map.1 ha
    have := pos_atoms ho' hg b hb
    show ¬ b.p + far < far; omega
  refine ⟨right_union a1 (right_away.2 b1) (by rw [List.length_map]; exact hn) (fun a ha b hb e => ?_), ?_, fun f hf => ?_, fun a ha b hb e => ?_⟩
  · have h1 := low_atoms hl hfl a (List.mem_append_left _ ha)
    rw [atomsL_aw] at hb
    have h2 := hY b (by rw [List.map_append]; exact List.mem_append_left _ hb)
    omega
  · exact levels_union (P := fun p => p < far) a2 (levels_away b2) (fun c hc => hl c hc) fun c hc => by
      obtain ⟨d, hd, rfl⟩ := List.mem_map.1 hc
      exact far_ok (ho' d hd)
  · rcases List.mem_append.1 hf with q | q
    · exact a3.1 f q
    · obtain ⟨g, hg', rfl⟩ := List.mem_map.1 q; exact b3.1 g hg'
  · have key : ∀ a ∈ atomsL (l ++ k.map awC) ++ (fs ++ gs.map awF).map lift, a ∈ atomsL l ++ fs.map lift ∨ a ∈ (atomsL k ++ gs.map lift).map awA := fun a ha => by
      rcases List.mem_append.1 ha with q | q
      · obtain ⟨c, hc, q⟩ := mem_atomsL.1 q
        rcases List.mem_append.1 hc with w | w
        · exact .inl (List.mem_append_left _ (mem_atomsL.2 ⟨c, w, q⟩))
        · refine .inr (by rw [List.map_append, ← atomsL_aw]; exact List.mem_append_left _ (mem_atomsL.2 ⟨c, w, q⟩))
      · obtain ⟨f, hf, rfl⟩ := List.mem_map.1 q
        rcases List.mem_append.1 hf with w | w
        · exact .inl (List.mem_append_right _ (List.mem_map_of_mem w))
        · obtain ⟨g, hg', rfl⟩ := List.mem_map.1 w
          exact .inr (by rw [lift_aw]; exact List.mem_map_of_mem (List.mem_append_right _ (List.mem_map_of_mem hg')))
    rcases key a ha with p | p <;> rcases key b hb with q | q
    · exact a3.2 a p b q e
    · have := low_atoms hl hfl a p; have := hY b q; omega
    · have := low_atoms hl hfl b q; have := hY a p; omega
    · exact len_aw.2 b3.2 a p b q e
end Go.Proofs.YtpgnmfnckjnecaaGreat.SL
namespace Go.Proofs.YtpgnmfnckjnecaaGreat.SL
open Go Md
set_option maxHeartbeats 4000000 in
theorem lawModelBound (l : List Cl) (LA : Option Addr) (lc : Nat) (gl : ∀ c ∈ l, c.ok) (zl : l.length ≤ 140737488351232) (a : List Fa) (A : Option Addr) (k : Nat) (ga : ∀ x ∈ a, x.ok) (za : a.length ≤ 140737488351232) (less : Int) (hat : 0 ≤ less ∧ less < 256) :
    Spec Tryz.prog 5 #[.slice LA l.length lc, .slice A a.length k, .int .u8 less] [sl tCl LA lc l, sl tFa A k a] [] (fun v Ps' Os' => v = .bool true ∧ Ps' = [] ∧ Os' = []) := by
 refine zSp [.slice LA l.length lc, .slice A a.length k, .int .u8 less] Tryz.func5 Tryz.ntmps5 (fun w0 hp0 hf0 => ?_)
 refine zR 1 ?_
 obtain ⟨t, rfl⟩ : ∃ t : Nat, less = (t : Int) := ⟨less.toNat, by omega⟩
 refine zC3 8 (law14Few l LA lc a A k) ?_
 refine zB 2 ?_ ?_
 ·intro g1
  (try simp only [dcs, ne_eq] at g1)
  refine zC3 2 lawWorks15 ?_
  refine zT 2 rfl ⟨rfl, rfl, rfl⟩
 intro g1
 (try simp only [dcs, ne_eq] at g1)
 refine zR 2 ?_
 have fp := few14_of g1
 have hlen : l.length ≤ 20 ∧ a.length ≤ 30 := ⟨fp.1, fp.2.1⟩
 have hla : ∀ x ∈ a, x.a.length ≤ 30 := (few11_of fp.2.2.1).2.2
 have hbl : ∀ c ∈ l, c.b.length ≤ 1000 := fun c hc => Nat.le_trans ((few11_of fp.2.2.1).2.1 c hc).1 (by omega)
 have hfa : ∀ x ∈ a, x.ok ∧ x.a.length ≤ 100000 := fun x hx => ⟨ga x hx, Nat.le_trans (hla x hx) (by omega)⟩
 have hfl := fof_len a
 refine zC 3 (modelOf l LA lc a A k 60 gl hfa (by omega) (by omega) (fun c hc F R N new h => big14 fp (by omega) N c hc F R new h)) ?_
 rintro _ _ _ ⟨A1, k1, r1, e1, hM1, rfl, rfl, rfl⟩
 refine zE 12 [0, 1, 2, 7, 31] ?_
 refine zN 0 ?_ ?_
 ·intro g3
  refine zC3 2 lawWorks15 ?_
  refine zT 2 rfl ⟨rfl, rfl, rfl⟩
 intro g3
 subst g3
 obtain ⟨hRP, h0m, M, rfl, hMr, hMl, hSt⟩ := hM1.ok gl rfl
 have hMf := hM1.fine gl hfa
 refine go_re 7 (.slice A1 M.length k1) (by rfl) ?_
 refine go_sl (sl tFa A1 k1 ((some M).getD [])) (sl tFa A1 k1 M) zM (fun _ h => h) ?_
 have hml : M.length ≤ 60 := by omega
 refine zC 7 (modelOf l LA lc a A k (M.length : Int) gl hfa (by omega) (by omega) (fun c hc F R N new h => big14 fp (by omega) N c hc F R new h)) ?_
 rintro _ _ _ ⟨A2, k2, r2, e2, hM2, rfl, rfl, rfl⟩
 obtain ⟨rfl, rfl⟩ := (model_bound gl hM1 (by omega) hM2).1 (Int.le_refl _)
 refine zR 11 ?_
 refine go_re 42 (.bool false) (by show some (Value.bool _) = _; simp) ?_
 refine zC3 3 (ref13Same A2 k2 M A1 k1 M) ?_
 refine zR 1 ?_
 refine go_re 47 (.bool false) (by show some (Value.bool _) = _; simp) ?_
 refine zE 2 [0, 1, 2, 7, 48] ?_
 refine zDf 0 ?_
 refine zR 8 ?_
 refine zU (X := Unit) (fun _ => []) [0, 7] (fun _ => []) ([]) (fun _ => True) ?_ ?_
 ·skip
  refine zD' 0 ?_ ?_
  ·intro g5
   refine zR 1 ?_
   refine zz (()) (trivial) (by decide)
  intro g5
  refine zR 7 ?_
  refine go_i64 57 rfl (by omega) (by omega) ?_
  refine zR 2 ?_
  refine go_re 59 (.int .i64 (t : Int)) (by show some (Value.int _ _) = _; rw [wrap_i64 (by omega) (by omega)]) ?_
  refine zR 2 ?_
  refine go_val0 rfl (rem_val rfl rfl rfl (by omega)) rfl ?_
  obtain ⟨q, hq, hql⟩ : ∃ q, t % M.length = q ∧ q < M.length := ⟨_, rfl, Nat.mod_lt _ (by omega)⟩
  refine go_re 62 (.int .i64 (q : Int)) (by rw [← hq]; rfl) ?_
  refine zR 1 ?_
  refine go_i64n 63 (M.length - 1 - q) rfl ?_
  refine zC 0 (modelOf l LA lc a A k ((M.length - 1 - q : Nat) : Int) gl hfa (by omega) (by omega) (fun c hc F R N new h => big14 fp (by omega) N c hc F R new h)) ?_
  rintro _ _ _ ⟨A3, k3, r3, e3, hM3, rfl, rfl, rfl⟩
  obtain ⟨rfl, rfl⟩ := (model_bound gl hM1 (by omega) hM3).2 (by omega)
  refine zE 6 [0, 7, 11, 12] ?_
  refine zR 4 ?_
  refine go_re 68 (.bool false) (by show some (Value.bool _) = _; simp) ?_
  refine zR 4 ?_
  refine go_re 72 (.bool false) (by show some (Value.bool _) = _; simp) ?_
  refine zDf 2 ?_
  refine zR 1 ?_
  refine zz (()) (trivial) (by decide)
 intro _ _
 refine zR 1 ?_
 refine go_len (xs := l) zM (fun ll ml => ?_)
 refine go_own_nil tCl 36 none ?_
 refine zR 9 ?_
 refine zO (X := Nat × Option Addr × Nat) (fun x => [(13, .slice x.2.1 (noN (l.take x.1)).length x.2.2), (14, .int .i64 (x.1 : Int))]) [0, 7] (fun x => [ol tCl 36 x.2.1 x.2.2 (noN (l.take x.1))]) (fun x => x.1 ≤ l.length) (fun x => l.length - x.1) (0, none, 0) (Nat.zero_le _) ?_
 intro ⟨i, A3, c3⟩ hi
 simp only at hi ⊢
 have hsl := noN_take l i
 refine zD' 8 ?_ ?_
 ·intro hq1
  refine zR 2 ?_
  rw [show l.take i = l from List.take_of_length_le (by omega)]
  refine go_freeze_ol (xs := noN l) zM ?_
  have hnl := noN_len l
  refine zC 3 (modelOf (noN l) A3 c3 M A1 k1 60 (fun c hc => gl c (noN_mem hc)) hMf (by omega) (by omega) (fun c hc F R N new h => big14 fp (by omega) N c (noN_mem hc) F R new h)) ?_
  rintro _ _ _ ⟨A4, k4, r4, e4, hM4, rfl, rfl, rfl⟩
  obtain ⟨rfl, rfl⟩ := model_again gl hM1 (fun c hc => noN_mem hc) (by omega) hM4
  refine zE 6 [7, 17, 18] ?_
  refine zR 4 ?_
  refine go_re 118 (.bool true) (by show some (Value.bool _) = _; first | rfl | simp) ?_
  refine zC3 3 (ref13Same A4 k4 M A1 k1 M) ?_
  refine zR 1 ?_
  refine go_re 123 (.bool true) (by show some (Value.bool _) = _; simp) ?_
  refine zC3 1 lawWorks15 ?_
  refine zE 3 [6] ?_
  refine zT 0 rfl ⟨rfl, rfl, rfl⟩
 intro hq1
 refine zR 4 ?_
 refine go_elem_cl (xs := l) zM (i) (List.getElem?_eq_getElem (by omega)) (fun b1 o1 A5 c5 B5 d5 hA => ?_); cases hA
 refine go_len (xs := l[i].b) zM (fun lb mb => ?_)
 refine zR 9 ?_
 refine zO (X := Nat) (fun x => [(15, .bool (nots l[i].b x)), (16, .int .i64 (x : Int))]) [0, 7, 13, 14] (fun _ => []) (fun x => x ≤ l[i].b.length) (fun x => l[i].b.length - x) 0 (Nat.zero_le _) ?_
 intro kk hk
 refine zI 6 ?_
 refine zL 1 ?_
 refine zD' 3 ?_ ?_
 ·intro hq2
  refine zR 2 ?_
  refine go_re 15 (.bool (nots l[i].b l[i].b.length)) (by show some _ = some _; rw [show kk = l[i].b.length by omega]) ?_
  refine zB' 4 ?_ ?_
  ·intro g8
   (try simp only [dcs, ne_eq] at g8)
   refine zR 7 ?_
   refine go_i64n 14 (i + 1) rfl ?_
   rw [noN_no (by omega) g8]
   refine zz (i + 1, A3, c3) (by show i + 1 ≤ _; omega) (by show _ - (i + 1) < _ - i; omega)
  intro g8
  (try simp only [dcs, ne_eq] at g8)
  refine zI 4 ?_
  refine zL 0 ?_
  refine zV 0 ?_
  intro b1
  refine go_append1 (T := tCl) (xs := (noN (l.take i))) Tk (l[i]) rfl rfl rfl rfl rfl rfl rfl rfl rfl zM zM rfl (ent_cl zM zM) (by omega) zH ?_
  intro A4 c4
  refine zE 2 [0, 7, 13, 14] ?_
  refine zR 6 ?_
  refine go_i64n 14 (i + 1) rfl ?_
  rw [noN_yes (by omega) g8]
  refine zz (i + 1, A4, c4) (by show i + 1 ≤ _; omega) (by show _ - (i + 1) < _ - i; omega)
 intro hq2
 refine zR 3 ?_
 refine go_elem_li (xs := l[i].b) zM (kk) (List.getElem?_eq_getElem (by omega)) (fun b2 o2 A6 c6 hA => ?_); cases hA
 refine zG 3 91 ?_ ?_
 ·intro g7
  (try simp only [dcs, ne_eq] at g7)
  refine zR 12 ?_
  refine go_re 15 (.bool (nots l[i].b (kk + 1))) (by show some (Value.bool _) = _; rw [nots_succ (by omega), g7]; simp) ?_
  refine zR 6 ?_
  refine go_i64n 16 (kk + 1) rfl ?_
  refine zz (kk + 1) (by omega) (by omega)
 intro g7
 (try simp only [dcs, ne_eq] at g7)
 refine zI 2 ?_
 refine zL 1 ?_
 refine zI 1 ?_
 refine zL 1 ?_
 refine zR 3 ?_
 refine go_re 15 (.bool (nots l[i].b (kk + 1))) (by show some (Value.bool _) = _; rw [nots_succ (by omega), g7]; simp) ?_
 refine zR 6 ?_
 refine go_i64n 16 (kk + 1) rfl ?_
 refine zz (kk + 1) (by omega) (by omega)
set_option maxHeartbeats 4000000 in
theorem lawModelBare (l : List Cl) (LA : Option Addr) (lc : Nat) (gl : ∀ c ∈ l, c.ok) (zl : l.length ≤ 140737488351232) (a : List Fa) (A : Option Addr) (k : Nat) (ga : ∀ x ∈ a, x.ok) (za : a.length ≤ 140737488351232) :
    Spec Tryz.prog 6 #[.slice LA l.length lc, .slice A a.length k] [sl tCl LA lc l, sl tFa A k a] [] (fun v Ps' Os' => v = .bool true ∧ Ps' = [] ∧ Os' = []) := by
 refine zSp [.slice LA l.length lc, .slice A a.length k] Tryz.func6 Tryz.ntmps6 (fun w0 hp0 hf0 => ?_)
 refine zR 1 ?_
 refine go_len (xs := l) zM (fun ll ml => ?_)
 refine go_len (xs := a) zM (fun la ma => ?_)
 refine zC3 8 (law14Few l LA lc a A k) ?_
 refine zG 2 15 ?_ ?_
 ·intro g1
  (try simp only [dcs, ne_eq] at g1)
  refine zE 10 [0, 1, 24] ?_
  refine zDt 0 ?_
  refine zC3 2 lawWorks15 ?_
  refine zT 2 rfl ⟨rfl, rfl, rfl⟩
 intro g1
 (try simp only [dcs, ne_eq] at g1)
 refine zG 5 20 ?_ ?_
 ·intro g2
  (try simp only [dcs, ne_eq] at g2)
  refine zE 5 [0, 1, 24] ?_
  refine zDt 0 ?_
  refine zC3 2 lawWorks15 ?_
  refine zT 2 rfl ⟨rfl, rfl, rfl⟩
 intro g2
 (try simp only [dcs, ne_eq] at g2)
 refine zE 5 [0, 1, 24] ?_
 refine zB 0 ?_ ?_
 ·intro g3
  (try simp only [dcs, ne_eq] at g3)
  refine zC3 2 lawWorks15 ?_
  refine zT 2 rfl ⟨rfl, rfl, rfl⟩
 intro g3
 (try simp only [dcs, ne_eq] at g3)
 refine zR 2 ?_
 have fp := few14_of g1
 have hlen : l.length ≤ 20 ∧ a.length ≤ 30 := ⟨fp.1, fp.2.1⟩
 have hla : ∀ x ∈ a, x.a.length ≤ 30 := (few11_of fp.2.2.1).2.2
 have hbl : ∀ c ∈ l, c.b.length ≤ 1000 := fun c hc => Nat.le_trans ((few11_of fp.2.2.1).2.1 c hc).1 (by omega)
 have hfa : ∀ x ∈ a, x.ok ∧ x.a.length ≤ 100000 := fun x hx => ⟨ga x hx, Nat.le_trans (hla x hx) (by omega)⟩
 have hfl := fof_len a
 refine zV 1 ?_
 intro bz
 refine go_lit_ol (b := bz) tCl [] zM (fun _ _ => rfl) (by simp) ?_
 refine zR 1 ?_
 refine go_appendN (T := tCl) (xs := []) (ys := l) Tk rfl rfl rfl rfl rfl rfl rfl rfl rfl zM rfl zM (by simp only [List.length_nil]; omega) zH ?_
 intro B1 j1
 rw [List.nil_append]
 refine zR 4 ?_
 have hb0 : l = (l ++ (a.take (0)).map bareC) := by simp
 refine go_same (A := ol tCl 36 B1 j1 l) (B := ol tCl 36 B1 j1 (l ++ (a.take (0)).map bareC)) zM (by rw [← hb0]) ?_
 refine go_re 5 (.slice B1 (l ++ (a.take (0)).map bareC).length j1) (by show some _ = some _; rw [← hb0]) ?_
 refine zR 4 ?_
 refine zO (X := Nat × Option Addr × Nat) (fun x => [(5, .slice x.2.1 (l ++ (a.take (x.1)).map bareC).length x.2.2), (6, .int .i64 (x.1 : Int))]) [0, 1] (fun x => [ol tCl 36 x.2.1 x.2.2 (l ++ (a.take (x.1)).map bareC)]) (fun x => x.1 ≤ a.length) (fun x => a.length - x.1) (0, B1, j1) (Nat.zero_le _) ?_
 intro ⟨i, A3, c3⟩ hi
 simp only at hi ⊢
 refine zD 8 ?_ ?_
 ·intro hq1
  refine zR 3 ?_
  refine go_elem_fa (xs := a) zM (i) (List.getElem?_eq_getElem (by omega)) (fun b1 o1 A5 c5 hA => ?_); cases hA
  refine zI 4 ?_
  refine zL 0 ?_
  refine zC 0 (refLift a[i] A5 c5 (hfa _ (List.getElem_mem _)).2) ?_
  rintro _ _ _ ⟨B3, d3, rfl, rfl, rfl⟩
  refine go_sl_nil tLi ?_
  refine zq 0 ?_
  refine zV 0 ?_
  intro b1
  refine go_append1 (T := tCl) (xs := (l ++ (a.take (i)).map bareC)) Tk (bareC a[i]) rfl rfl rfl rfl rfl rfl rfl rfl rfl zM zM rfl (ent_cl (x := bareC a[i]) zM zM) (by rw [List.length_append, List.length_map, List.length_take]; omega) zH ?_
  intro A4 c4
  refine zE 2 [0, 1, 5, 6] ?_
  refine zR 6 ?_
  refine go_i64n 6 (i + 1) rfl ?_
  rw [show (l ++ (a.take (i)).map bareC) ++ [bareC a[i]] = (l ++ (a.take (i + 1)).map bareC) by rw [List.take_succ_eq_append_getElem (show i < a.length by omega), List.map_append, List.append_assoc]; rfl]
  refine zz (i + 1, A4, c4) (by show i + 1 ≤ _; omega) (by show _ - (i + 1) < _ - i; omega)
 intro hq1
 refine zC 5 (modelOf l LA lc a A k 60 gl hfa (by first | omega | exact Nat.zero_le _) (by omega) (fun c hc F R N new h => big14 fp (by omega) N c hc F R new h)) ?_
 rintro _ _ _ ⟨A1, k1, r1, e1, hM1, rfl, rfl, rfl⟩
 refine zE 6 [5, 7, 8] ?_
 refine zR 1 ?_
 rw [show a.take i = a from List.take_of_length_le (by omega)]
 refine go_freeze_ol (xs := l ++ a.map bareC) zM ?_
 refine go_sl_nil tFa ?_
 refine zC 2 (modelOf (l ++ a.map bareC) A3 c3 [] none 0 60 (bare_oks gl ga) (fun x hx => absurd hx List.not_mem_nil) (by first | omega | exact Nat.zero_le _) (by omega) (big_bare fun c hc F R N new h => big14 fp (by omega) N c hc F R new h)) ?_
 rintro _ _ _ ⟨A2, k2, r2, e2, hM2, rfl, rfl, rfl⟩
 have hB := model_bare gl ga (by omega) (by omega) hM1 hM2
 refine zD' 12 ?_ ?_
 ·intro g4
  refine zR 5 ?_
  refine go_re 68 (.bool true) (by show some (Value.bool _) = _; rw [decide_eq_false (hB.2 g4)]; rfl) ?_
  refine zC3 1 lawWorks15 ?_
  refine zE 3 [4] ?_
  refine zT 0 rfl ⟨rfl, rfl, rfl⟩
 intro g4
 subst g4
 obtain ⟨rfl, rfl⟩ := hB.1 rfl
 refine zR 4 ?_
 refine go_re 58 (.bool true) (by show some (Value.bool _) = _; first | rfl | simp) ?_
 refine zC3 3 (ref13Same A1 k1 (r2.getD []) A2 k2 (r2.getD [])) ?_
 refine zR 1 ?_
 refine go_re 63 (.bool true) (by show some (Value.bool _) = _; simp) ?_
 refine zC3 1 lawWorks15 ?_
 refine zE 3 [4] ?_
 refine zT 0 rfl ⟨rfl, rfl, rfl⟩
end Go.Proofs.YtpgnmfnckjnecaaGreat.SL

