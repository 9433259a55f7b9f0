/- Engine, data and contracts: parts of the proof of ImpactDiff, put together (Sorta Sortb Sortb2 Sortc SH Grapha DL DM DS Graphb DT Graphc SI). -/
import Derived.Test.YtdconhalfanclaaGreatMImpactDiffB
import Derived.Test.YtdconhalfanclaaGreatMImpactDiffA
import Derived.Laws.MakeOwn
import Init
set_option linter.unusedVariables false
set_option linter.unusedSimpArgs false
set_option maxHeartbeats 2000000
set_option maxRecDepth 20000
namespace Go.Proofs.YtdconhalfanclaaGreat.SL
open Go
def sw (xs : List Int) (i j : Nat) : List Int := (xs.set i (gt0 xs j)).set j (gt0 xs i)
theorem sw_perm {xs l : List Int} (h : xs.Perm l) {i j : Nat} (hi : i < xs.length) (hj : j < xs.length) : (sw xs i j).Perm l := by
  have e : ∀ {k : Nat} (h : k < xs.length), gt0 xs k = xs[k] := fun h => by rw [gt0, List.getElem?_eq_getElem h]; rfl
  rw [sw, e hi, e hj]; exact (List.set_set_perm hi hj).trans h
section
variable {C : Ctx} {k : List It} {E : Env} {Ps : List PA} {Os : List OA} {o : Oper}
theorem go_i64n (d m : Nat) {n : Int} (h : look E d = some (.int .i64 (IntKind.i64.wrap n))) (g : Go C k ((d, .int .i64 (m : Int)) :: E) Ps Os) (h1 : n = (m : Int) ∧ (m : Int) ≤ 9223372036854775807 := by omega) : Go C k E Ps Os :=
  go_re d _ (by rw [h, wrap_i64 (by omega) (by omega), h1.1]) g
end
theorem and_le (a b : Int) (h0 : 0 ≤ b) (h1 : b < 18446744073709551616) : 0 ≤ IntKind.u64.wrap ((BitVec.ofInt 64 a &&& BitVec.ofInt 64 b).toNat : Int) ∧ IntKind.u64.wrap ((BitVec.ofInt 64 a &&& BitVec.ofInt 64 b).toNat : Int) ≤ b := by
  have h2 : (BitVec.ofInt 64 a &&& BitVec.ofInt 64 b).toNat ≤ (BitVec.ofInt 64 b).toNat := by rw [BitVec.toNat_and]; exact Nat.and_le_right
  have h3 : (BitVec.ofInt 64 b).toNat = b.toNat := by rw [BitVec.toNat_ofInt]; omega
  rw [wrap_u64 (by omega)]
  omega
theorem isortUf (A : Option Addr) (c : Nat) (l : List Int) (n : Nat) (hl : l.length = n) (a b : Nat) (hb : b ≤ n) (hn : n ≤ 1000000000) (ha : a ≤ b) :
    Spec Tryz.prog 166 #[.slice A n c, .int .i64 (a : Int), .int .i64 (b : Int)] [] [ol (tInt .u32) 26 A c l] (fun v Ps' Os' => ∃ m, m.Perm l ∧ v = .tuple #[] ∧ Ps' = [] ∧ Os' = [ol (tInt .u32) 26 A c m]) := by
 refine zSp _ Tryz.func166 Tryz.ntmps166 (fun _ _ _ => ?_)
 refine zR 1 ?_
 skip
 refine zR 3 ?_
 refine go_i64n 9 (a + 1) rfl ?_
 refine zE 2 [0, 1, 2, 6] ?_
 refine zR 1 ?_
 refine zO (X := Nat × List Int) (fun x => [(6, .int .i64 (x.1 : Int))]) [0, 1, 2] (fun x => [ol (tInt .u32) 26 A c x.2]) (fun x => a + 1 ≤ x.1 ∧ (x.1 ≤ b ∨ x.1 = a + 1) ∧ x.2.Perm l) (fun x => b - x.1) (a + 1, l) ⟨by omega, by omega, .refl _⟩ ?_
 intro ⟨i, xs⟩ ⟨hi, hib, hp⟩
 simp only at hi hib hp ⊢
 have hxl := hp.length_eq
 refine zE 7 [0, 1, 2, 6, 12] ?_
 refine zD' 0 ?_ ?_
 ·intro hq1
  refine zT 1 rfl ⟨xs, hp, rfl, rfl, rfl⟩
 intro hq1
 refine zR 4 ?_
 refine go_ol_addr (xs := xs) zM (by omega) (fun bL hL => ?_); subst hL
 refine zE 4 [0, 1, 2, 6, 7] ?_
 refine zR 1 ?_
 refine zO (X := Nat × List Int) (fun x => [(7, .int .i64 (x.1 : Int))]) [0, 1, 2, 6] (fun x => [ol (tInt .u32) 26 (some ⟨bL, 0, none⟩) c x.2]) (fun x => x.1 ≤ i ∧ x.2.Perm l) (fun x => x.1) (i, xs) ⟨Nat.le_refl _, hp⟩ ?_
 intro ⟨j, ys⟩ ⟨hj, hq⟩
 simp only at hj hq ⊢
 have hyl := hq.length_eq
 refine zY 2 [1, 4, 7, 10, 13, 16, 19, 25, 28, 31, 34, 23, 38, 39, 43] ?_
 refine zG' 4 19 ?_ ?_
 ·intro g1
  (try simp only [dcs, ne_eq] at g1)
  refine zJ 7 ?_
  refine zJ 0 ?_
  refine zE 3 [0, 1, 2, 6, 7, 20, 21, 22, 23, 24, 25, 26, 27, 28, 29, 30] ?_
  refine zDf 0 ?_
  refine zR 7 ?_
  refine zi 6 ?_
  refine zz (i + 1, ys) ⟨by show a + 1 ≤ i + 1; omega, by show i + 1 ≤ b ∨ _; omega, hq⟩ (by show b - (i + 1) < b - i; omega)
 intro g1
 (try simp only [dcs, ne_eq] at g1)
 refine zIn 2 j ?_
 refine zR 3 ?_
 refine go_i64n 26 (j - 1) rfl ?_
 refine zIn 0 (j - 1) ?_
 refine zLm 0 j ys ?_
 refine zLm 0 (j - 1) ys ?_
 refine zC3 0 (lessU _ _) ?_
 refine zE 2 [0, 1, 2, 6, 7, 20, 21, 22, 23, 24, 25, 26, 27, 28, 29, 30] ?_
 refine zB' 0 ?_ ?_
 ·intro g2
  (try simp only [dcs, ne_eq] at g2)
  refine zR 7 ?_
  refine zi 6 ?_
  refine zz (i + 1, ys) ⟨by show a + 1 ≤ i + 1; omega, by show i + 1 ≤ b ∨ _; omega, hq⟩ (by show b - (i + 1) < b - i; omega)
 intro g2
 (try simp only [dcs, ne_eq] at g2)
 refine zY 3 [1, 4, 7, 10, 13, 16, 19, 22, 25, 31, 34, 37, 29, 41, 43, 45, 49, 51] ?_
 refine zR 5 ?_
 refine go_i64n 37 (j - 1) rfl ?_
 refine zR 3 ?_
 refine go_i64n 40 (j - 1) rfl ?_
 refine zIn 0 (j - 1) ?_
 refine zIn 2 j ?_
 refine zLm 0 (j - 1) ys ?_
 refine zLm 0 j ys ?_
 refine zIn 0 j ?_
 refine zSE 0 (tInt .u32) ys j (gt0 ys (j - 1)) ent_int ?_
 refine zIn 0 (j - 1) ?_
 refine zSE 0 (tInt .u32) (ys.set j (gt0 ys (j - 1))) (j - 1) (gt0 ys j) ent_int ?_
 refine zE 1 [0, 1, 2, 6, 7, 20, 21, 22, 23, 24, 25, 26, 27, 28, 29] ?_
 refine zR 4 ?_
 refine go_i64n 32 (j - 1) rfl ?_
 refine zR 2 ?_
 refine zz (j - 1, sw ys j (j - 1)) ⟨by show j - 1 ≤ i; omega, (sw_perm hq (by omega) (by omega))⟩ (by show j - 1 < j; omega)
theorem siftU (bL : Nat) (c : Nat) (l : List Int) (n : Nat) (hl : l.length = n) (lo hi first : Nat) (hlo : lo ≤ 1000000000) (hh : first + hi ≤ n) (hn : n ≤ 1000000000) :
    Spec Tryz.prog 188 #[.slice (some ⟨bL, 0, none⟩) n c, .int .i64 (lo : Int), .int .i64 (hi : Int), .int .i64 (first : Int)] [] [ol (tInt .u32) 26 (some ⟨bL, 0, none⟩) c l] (fun v Ps' Os' => ∃ m, m.Perm l ∧ v = .tuple #[] ∧ Ps' = [] ∧ Os' = [ol (tInt .u32) 26 (some ⟨bL, 0, none⟩) c m]) := by
 refine zSp _ Tryz.func188 Tryz.ntmps188 (fun _ _ _ => ?_)
 refine zE 5 [0, 2, 3, 8] ?_
 refine zR 1 ?_
 refine zO (X := Nat × List Int) (fun x => [(8, .int .i64 (x.1 : Int))]) [0, 2, 3] (fun x => [ol (tInt .u32) 26 (some ⟨bL, 0, none⟩) c x.2]) (fun x => x.1 ≤ 1000000000 ∧ x.2.Perm l) (fun x => hi - x.1) (lo, l) ⟨hlo, .refl _⟩ ?_
 intro ⟨root, xs⟩ ⟨hr, hp⟩
 simp only at hr hp ⊢
 have hxl := hp.length_eq
 refine zR 5 ?_
 refine go_i64n 12 (2 * root) rfl ?_
 refine zR 1 ?_
 refine go_i64n 13 ((2 * root) + 1) rfl ?_
 refine zE 2 [0, 2, 3, 8, 9] ?_
 refine zE 7 [0, 2, 3, 8, 9, 16] ?_
 refine zD 0 ?_ ?_
 ·intro g0
  refine zT 1 rfl ⟨xs, hp, rfl, rfl, rfl⟩
 intro g0
 refine zY 3 [1, 4, 7, 10, 13, 16, 19, 22, 25, 28, 34, 37, 40, 43, 46, 49, 32, 53, 54, 58] ?_
 refine zR 2 ?_
 refine go_i64n 18 ((2 * root + 1) + 1) rfl ?_
 refine zG' 3 21 ?_ ?_
 ·intro g1
  (try simp only [dcs, ne_eq] at g1)
  obtain ⟨ch, hce⟩ : ∃ ch, ch = 2 * root + 1 := ⟨_, rfl⟩
  refine go_re 9 (.int .i64 (ch : Int)) (by rw [hce]; rfl) ?_
  have hc1 : root < ch := by omega
  have hc2 : ch < hi := by omega
  refine zJ 11 ?_
  refine zJ 0 ?_
  refine zE 3 [0, 2, 3, 8, 9, 22, 23, 24, 25, 26, 27, 28, 29, 30, 31, 32, 33, 34, 35, 36] ?_
  refine zDf 0 ?_
  refine zY 3 [1, 4, 7, 10, 13, 19, 22, 25, 28, 31, 17, 35, 36, 40] ?_
  refine zR 4 ?_
  refine go_i64n 42 (first + root) rfl ?_
  refine zIn 0 (first + root) ?_
  refine zR 4 ?_
  refine go_i64n 48 (first + ch) rfl ?_
  refine zIn 0 (first + ch) ?_
  refine zLm 0 (first + root) xs ?_
  refine zLm 0 (first + ch) xs ?_
  refine zC3 0 (lessU _ _) ?_
  refine zE 2 [0, 2, 3, 8, 9, 22, 23, 24, 25, 26, 27, 28, 29, 30, 31, 32, 33, 34, 35, 52] ?_
  refine zB 0 ?_ ?_
  ·intro g3
   (try simp only [dcs, ne_eq] at g3)
   refine zT 0 rfl ⟨xs, hp, rfl, rfl, rfl⟩
  intro g3
  (try simp only [dcs, ne_eq] at g3)
  refine zY 2 [1, 4, 7, 10, 13, 16, 19, 22, 25, 28, 31, 34, 37, 43, 46, 49, 52, 55, 41, 59, 61, 63, 67, 69] ?_
  refine zR 4 ?_
  refine go_i64n 56 (first + root) rfl ?_
  refine zR 4 ?_
  refine go_i64n 60 (first + ch) rfl ?_
  refine zR 4 ?_
  refine go_i64n 64 (first + ch) rfl ?_
  refine zIn 0 (first + ch) ?_
  refine zR 4 ?_
  refine go_i64n 70 (first + root) rfl ?_
  refine zIn 0 (first + root) ?_
  refine zLm 0 (first + ch) xs ?_
  refine zLm 0 (first + root) xs ?_
  refine zIn 0 (first + root) ?_
  refine zSE 0 (tInt .u32) xs (first + root) (gt0 xs (first + ch)) ent_int ?_
  refine zIn 0 (first + ch) ?_
  refine zSE 0 (tInt .u32) (xs.set (first + root) (gt0 xs (first + ch))) (first + ch) (gt0 xs (first + root)) ent_int ?_
  refine zE 1 [0, 2, 3, 9, 22, 23, 24, 25, 26, 27, 28, 29, 30, 31, 32, 33, 34, 35] ?_
  refine zE 4 [0, 2, 3, 8, 22, 23, 24, 25, 26, 27, 28, 29, 30, 31, 32, 33, 34, 35] ?_
  refine zR 1 ?_
  refine zz (ch, sw xs (first + root) (first + ch)) ⟨by show ch ≤ _; omega, (sw_perm hp (by omega) (by omega))⟩ (by show hi - ch < hi - root; omega)
 intro g1
 (try simp only [dcs, ne_eq] at g1)
 refine zR 4 ?_
 refine go_i64n 25 (first + (2 * root + 1)) rfl ?_
 refine zIn 0 (first + (2 * root + 1)) ?_
 refine zR 4 ?_
 refine go_i64n 31 (first + (2 * root + 1)) rfl ?_
 refine zR 1 ?_
 refine go_i64n 32 ((first + (2 * root + 1)) + 1) rfl ?_
 refine zIn 0 ((first + (2 * root + 1)) + 1) ?_
 refine zLm 0 (first + (2 * root + 1)) xs ?_
 refine zLm 0 ((first + (2 * root + 1)) + 1) xs ?_
 refine zC3 0 (lessU _ _) ?_
 refine zE 2 [0, 2, 3, 8, 9, 22, 23, 24, 25, 26, 27, 28, 29, 30, 31, 32, 33, 34, 35, 36] ?_
 refine zU (X := Nat) (fun x => [(9, .int .i64 (x : Int))]) [0, 2, 3, 8, 22, 23, 24, 25, 26, 27, 28, 29, 30, 31, 32, 33, 34, 35] (fun _ => []) ([]) (fun x => root < x ∧ x < hi) ?_ ?_
 ·skip
  refine zB' 0 ?_ ?_
  ·intro hq1
   (try simp only [dcs, ne_eq] at hq1)
   refine zR 1 ?_
   refine zz (2 * root + 1) ⟨by omega, by omega⟩ (by decide)
  intro hq1
  (try simp only [dcs, ne_eq] at hq1)
  refine zR 3 ?_
  refine go_i64n 38 ((2 * root + 1) + 1) rfl ?_
  refine zR 2 ?_
  refine zz (2 * root + 1 + 1) ⟨by omega, by omega⟩ (by decide)
 intro ch ⟨hc1, hc2⟩
 refine zY 2 [1, 4, 7, 10, 13, 19, 22, 25, 28, 31, 17, 35, 36, 40] ?_
 refine zR 4 ?_
 refine go_i64n 42 (first + root) rfl ?_
 refine zIn 0 (first + root) ?_
 refine zR 4 ?_
 refine go_i64n 48 (first + ch) rfl ?_
 refine zIn 0 (first + ch) ?_
 refine zLm 0 (first + root) xs ?_
 refine zLm 0 (first + ch) xs ?_
 refine zC3 0 (lessU _ _) ?_
 refine zE 2 [0, 2, 3, 8, 9, 22, 23, 24, 25, 26, 27, 28, 29, 30, 31, 32, 33, 34, 35, 52] ?_
 refine zB 0 ?_ ?_
 ·intro g3
  (try simp only [dcs, ne_eq] at g3)
  refine zT 0 rfl ⟨xs, hp, rfl, rfl, rfl⟩
 intro g3
 (try simp only [dcs, ne_eq] at g3)
 refine zY 2 [1, 4, 7, 10, 13, 16, 19, 22, 25, 28, 31, 34, 37, 43, 46, 49, 52, 55, 41, 59, 61, 63, 67, 69] ?_
 refine zR 4 ?_
 refine go_i64n 56 (first + root) rfl ?_
 refine zR 4 ?_
 refine go_i64n 60 (first + ch) rfl ?_
 refine zR 4 ?_
 refine go_i64n 64 (first + ch) rfl ?_
 refine zIn 0 (first + ch) ?_
 refine zR 4 ?_
 refine go_i64n 70 (first + root) rfl ?_
 refine zIn 0 (first + root) ?_
 refine zLm 0 (first + ch) xs ?_
 refine zLm 0 (first + root) xs ?_
 refine zIn 0 (first + root) ?_
 refine zSE 0 (tInt .u32) xs (first + root) (gt0 xs (first + ch)) ent_int ?_
 refine zIn 0 (first + ch) ?_
 refine zSE 0 (tInt .u32) (xs.set (first + root) (gt0 xs (first + ch))) (first + ch) (gt0 xs (first + root)) ent_int ?_
 refine zE 1 [0, 2, 3, 9, 22, 23, 24, 25, 26, 27, 28, 29, 30, 31, 32, 33, 34, 35] ?_
 refine zE 4 [0, 2, 3, 8, 22, 23, 24, 25, 26, 27, 28, 29, 30, 31, 32, 33, 34, 35] ?_
 refine zR 1 ?_
 refine zz (ch, sw xs (first + root) (first + ch)) ⟨by show ch ≤ _; omega, (sw_perm hp (by omega) (by omega))⟩ (by show hi - ch < hi - root; omega)
theorem heapU (bL : Nat) (c : Nat) (l : List Int) (n : Nat) (hl : l.length = n) (a b : Nat) (hab : a < b) (hb : b ≤ n) (hn : n ≤ 1000000000) :
    Spec Tryz.prog 167 #[.slice (some ⟨bL, 0, none⟩) n c, .int .i64 (a : Int), .int .i64 (b : Int)] [] [ol (tInt .u32) 26 (some ⟨bL, 0, none⟩) c l] (fun v Ps' Os' => ∃ m, m.Perm l ∧ v = .tuple #[] ∧ Ps' = [] ∧ Os' = [ol (tInt .u32) 26 (some ⟨bL, 0, none⟩) c m]) := by
 refine zSp _ Tryz.func167 Tryz.ntmps167 (fun _ _ _ => ?_)
 refine zE 5 [0, 1, 2, 6] ?_
 refine zR 9 ?_
 refine go_i64n 14 (b - a) rfl ?_
 refine zE 2 [0, 6, 7, 8] ?_
 refine zR 5 ?_
 refine go_i64n 16 ((b - a) - 1) rfl ?_
 refine zR 1 ?_
 refine go_re 17 (.int .i64 (IntKind.i64.wrap (((((b - a) - 1) / 2) : Nat) : Int))) rfl ?_
 refine go_i64n 17 (((b - a) - 1) / 2) rfl ?_
 refine zR 1 ?_
 refine go_re 9 (.int .i64 ((((b - a - 1) / 2 + 1 : Nat) : Int) - 1)) (by show some (Value.int _ _) = _; exact congrArg (fun z : Int => some (Value.int IntKind.i64 z)) (by omega)) ?_
 refine zE 1 [0, 6, 7, 8, 9] ?_
 refine zR 1 ?_
 refine zO (X := Nat × List Int) (fun x => [(9, .int .i64 ((x.1 : Int) - 1))]) [0, 6, 7, 8] (fun x => [ol (tInt .u32) 26 (some ⟨bL, 0, none⟩) c x.2]) (fun x => x.1 ≤ 1000000000 ∧ x.2.Perm l) (fun x => x.1) ((b - a - 1) / 2 + 1, l) ⟨by show _ / 2 + 1 ≤ _; omega, .refl _⟩ ?_
 intro ⟨k1, xs⟩ ⟨hk, hp⟩
 simp only at hk hp ⊢
 have hxl := hp.length_eq
 refine zE 6 [0, 6, 7, 8, 9, 19] ?_
 refine zD 0 ?_ ?_
 ·intro g1
  obtain ⟨k, rfl⟩ : ∃ k, k1 = k + 1 := ⟨k1 - 1, by omega⟩
  refine go_re 9 (.int .i64 (k : Int)) (by show some (Value.int _ _) = _; exact congrArg (fun z : Int => some (Value.int IntKind.i64 z)) (by omega)) ?_
  refine zC 8 (siftU bL c xs n (by omega) k (b - a) a (by omega) (by omega) (by omega)) ?_
  rintro _ _ _ ⟨m, hm, rfl, rfl, rfl⟩
  refine zE 1 [0, 6, 7, 8, 9] ?_
  refine zR 6 ?_
  refine zi 9 ?_
  refine zz (k, m) ⟨by show k ≤ _; omega, hm.trans hp⟩ (by show k < k + 1; omega)
 intro g1
 refine zR 2 ?_
 skip
 refine zR 3 ?_
 refine zi 28 ?_
 refine go_re 28 (.int .i64 (((b - a : Nat) : Int) - 1)) (by show some (Value.int _ _) = _; exact congrArg (fun z : Int => some (Value.int IntKind.i64 z)) (by omega)) ?_
 refine zE 2 [0, 6, 7, 10] ?_
 refine zR 1 ?_
 refine zO (X := Nat × List Int) (fun x => [(10, .int .i64 ((x.1 : Int) - 1))]) [0, 6, 7] (fun x => [ol (tInt .u32) 26 (some ⟨bL, 0, none⟩) c x.2]) (fun x => x.1 ≤ b - a ∧ x.2.Perm l) (fun x => x.1) (b - a, xs) ⟨Nat.le_refl _, hp⟩ ?_
 intro ⟨k1, ys⟩ ⟨hk', hq⟩
 simp only at hk' hq ⊢
 have hyl := hq.length_eq
 refine zE 6 [0, 6, 7, 10, 30] ?_
 refine zD' 0 ?_ ?_
 ·intro g2
  refine zT 1 rfl ⟨ys, hq, rfl, rfl, rfl⟩
 intro g2
 obtain ⟨k, rfl⟩ : ∃ k, k1 = k + 1 := ⟨k1 - 1, by omega⟩
 refine go_re 10 (.int .i64 (k : Int)) (by show some (Value.int _ _) = _; exact congrArg (fun z : Int => some (Value.int IntKind.i64 z)) (by omega)) ?_
 refine zY 4 [1, 4, 7, 10, 13, 16, 19, 22, 25, 28, 31, 37, 40, 43, 35, 47, 49, 51, 55, 57] ?_
 refine zR 6 ?_
 refine go_i64n 38 (a + k) rfl ?_
 refine zR 4 ?_
 refine go_i64n 42 (a + k) rfl ?_
 refine zIn 0 (a + k) ?_
 refine zIn 2 a ?_
 refine zLm 0 (a + k) ys ?_
 refine zLm 0 a ys ?_
 refine zIn 0 a ?_
 refine zSE 0 (tInt .u32) ys a (gt0 ys (a + k)) ent_int ?_
 refine zIn 0 (a + k) ?_
 refine zSE 0 (tInt .u32) (ys.set a (gt0 ys (a + k))) (a + k) (gt0 ys a) ent_int ?_
 refine zE 1 [0, 6, 7, 10] ?_
 obtain ⟨zs, hzs⟩ : ∃ zs, zs = sw ys a (a + k) := ⟨_, rfl⟩
 refine go_same (B := ol (tInt .u32) 26 (some ⟨bL, 0, none⟩) c zs) .here (by rw [hzs]; rfl) ?_
 have hz : zs.Perm l := by rw [hzs]; exact (sw_perm hq (by omega) (by omega))
 have hzl := hz.length_eq
 refine zC 5 (siftU bL c zs n (by omega) 0 k a (by omega) (by omega) (by omega)) ?_
 rintro _ _ _ ⟨m, hm, rfl, rfl, rfl⟩
 refine zE 1 [0, 6, 7, 10] ?_
 refine zR 6 ?_
 refine zi 10 ?_
 refine zz (k, m) ⟨by show k ≤ _; omega, hm.trans hz⟩ (by show k < k + 1; omega)
theorem revU (bL : Nat) (c : Nat) (l : List Int) (n : Nat) (hl : l.length = n) (a b : Nat) (hab : a < b) (hb : b ≤ n) (hn : n ≤ 1000000000) :
    Spec Tryz.prog 170 #[.slice (some ⟨bL, 0, none⟩) n c, .int .i64 (a : Int), .int .i64 (b : Int)] [] [ol (tInt .u32) 26 (some ⟨bL, 0, none⟩) c l] (fun v Ps' Os' => ∃ m, m.Perm l ∧ v = .tuple #[] ∧ Ps' = [] ∧ Os' = [ol (tInt .u32) 26 (some ⟨bL, 0, none⟩) c m]) := by
 refine zSp _ Tryz.func170 Tryz.ntmps170 (fun _ _ _ => ?_)
 refine zE 5 [0, 2, 6] ?_
 refine zR 4 ?_
 refine go_i64n 10 (b - 1) rfl ?_
 refine zE 2 [0, 6, 7] ?_
 refine zR 1 ?_
 refine zO (X := Nat × Nat × List Int) (fun x => [(6, .int .i64 (x.1 : Int)), (7, .int .i64 (x.2.1 : Int))]) [0] (fun x => [ol (tInt .u32) 26 (some ⟨bL, 0, none⟩) c x.2.2]) (fun x => x.1 ≤ b ∧ x.2.1 < b ∧ x.2.2.Perm l) (fun x => x.2.1 - x.1) (a, b - 1, l) ⟨by show a ≤ b; omega, by show b - 1 < b; omega, .refl _⟩ ?_
 intro ⟨i, j, xs⟩ ⟨hi, hj, hp⟩
 simp only at hi hj hp ⊢
 have hxl := hp.length_eq
 refine zE 7 [0, 6, 7, 13] ?_
 refine zD' 0 ?_ ?_
 ·intro g1
  refine zT 1 rfl ⟨xs, hp, rfl, rfl, rfl⟩
 intro g1
 refine zY 3 [1, 4, 7, 10, 13, 16, 19, 25, 28, 31, 23, 35, 37, 39, 43, 45] ?_
 refine zIn 6 j ?_
 refine zIn 2 i ?_
 refine zLm 0 j xs ?_
 refine zLm 0 i xs ?_
 refine zIn 0 i ?_
 refine zSE 0 (tInt .u32) xs i (gt0 xs j) ent_int ?_
 refine zIn 0 j ?_
 refine zSE 0 (tInt .u32) (xs.set i (gt0 xs j)) j (gt0 xs i) ent_int ?_
 refine zE 1 [0, 6, 7] ?_
 refine zR 4 ?_
 refine go_i64n 29 (i + 1) rfl ?_
 refine zE 2 [0, 6, 7] ?_
 refine zR 3 ?_
 refine go_i64n 31 (j - 1) rfl ?_
 refine zE 2 [0, 6, 7] ?_
 refine zR 1 ?_
 refine zz (i + 1, j - 1, sw xs i j) ⟨by show i + 1 ≤ b; omega, by show j - 1 < b; omega, (sw_perm hp (by omega) (by omega))⟩ (by show j - 1 - (i + 1) < j - i; omega)
theorem lessI (x y : Int) :
    Spec Tryz.prog 208 #[.int .i64 x, .int .i64 y] [] [] (fun v Ps' Os' => v = .bool (decide (x < y)) ∧ Ps' = [] ∧ Os' = []) := by
 refine zSp _ Tryz.func208 Tryz.ntmps208 (fun _ _ _ => ?_)
 refine zE 4 [0, 1] ?_
 refine zC3 3 (isNaN_i64 _) ?_
 refine zE 12 [4] ?_
 refine zT 0 rfl ⟨rfl, rfl, rfl⟩
theorem isortIf (A : Option Addr) (c : Nat) (l : List Int) (n : Nat) (hl : l.length = n) (a b : Nat) (hb : b ≤ n) (hn : n ≤ 1000000000) (ha : a ≤ b) :
    Spec Tryz.prog 202 #[.slice A n c, .int .i64 (a : Int), .int .i64 (b : Int)] [] [ol (tInt .i64) 3 A c l] (fun v Ps' Os' => ∃ m, m.Perm l ∧ v = .tuple #[] ∧ Ps' = [] ∧ Os' = [ol (tInt .i64) 3 A c m]) := by
 refine zSp _ Tryz.func202 Tryz.ntmps202 (fun _ _ _ => ?_)
 refine zR 1 ?_
 skip
 refine zR 3 ?_
 refine go_i64n 9 (a + 1) rfl ?_
 refine zE 2 [0, 1, 2, 6] ?_
 refine zR 1 ?_
 refine zO (X := Nat × List Int) (fun x => [(6, .int .i64 (x.1 : Int))]) [0, 1, 2] (fun x => [ol (tInt .i64) 3 A c x.2]) (fun x => a + 1 ≤ x.1 ∧ (x.1 ≤ b ∨ x.1 = a + 1) ∧ x.2.Perm l) (fun x => b - x.1) (a + 1, l) ⟨by omega, by omega, .refl _⟩ ?_
 intro ⟨i, xs⟩ ⟨hi, hib, hp⟩
 simp only at hi hib hp ⊢
 have hxl := hp.length_eq
 refine zE 7 [0, 1, 2, 6, 12] ?_
 refine zD' 0 ?_ ?_
 ·intro hq1
  refine zT 1 rfl ⟨xs, hp, rfl, rfl, rfl⟩
 intro hq1
 refine zR 4 ?_
 refine go_ol_addr (xs := xs) zM (by omega) (fun bL hL => ?_); subst hL
 refine zE 4 [0, 1, 2, 6, 7] ?_
 refine zR 1 ?_
 refine zO (X := Nat × List Int) (fun x => [(7, .int .i64 (x.1 : Int))]) [0, 1, 2, 6] (fun x => [ol (tInt .i64) 3 (some ⟨bL, 0, none⟩) c x.2]) (fun x => x.1 ≤ i ∧ x.2.Perm l) (fun x => x.1) (i, xs) ⟨Nat.le_refl _, hp⟩ ?_
 intro ⟨j, ys⟩ ⟨hj, hq⟩
 simp only at hj hq ⊢
 have hyl := hq.length_eq
 refine zY 2 [1, 4, 7, 10, 13, 16, 19, 25, 28, 31, 34, 23, 38, 39, 43] ?_
 refine zG' 4 19 ?_ ?_
 ·intro g1
  (try simp only [dcs, ne_eq] at g1)
  refine zJ 7 ?_
  refine zJ 0 ?_
  refine zE 3 [0, 1, 2, 6, 7, 20, 21, 22, 23, 24, 25, 26, 27, 28, 29, 30] ?_
  refine zDf 0 ?_
  refine zR 7 ?_
  refine zi 6 ?_
  refine zz (i + 1, ys) ⟨by show a + 1 ≤ i + 1; omega, by show i + 1 ≤ b ∨ _; omega, hq⟩ (by show b - (i + 1) < b - i; omega)
 intro g1
 (try simp only [dcs, ne_eq] at g1)
 refine zIn 2 j ?_
 refine zR 3 ?_
 refine go_i64n 26 (j - 1) rfl ?_
 refine zIn 0 (j - 1) ?_
 refine zLm 0 j ys ?_
 refine zLm 0 (j - 1) ys ?_
 refine zC3 0 (lessI _ _) ?_
 refine zE 2 [0, 1, 2, 6, 7, 20, 21, 22, 23, 24, 25, 26, 27, 28, 29, 30] ?_
 refine zB' 0 ?_ ?_
 ·intro g2
  (try simp only [dcs, ne_eq] at g2)
  refine zR 7 ?_
  refine zi 6 ?_
  refine zz (i + 1, ys) ⟨by show a + 1 ≤ i + 1; omega, by show i + 1 ≤ b ∨ _; omega, hq⟩ (by show b - (i + 1) < b - i; omega)
 intro g2
 (try simp only [dcs, ne_eq] at g2)
 refine zY 3 [1, 4, 7, 10, 13, 16, 19, 22, 25, 31, 34, 37, 29, 41, 43, 45, 49, 51] ?_
 refine zR 5 ?_
 refine go_i64n 37 (j - 1) rfl ?_
 refine zR 3 ?_
 refine go_i64n 40 (j - 1) rfl ?_
 refine zIn 0 (j - 1) ?_
 refine zIn 2 j ?_
 refine zLm 0 (j - 1) ys ?_
 refine zLm 0 j ys ?_
 refine zIn 0 j ?_
 refine zSE 0 (tInt .i64) ys j (gt0 ys (j - 1)) ent_int ?_
 refine zIn 0 (j - 1) ?_
 refine zSE 0 (tInt .i64) (ys.set j (gt0 ys (j - 1))) (j - 1) (gt0 ys j) ent_int ?_
 refine zE 1 [0, 1, 2, 6, 7, 20, 21, 22, 23, 24, 25, 26, 27, 28, 29] ?_
 refine zR 4 ?_
 refine go_i64n 32 (j - 1) rfl ?_
 refine zR 2 ?_
 refine zz (j - 1, sw ys j (j - 1)) ⟨by show j - 1 ≤ i; omega, (sw_perm hq (by omega) (by omega))⟩ (by show j - 1 < j; omega)
theorem siftI (bL : Nat) (c : Nat) (l : List Int) (n : Nat) (hl : l.length = n) (lo hi first : Nat) (hlo : lo ≤ 1000000000) (hh : first + hi ≤ n) (hn : n ≤ 1000000000) :
    Spec Tryz.prog 211 #[.slice (some ⟨bL, 0, none⟩) n c, .int .i64 (lo : Int), .int .i64 (hi : Int), .int .i64 (first : Int)] [] [ol (tInt .i64) 3 (some ⟨bL, 0, none⟩) c l] (fun v Ps' Os' => ∃ m, m.Perm l ∧ v = .tuple #[] ∧ Ps' = [] ∧ Os' = [ol (tInt .i64) 3 (some ⟨bL, 0, none⟩) c m]) := by
 refine zSp _ Tryz.func211 Tryz.ntmps211 (fun _ _ _ => ?_)
 refine zE 5 [0, 2, 3, 8] ?_
 refine zR 1 ?_
 refine zO (X := Nat × List Int) (fun x => [(8, .int .i64 (x.1 : Int))]) [0, 2, 3] (fun x => [ol (tInt .i64) 3 (some ⟨bL, 0, none⟩) c x.2]) (fun x => x.1 ≤ 1000000000 ∧ x.2.Perm l) (fun x => hi - x.1) (lo, l) ⟨hlo, .refl _⟩ ?_
 intro ⟨root, xs⟩ ⟨hr, hp⟩
 simp only at hr hp ⊢
 have hxl := hp.length_eq
 refine zR 5 ?_
 refine go_i64n 12 (2 * root) rfl ?_
 refine zR 1 ?_
 refine go_i64n 13 ((2 * root) + 1) rfl ?_
 refine zE 2 [0, 2, 3, 8, 9] ?_
 refine zE 7 [0, 2, 3, 8, 9, 16] ?_
 refine zD 0 ?_ ?_
 ·intro g0
  refine zT 1 rfl ⟨xs, hp, rfl, rfl, rfl⟩
 intro g0
 refine zY 3 [1, 4, 7, 10, 13, 16, 19, 22, 25, 28, 34, 37, 40, 43, 46, 49, 32, 53, 54, 58] ?_
 refine zR 2 ?_
 refine go_i64n 18 ((2 * root + 1) + 1) rfl ?_
 refine zG' 3 21 ?_ ?_
 ·intro g1
  (try simp only [dcs, ne_eq] at g1)
  obtain ⟨ch, hce⟩ : ∃ ch, ch = 2 * root + 1 := ⟨_, rfl⟩
  refine go_re 9 (.int .i64 (ch : Int)) (by rw [hce]; rfl) ?_
  have hc1 : root < ch := by omega
  have hc2 : ch < hi := by omega
  refine zJ 11 ?_
  refine zJ 0 ?_
  refine zE 3 [0, 2, 3, 8, 9, 22, 23, 24, 25, 26, 27, 28, 29, 30, 31, 32, 33, 34, 35, 36] ?_
  refine zDf 0 ?_
  refine zY 3 [1, 4, 7, 10, 13, 19, 22, 25, 28, 31, 17, 35, 36, 40] ?_
  refine zR 4 ?_
  refine go_i64n 42 (first + root) rfl ?_
  refine zIn 0 (first + root) ?_
  refine zR 4 ?_
  refine go_i64n 48 (first + ch) rfl ?_
  refine zIn 0 (first + ch) ?_
  refine zLm 0 (first + root) xs ?_
  refine zLm 0 (first + ch) xs ?_
  refine zC3 0 (lessI _ _) ?_
  refine zE 2 [0, 2, 3, 8, 9, 22, 23, 24, 25, 26, 27, 28, 29, 30, 31, 32, 33, 34, 35, 52] ?_
  refine zB 0 ?_ ?_
  ·intro g3
   (try simp only [dcs, ne_eq] at g3)
   refine zT 0 rfl ⟨xs, hp, rfl, rfl, rfl⟩
  intro g3
  (try simp only [dcs, ne_eq] at g3)
  refine zY 2 [1, 4, 7, 10, 13, 16, 19, 22, 25, 28, 31, 34, 37, 43, 46, 49, 52, 55, 41, 59, 61, 63, 67, 69] ?_
  refine zR 4 ?_
  refine go_i64n 56 (first + root) rfl ?_
  refine zR 4 ?_
  refine go_i64n 60 (first + ch) rfl ?_
  refine zR 4 ?_
  refine go_i64n 64 (first + ch) rfl ?_
  refine zIn 0 (first + ch) ?_
  refine zR 4 ?_
  refine go_i64n 70 (first + root) rfl ?_
  refine zIn 0 (first + root) ?_
  refine zLm 0 (first + ch) xs ?_
  refine zLm 0 (first + root) xs ?_
  refine zIn 0 (first + root) ?_
  refine zSE 0 (tInt .i64) xs (first + root) (gt0 xs (first + ch)) ent_int ?_
  refine zIn 0 (first + ch) ?_
  refine zSE 0 (tInt .i64) (xs.set (first + root) (gt0 xs (first + ch))) (first + ch) (gt0 xs (first + root)) ent_int ?_
  refine zE 1 [0, 2, 3, 9, 22, 23, 24, 25, 26, 27, 28, 29, 30, 31, 32, 33, 34, 35] ?_
  refine zE 4 [0, 2, 3, 8, 22, 23, 24, 25, 26, 27, 28, 29, 30, 31, 32, 33, 34, 35] ?_
  refine zR 1 ?_
  refine zz (ch, sw xs (first + root) (first + ch)) ⟨by show ch ≤ _; omega, (sw_perm hp (by omega) (by omega))⟩ (by show hi - ch < hi - root; omega)
 intro g1
 (try simp only [dcs, ne_eq] at g1)
 refine zR 4 ?_
 refine go_i64n 25 (first + (2 * root + 1)) rfl ?_
 refine zIn 0 (first + (2 * root + 1)) ?_
 refine zR 4 ?_
 refine go_i64n 31 (first + (2 * root + 1)) rfl ?_
 refine zR 1 ?_
 refine go_i64n 32 ((first + (2 * root + 1)) + 1) rfl ?_
 refine zIn 0 ((first + (2 * root + 1)) + 1) ?_
 refine zLm 0 (first + (2 * root + 1)) xs ?_
 refine zLm 0 ((first + (2 * root + 1)) + 1) xs ?_
 refine zC3 0 (lessI _ _) ?_
 refine zE 2 [0, 2, 3, 8, 9, 22, 23, 24, 25, 26, 27, 28, 29, 30, 31, 32, 33, 34, 35, 36] ?_
 refine zU (X := Nat) (fun x => [(9, .int .i64 (x : Int))]) [0, 2, 3, 8, 22, 23, 24, 25, 26, 27, 28, 29, 30, 31, 32, 33, 34, 35] (fun _ => []) ([]) (fun x => root < x ∧ x < hi) ?_ ?_
 ·skip
  refine zB' 0 ?_ ?_
  ·intro hq1
   (try simp only [dcs, ne_eq] at hq1)
   refine zR 1 ?_
   refine zz (2 * root + 1) ⟨by omega, by omega⟩ (by decide)
  intro hq1
  (try simp only [dcs, ne_eq] at hq1)
  refine zR 3 ?_
  refine go_i64n 38 ((2 * root + 1) + 1) rfl ?_
  refine zR 2 ?_
  refine zz (2 * root + 1 + 1) ⟨by omega, by omega⟩ (by decide)
 intro ch ⟨hc1, hc2⟩
 refine zY 2 [1, 4, 7, 10, 13, 19, 22, 25, 28, 31, 17, 35, 36, 40] ?_
 refine zR 4 ?_
 refine go_i64n 42 (first + root) rfl ?_
 refine zIn 0 (first + root) ?_
 refine zR 4 ?_
 refine go_i64n 48 (first + ch) rfl ?_
 refine zIn 0 (first + ch) ?_
 refine zLm 0 (first + root) xs ?_
 refine zLm 0 (first + ch) xs ?_
 refine zC3 0 (lessI _ _) ?_
 refine zE 2 [0, 2, 3, 8, 9, 22, 23, 24, 25, 26, 27, 28, 29, 30, 31, 32, 33, 34, 35, 52] ?_
 refine zB 0 ?_ ?_
 ·intro g3
  (try simp only [dcs, ne_eq] at g3)
  refine zT 0 rfl ⟨xs, hp, rfl, rfl, rfl⟩
 intro g3
 (try simp only [dcs, ne_eq] at g3)
 refine zY 2 [1, 4, 7, 10, 13, 16, 19, 22, 25, 28, 31, 34, 37, 43, 46, 49, 52, 55, 41, 59, 61, 63, 67, 69] ?_
 refine zR 4 ?_
 refine go_i64n 56 (first + root) rfl ?_
 refine zR 4 ?_
 refine go_i64n 60 (first + ch) rfl ?_
 refine zR 4 ?_
 refine go_i64n 64 (first + ch) rfl ?_
 refine zIn 0 (first + ch) ?_
 refine zR 4 ?_
 refine go_i64n 70 (first + root) rfl ?_
 refine zIn 0 (first + root) ?_
 refine zLm 0 (first + ch) xs ?_
 refine zLm 0 (first + root) xs ?_
 refine zIn 0 (first + root) ?_
 refine zSE 0 (tInt .i64) xs (first + root) (gt0 xs (first + ch)) ent_int ?_
 refine zIn 0 (first + ch) ?_
 refine zSE 0 (tInt .i64) (xs.set (first + root) (gt0 xs (first + ch))) (first + ch) (gt0 xs (first + root)) ent_int ?_
 refine zE 1 [0, 2, 3, 9, 22, 23, 24, 25, 26, 27, 28, 29, 30, 31, 32, 33, 34, 35] ?_
 refine zE 4 [0, 2, 3, 8, 22, 23, 24, 25, 26, 27, 28, 29, 30, 31, 32, 33, 34, 35] ?_
 refine zR 1 ?_
 refine zz (ch, sw xs (first + root) (first + ch)) ⟨by show ch ≤ _; omega, (sw_perm hp (by omega) (by omega))⟩ (by show hi - ch < hi - root; omega)
theorem heapI (bL : Nat) (c : Nat) (l : List Int) (n : Nat) (hl : l.length = n) (a b : Nat) (hab : a < b) (hb : b ≤ n) (hn : n ≤ 1000000000) :
    Spec Tryz.prog 203 #[.slice (some ⟨bL, 0, none⟩) n c, .int .i64 (a : Int), .int .i64 (b : Int)] [] [ol (tInt .i64) 3 (some ⟨bL, 0, none⟩) c l] (fun v Ps' Os' => ∃ m, m.Perm l ∧ v = .tuple #[] ∧ Ps' = [] ∧ Os' = [ol (tInt .i64) 3 (some ⟨bL, 0, none⟩) c m]) := by
 refine zSp _ Tryz.func203 Tryz.ntmps203 (fun _ _ _ => ?_)
 refine zE 5 [0, 1, 2, 6] ?_
 refine zR 9 ?_
 refine go_i64n 14 (b - a) rfl ?_
 refine zE 2 [0, 6, 7, 8] ?_
 refine zR 5 ?_
 refine go_i64n 16 ((b - a) - 1) rfl ?_
 refine zR 1 ?_
 refine go_re 17 (.int .i64 (IntKind.i64.wrap (((((b - a) - 1) / 2) : Nat) : Int))) rfl ?_
 refine go_i64n 17 (((b - a) - 1) / 2) rfl ?_
 refine zR 1 ?_
 refine go_re 9 (.int .i64 ((((b - a - 1) / 2 + 1 : Nat) : Int) - 1)) (by show some (Value.int _ _) = _; exact congrArg (fun z : Int => some (Value.int IntKind.i64 z)) (by omega)) ?_
 refine zE 1 [0, 6, 7, 8, 9] ?_
 refine zR 1 ?_
 refine zO (X := Nat × List Int) (fun x => [(9, .int .i64 ((x.1 : Int) - 1))]) [0, 6, 7, 8] (fun x => [ol (tInt .i64) 3 (some ⟨bL, 0, none⟩) c x.2]) (fun x => x.1 ≤ 1000000000 ∧ x.2.Perm l) (fun x => x.1) ((b - a - 1) / 2 + 1, l) ⟨by show _ / 2 + 1 ≤ _; omega, .refl _⟩ ?_
 intro ⟨k1, xs⟩ ⟨hk, hp⟩
 simp only at hk hp ⊢
 have hxl := hp.length_eq
 refine zE 6 [0, 6, 7, 8, 9, 19] ?_
 refine zD 0 ?_ ?_
 ·intro g1
  obtain ⟨k, rfl⟩ : ∃ k, k1 = k + 1 := ⟨k1 - 1, by omega⟩
  refine go_re 9 (.int .i64 (k : Int)) (by show some (Value.int _ _) = _; exact congrArg (fun z : Int => some (Value.int IntKind.i64 z)) (by omega)) ?_
  refine zC 8 (siftI bL c xs n (by omega) k (b - a) a (by omega) (by omega) (by omega)) ?_
  rintro _ _ _ ⟨m, hm, rfl, rfl, rfl⟩
  refine zE 1 [0, 6, 7, 8, 9] ?_
  refine zR 6 ?_
  refine zi 9 ?_
  refine zz (k, m) ⟨by show k ≤ _; omega, hm.trans hp⟩ (by show k < k + 1; omega)
 intro g1
 refine zR 2 ?_
 skip
 refine zR 3 ?_
 refine zi 28 ?_
 refine go_re 28 (.int .i64 (((b - a : Nat) : Int) - 1)) (by show some (Value.int _ _) = _; exact congrArg (fun z : Int => some (Value.int IntKind.i64 z)) (by omega)) ?_
 refine zE 2 [0, 6, 7, 10] ?_
 refine zR 1 ?_
 refine zO (X := Nat × List Int) (fun x => [(10, .int .i64 ((x.1 : Int) - 1))]) [0, 6, 7] (fun x => [ol (tInt .i64) 3 (some ⟨bL, 0, none⟩) c x.2]) (fun x => x.1 ≤ b - a ∧ x.2.Perm l) (fun x => x.1) (b - a, xs) ⟨Nat.le_refl _, hp⟩ ?_
 intro ⟨k1, ys⟩ ⟨hk', hq⟩
 simp only at hk' hq ⊢
 have hyl := hq.length_eq
 refine zE 6 [0, 6, 7, 10, 30] ?_
 refine zD' 0 ?_ ?_
 ·intro g2
  refine zT 1 rfl ⟨ys, hq, rfl, rfl, rfl⟩
 intro g2
 obtain ⟨k, rfl⟩ : ∃ k, k1 = k + 1 := ⟨k1 - 1, by omega⟩
 refine go_re 10 (.int .i64 (k : Int)) (by show some (Value.int _ _) = _; exact congrArg (fun z : Int => some (Value.int IntKind.i64 z)) (by omega)) ?_
 refine zY 4 [1, 4, 7, 10, 13, 16, 19, 22, 25, 28, 31, 37, 40, 43, 35, 47, 49, 51, 55, 57] ?_
 refine zR 6 ?_
 refine go_i64n 38 (a + k) rfl ?_
 refine zR 4 ?_
 refine go_i64n 42 (a + k) rfl ?_
 refine zIn 0 (a + k) ?_
 refine zIn 2 a ?_
 refine zLm 0 (a + k) ys ?_
 refine zLm 0 a ys ?_
 refine zIn 0 a ?_
 refine zSE 0 (tInt .i64) ys a (gt0 ys (a + k)) ent_int ?_
 refine zIn 0 (a + k) ?_
 refine zSE 0 (tInt .i64) (ys.set a (gt0 ys (a + k))) (a + k) (gt0 ys a) ent_int ?_
 refine zE 1 [0, 6, 7, 10] ?_
 obtain ⟨zs, hzs⟩ : ∃ zs, zs = sw ys a (a + k) := ⟨_, rfl⟩
 refine go_same (B := ol (tInt .i64) 3 (some ⟨bL, 0, none⟩) c zs) .here (by rw [hzs]; rfl) ?_
 have hz : zs.Perm l := by rw [hzs]; exact (sw_perm hq (by omega) (by omega))
 have hzl := hz.length_eq
 refine zC 5 (siftI bL c zs n (by omega) 0 k a (by omega) (by omega) (by omega)) ?_
 rintro _ _ _ ⟨m, hm, rfl, rfl, rfl⟩
 refine zE 1 [0, 6, 7, 10] ?_
 refine zR 6 ?_
 refine zi 10 ?_
 refine zz (k, m) ⟨by show k ≤ _; omega, hm.trans hz⟩ (by show k < k + 1; omega)
theorem revI (bL : Nat) (c : Nat) (l : List Int) (n : Nat) (hl : l.length = n) (a b : Nat) (hab : a < b) (hb : b ≤ n) (hn : n ≤ 1000000000) :
    Spec Tryz.prog 206 #[.slice (some ⟨bL, 0, none⟩) n c, .int .i64 (a : Int), .int .i64 (b : Int)] [] [ol (tInt .i64) 3 (some ⟨bL, 0, none⟩) c l] (fun v Ps' Os' => ∃ m, m.Perm l ∧ v = .tuple #[] ∧ Ps' = [] ∧ Os' = [ol (tInt .i64) 3 (some ⟨bL, 0, none⟩) c m]) := by
 refine zSp _ Tryz.func206 Tryz.ntmps206 (fun _ _ _ => ?_)
 refine zE 5 [0, 2, 6] ?_
 refine zR 4 ?_
 refine go_i64n 10 (b - 1) rfl ?_
 refine zE 2 [0, 6, 7] ?_
 refine zR 1 ?_
 refine zO (X := Nat × Nat × List Int) (fun x => [(6, .int .i64 (x.1 : Int)), (7, .int .i64 (x.2.1 : Int))]) [0] (fun x => [ol (tInt .i64) 3 (some ⟨bL, 0, none⟩) c x.2.2]) (fun x => x.1 ≤ b ∧ x.2.1 < b ∧ x.2.2.Perm l) (fun x => x.2.1 - x.1) (a, b - 1, l) ⟨by show a ≤ b; omega, by show b - 1 < b; omega, .refl _⟩ ?_
 intro ⟨i, j, xs⟩ ⟨hi, hj, hp⟩
 simp only at hi hj hp ⊢
 have hxl := hp.length_eq
 refine zE 7 [0, 6, 7, 13] ?_
 refine zD' 0 ?_ ?_
 ·intro g1
  refine zT 1 rfl ⟨xs, hp, rfl, rfl, rfl⟩
 intro g1
 refine zY 3 [1, 4, 7, 10, 13, 16, 19, 25, 28, 31, 23, 35, 37, 39, 43, 45] ?_
 refine zIn 6 j ?_
 refine zIn 2 i ?_
 refine zLm 0 j xs ?_
 refine zLm 0 i xs ?_
 refine zIn 0 i ?_
 refine zSE 0 (tInt .i64) xs i (gt0 xs j) ent_int ?_
 refine zIn 0 j ?_
 refine zSE 0 (tInt .i64) (xs.set i (gt0 xs j)) j (gt0 xs i) ent_int ?_
 refine zE 1 [0, 6, 7] ?_
 refine zR 4 ?_
 refine go_i64n 29 (i + 1) rfl ?_
 refine zE 2 [0, 6, 7] ?_
 refine zR 3 ?_
 refine go_i64n 31 (j - 1) rfl ?_
 refine zE 2 [0, 6, 7] ?_
 refine zR 1 ?_
 refine zz (i + 1, j - 1, sw xs i j) ⟨by show i + 1 ≤ b; omega, by show j - 1 < b; omega, (sw_perm hp (by omega) (by omega))⟩ (by show j - 1 - (i + 1) < j - i; omega)
theorem pow_bitLenAux : ∀ (f x : Nat), 0 < x → x < 2 ^ f → 2 ^ Lib.bitLenAux f x ≤ 2 * x
  | 0, x, h0, h => by simp at h; omega
  | f + 1, x, h0, h => by
    rw [Lib.bitLenAux, if_neg (by omega)]
    by_cases e : x = 1
    · subst e
      have : Lib.bitLenAux f (1 / 2) = 0 := by cases f <;> simp [Lib.bitLenAux]
      rw [this]
      decide
    · have := pow_bitLenAux f (x / 2) (by omega) (by rw [Nat.pow_succ] at h; omega)
      rw [Nat.add_comm 1, Nat.pow_succ]
      omega
theorem pow_bitLen {x : Nat} (h0 : 0 < x) (h : x ≤ 1000000000) : 2 ^ Lib.bitLen x ≤ 2 * x := pow_bitLenAux 64 x h0 (by omega)
section
variable {C : Ctx} {k : List It} {E : Env} {Ps : List PA} {Os : List OA}
theorem go_gen {b ty : Nat} {kk : IntKind} {n : Int} {r : List OA} (h : Rem (pt b ty [.int kk n]) Os r) (g : ∀ m, n = m → Go C k E Ps (pt b ty [.int kk m] :: r)) : Go C k E Ps Os := go_imp _ [_] h (fun _ _ q => sep_one q) (g n rfl)
end
theorem xorNext_ (bR : Nat) (z : Int) :
    Spec Tryz.prog 190 #[.pointer (some ⟨bR, 0, none⟩)] [] [pt bR 267 [.int .u64 z]] (fun v Ps' Os' => ∃ r, v = .int .u64 r ∧ Ps' = [] ∧ Os' = [pt bR 267 [.int .u64 r]]) := by
 refine zSp _ Tryz.func190 Tryz.ntmps190 (fun _ _ _ => ?_)
 refine zY 5 [1, 4, 10, 13, 8, 17, 19, 22, 25, 27] ?_
 refine zK 4 ?_
 refine zK 0 ?_
 refine zS 3 ?_
 refine zR 1 ?_
 refine go_gen (b := bR) zM (fun z1 hz1 => ?_)
 refine zY 1 [1, 4, 10, 13, 8, 17, 19, 22, 25, 27] ?_
 refine zK 4 ?_
 refine zK 0 ?_
 refine zS 3 ?_
 refine zR 1 ?_
 refine go_gen (b := bR) zM (fun z2 hz2 => ?_)
 refine zE 0 [0] ?_
 refine zY 1 [1, 4, 10, 13, 8, 17, 19, 22, 25, 27] ?_
 refine zK 4 ?_
 refine zK 0 ?_
 refine zS 3 ?_
 refine zR 1 ?_
 refine go_gen (b := bR) zM (fun z3 hz3 => ?_)
 refine zL 4 ?_
 refine zE 2 [2] ?_
 refine zT 0 rfl ⟨z3, rfl, rfl, rfl⟩
theorem nextPow (n : Nat) (h0 : 0 < n) (hn : n ≤ 1000000000) :
    Spec Tryz.prog 189 #[.int .i64 (n : Int)] [] [] (fun v Ps' Os' => ∃ z : Nat, 0 < z ∧ z ≤ 2 * n ∧ v = .int .u64 (z : Int) ∧ Ps' = [] ∧ Os' = []) := by
 refine zSp _ Tryz.func189 Tryz.ntmps189 (fun _ _ _ => ?_)
 refine zR 8 ?_
 refine go_re 4 (.int .u64 (n : Int)) (by show some (Value.int _ _) = _; rw [wrap_u64 (by omega)]) ?_
 refine zC3 0 (bitsLen (n : Int) (by omega) (by omega)) ?_
 refine zR 1 ?_
 have hb := pow_bitLen h0 hn
 have hp : 0 < 2 ^ Lib.bitLen n := Nat.pow_pos (by decide)
 have hbl : Lib.bitLen n ≤ 64 := by
   apply Nat.le_of_not_lt; intro q
   have h1 := Nat.pow_le_pow_right (n := 2) (by decide) (Nat.le_of_lt q)
   omega
 refine go_re 6 (.int .u64 ((2 ^ Lib.bitLen n : Nat) : Int)) (by show some (Value.int _ (IntKind.u64.wrap (1 * 2 ^ Nat.min (Lib.bitLen n) 64))) = _; rw [show Nat.min (Lib.bitLen n) 64 = Lib.bitLen n from Nat.min_eq_left hbl, show (1 : Int) * 2 ^ Lib.bitLen n = ((2 ^ Lib.bitLen n : Nat) : Int) by rw [Int.one_mul]; norm_cast, wrap_u64 (by omega)]) ?_
 refine zT 2 rfl ⟨2 ^ Lib.bitLen n, hp, hb, rfl, rfl, rfl⟩
theorem brkU (bL : Nat) (c : Nat) (l : List Int) (n : Nat) (hl : l.length = n) (a b : Nat) (hab : a < b) (hb : b ≤ n) (hn : n ≤ 1000000000) (h8 : 8 ≤ b - a) :
    Spec Tryz.prog 168 #[.slice (some ⟨bL, 0, none⟩) n c, .int .i64 (a : Int), .int .i64 (b : Int)] [] [ol (tInt .u32) 26 (some ⟨bL, 0, none⟩) c l] (fun v Ps' Os' => ∃ m, m.Perm l ∧ v = .tuple #[] ∧ Ps' = [] ∧ Os' = [ol (tInt .u32) 26 (some ⟨bL, 0, none⟩) c m]) := by
 refine zSp _ Tryz.func168 Tryz.ntmps168 (fun _ _ _ => ?_)
 refine zR 5 ?_
 refine go_i64n 13 (b - a) rfl ?_
 refine zD' 7 ?_ ?_
 ·intro g1
  exfalso; omega
 intro g1
 refine zR 4 ?_
 refine go_re 17 (.int .u64 ((b - a : Nat) : Int)) (by show some (Value.int _ _) = _; rw [wrap_u64 (by omega)]) ?_
 refine zW 0 ?_
 intro bR
 refine zS 0 ?_
 refine zC 4 (nextPow (b - a) (by omega) (by omega)) ?_
 rintro _ _ _ ⟨mz, hm0, hm1, rfl, rfl, rfl⟩
 refine zR 7 ?_
 refine go_re 22 (.int .i64 (IntKind.i64.wrap ((((b - a) / 4) : Nat) : Int))) rfl ?_
 refine go_i64n 22 ((b - a) / 4) rfl ?_
 refine zR 1 ?_
 refine go_i64n 23 (((b - a) / 4) * 2) rfl ?_
 refine zR 1 ?_
 refine go_i64n 24 (a + (((b - a) / 4) * 2)) rfl ?_
 refine zR 1 ?_
 refine go_i64n 25 ((a + (((b - a) / 4) * 2)) - 1) rfl ?_
 refine zE 2 [0, 1, 6, 7, 8, 9] ?_
 refine zR 1 ?_
 refine go_loop' (X := Nat × List Int × Int) (fun x => [(9, .int .i64 (x.1 : Int))]) [(0, _), (1, _), (6, _), (7, _), (8, _)] (fun x => [pt bR 267 [.int .u64 x.2.2], ol (tInt .u32) 26 (some ⟨bL, 0, none⟩) c x.2.1]) (fun x => a ≤ x.1 ∧ x.2.1.Perm l) (fun x => a + (b - a) / 4 * 2 + 2 - x.1) ((a + (b - a) / 4 * 2 - 1, l, _)) zA zM ⟨by show a ≤ _; omega, .refl _⟩ ?_
 intro ⟨ix, xs, z⟩ ⟨hi, hp⟩
 simp only at hi hp ⊢
 have hxl := hp.length_eq
 refine zR 7 ?_
 refine go_re 29 (.int .i64 (IntKind.i64.wrap ((((b - a) / 4) : Nat) : Int))) rfl ?_
 refine go_i64n 29 ((b - a) / 4) rfl ?_
 refine zR 1 ?_
 refine go_i64n 30 (((b - a) / 4) * 2) rfl ?_
 refine zR 1 ?_
 refine go_i64n 31 (a + (((b - a) / 4) * 2)) rfl ?_
 refine zR 1 ?_
 refine go_i64n 32 ((a + (((b - a) / 4) * 2)) + 1) rfl ?_
 refine zD' 2 ?_ ?_
 ·intro g2
  refine zT 1 rfl ⟨xs, hp, rfl, rfl, rfl⟩
 intro g2
 refine zC 5 (xorNext_ bR z) ?_
 rintro _ _ _ ⟨r, rfl, rfl, rfl⟩
 refine zR 2 ?_
 refine go_re 38 (.int .u64 ((mz : Int) - 1)) (by show some (Value.int _ _) = _; rw [wrap_u64 (by omega)]) ?_
 refine zR 1 ?_
 obtain ⟨w0, hw0, hw1⟩ : ∃ w0 : Nat, IntKind.u64.wrap ((BitVec.ofInt 64 r &&& BitVec.ofInt 64 ((mz : Int) - 1)).toNat : Int) = (w0 : Int) ∧ w0 < 2 * (b - a) := by
   have := and_le r ((mz : Int) - 1) (by omega) (by omega)
   exact ⟨(IntKind.u64.wrap ((BitVec.ofInt 64 r &&& BitVec.ofInt 64 ((mz : Int) - 1)).toNat : Int)).toNat, by omega, by omega⟩
 refine go_re 39 (.int .u64 (w0 : Int)) (by show some (Value.int .u64 (IntKind.u64.wrap ((BitVec.ofInt 64 r &&& BitVec.ofInt 64 ((mz : Int) - 1)).toNat : Int))) = _; rw [hw0]) ?_
 refine zR 1 ?_
 refine go_i64n 40 w0 rfl ?_
 refine zE 2 [0, 1, 6, 7, 8, 9, 10] ?_
 refine zR 7 ?_
 refine zU (X := Nat) (fun x => [(10, .int .i64 (x : Int))]) [0, 1, 6, 7, 8, 9] (fun _ => []) ([]) (fun x => x < b - a) ?_ ?_
 ·skip
  refine zD' 0 ?_ ?_
  ·intro hq1
   refine zR 1 ?_
   refine zz w0 (by omega) (by decide)
  intro hq1
  refine zR 4 ?_
  refine go_i64n 46 (w0 - (b - a)) rfl ?_
  refine zR 2 ?_
  refine zz (w0 - (b - a)) (by omega) (by decide)
 intro w hw
 refine zY 0 [1, 4, 7, 10, 13, 16, 19, 22, 25, 28, 31, 37, 40, 43, 35, 47, 49, 51, 55, 57] ?_
 refine zR 6 ?_
 refine go_i64n 52 (a + w) rfl ?_
 refine zR 4 ?_
 refine go_i64n 56 (a + w) rfl ?_
 refine zIn 0 (a + w) ?_
 refine zIn 2 ix ?_
 refine zLm 0 (a + w) xs ?_
 refine zLm 0 ix xs ?_
 refine zIn 0 ix ?_
 refine zSE 0 (tInt .u32) xs ix (gt0 xs (a + w)) ent_int ?_
 refine zIn 0 (a + w) ?_
 refine zSE 0 (tInt .u32) (xs.set ix (gt0 xs (a + w))) (a + w) (gt0 xs ix) ent_int ?_
 refine zE 1 [0, 1, 6, 7, 8, 9] ?_
 refine zR 4 ?_
 refine go_i64n 35 (ix + 1) rfl ?_
 refine zR 2 ?_
 refine zz (ix + 1, sw xs ix (a + w), r) ⟨by show a ≤ ix + 1; omega, (sw_perm hp (by omega) (by omega))⟩ (by show _ - (ix + 1) < _ - ix; omega)
theorem order2U (bL c : Nat) (l : List Int) (n : Nat) (hl : l.length = n) (bS : Nat) (z : Int) (a b : Nat) (ha : a < n) (hb : b < n) :
    Spec Tryz.prog 199 #[.slice (some ⟨bL, 0, none⟩) n c, .int .i64 (a : Int), .int .i64 (b : Int), .pointer (some ⟨bS, 0, none⟩)] [] [ol (tInt .u32) 26 (some ⟨bL, 0, none⟩) c l, pt bS 3 [.int .i64 z]] (fun v Ps' Os' => ∃ (p q : Nat) (z' : Int), ((p = a ∧ q = b) ∨ (p = b ∧ q = a)) ∧ v = .tuple #[.int .i64 (p : Int), .int .i64 (q : Int)] ∧ Ps' = [] ∧ Os' = [ol (tInt .u32) 26 (some ⟨bL, 0, none⟩) c l, pt bS 3 [.int .i64 z']]) := by
 refine zSp _ Tryz.func199 Tryz.ntmps199 (fun _ _ _ => ?_)
 refine zY 7 [1, 4, 7, 13, 16, 19, 11, 23, 24] ?_
 refine zIn 2 b ?_
 refine zIn 2 a ?_
 refine zLm 0 b l ?_
 refine zLm 0 a l ?_
 refine zC3 0 (lessU _ _) ?_
 refine zB' 1 ?_ ?_
 ·intro g1
  (try simp only [dcs, ne_eq] at g1)
  refine zE 8 [8, 9] ?_
  refine zT 0 rfl ⟨a, b, _, .inl ⟨rfl, rfl⟩, rfl, rfl, rfl⟩
 intro g1
 (try simp only [dcs, ne_eq] at g1)
 refine zL 4 ?_
 refine zS 2 ?_
 refine zE 1 [1, 2] ?_
 refine zT 7 rfl ⟨b, a, _, .inr ⟨rfl, rfl⟩, rfl, rfl, rfl⟩
theorem medianU (bL c : Nat) (l : List Int) (n : Nat) (hl : l.length = n) (bS : Nat) (z : Int) (a b d : Nat) (ha : a < n) (hb : b < n) (hd : d < n) :
    Spec Tryz.prog 192 #[.slice (some ⟨bL, 0, none⟩) n c, .int .i64 (a : Int), .int .i64 (b : Int), .int .i64 (d : Int), .pointer (some ⟨bS, 0, none⟩)] [] [ol (tInt .u32) 26 (some ⟨bL, 0, none⟩) c l, pt bS 3 [.int .i64 z]] (fun v Ps' Os' => ∃ (p : Nat) (z' : Int), (p = a ∨ p = b ∨ p = d) ∧ v = .int .i64 (p : Int) ∧ Ps' = [] ∧ Os' = [ol (tInt .u32) 26 (some ⟨bL, 0, none⟩) c l, pt bS 3 [.int .i64 z']]) := by
 refine zSp _ Tryz.func192 Tryz.ntmps192 (fun _ _ _ => ?_)
 refine zC 10 (order2U bL c l n hl bS z a b ha hb) ?_
 rintro _ _ _ ⟨p1, q1, z1, h1, rfl, rfl, rfl⟩
 refine zC 12 (order2U bL c l n hl bS z1 q1 d (by omega) hd) ?_
 rintro _ _ _ ⟨p2, q2, z2, h2, rfl, rfl, rfl⟩
 refine zE 6 [0, 1, 2, 4] ?_
 refine zC 6 (order2U bL c l n hl bS z2 p1 p2 (by omega) (by omega)) ?_
 rintro _ _ _ ⟨p3, q3, z3, h3, rfl, rfl, rfl⟩
 refine zE 11 [10] ?_
 refine zT 0 rfl ⟨q3, z3, by omega, rfl, rfl, rfl⟩
theorem medAdjU (bL c : Nat) (l : List Int) (n : Nat) (hl : l.length = n) (bS : Nat) (z : Int) (a : Nat) (ha : 1 ≤ a) (hb : a + 1 < n) (hn : n ≤ 1000000000) :
    Spec Tryz.prog 191 #[.slice (some ⟨bL, 0, none⟩) n c, .int .i64 (a : Int), .pointer (some ⟨bS, 0, none⟩)] [] [ol (tInt .u32) 26 (some ⟨bL, 0, none⟩) c l, pt bS 3 [.int .i64 z]] (fun v Ps' Os' => ∃ (p : Nat) (z' : Int), (p = a - 1 ∨ p = a ∨ p = a + 1) ∧ v = .int .i64 (p : Int) ∧ Ps' = [] ∧ Os' = [ol (tInt .u32) 26 (some ⟨bL, 0, none⟩) c l, pt bS 3 [.int .i64 z']]) := by
 refine zSp _ Tryz.func191 Tryz.ntmps191 (fun _ _ _ => ?_)
 refine zR 9 ?_
 refine go_i64n 9 (a - 1) rfl ?_
 refine zR 3 ?_
 refine go_i64n 12 (a + 1) rfl ?_
 refine zC 1 (medianU bL c l n hl bS z (a - 1) a (a + 1) (by omega) (by omega) (by omega)) ?_
 rintro _ _ _ ⟨p, z1, h1, rfl, rfl, rfl⟩
 refine zT 2 rfl ⟨p, z1, h1, rfl, rfl, rfl⟩
theorem chooseU (bL : Nat) (c : Nat) (l : List Int) (n : Nat) (hl : l.length = n) (a b : Nat) (hab : a < b) (hb : b ≤ n) (hn : n ≤ 1000000000) (h8 : 12 < b - a) :
    Spec Tryz.prog 169 #[.slice (some ⟨bL, 0, none⟩) n c, .int .i64 (a : Int), .int .i64 (b : Int)] [] [ol (tInt .u32) 26 (some ⟨bL, 0, none⟩) c l] (fun v Ps' Os' => ∃ (p : Nat) (h : Int), (a ≤ p ∧ p < b) ∧ v = .tuple #[.int .i64 (p : Int), .int .i64 h] ∧ Ps' = [] ∧ Os' = [ol (tInt .u32) 26 (some ⟨bL, 0, none⟩) c l]) := by
 refine zSp _ Tryz.func169 Tryz.ntmps169 (fun _ _ _ => ?_)
 refine zR 10 ?_
 refine go_i64n 15 (b - a) rfl ?_
 refine zW 4 ?_
 intro bS
 refine zR 6 ?_
 refine go_re 18 (.int .i64 (IntKind.i64.wrap ((((b - a) / 4) : Nat) : Int))) rfl ?_
 refine go_i64n 18 ((b - a) / 4) rfl ?_
 refine zR 1 ?_
 refine go_i64n 19 (((b - a) / 4) * 1) rfl ?_
 refine zR 1 ?_
 refine go_i64n 20 (a + (((b - a) / 4) * 1)) rfl ?_
 refine zR 7 ?_
 refine go_re 23 (.int .i64 (IntKind.i64.wrap ((((b - a) / 4) : Nat) : Int))) rfl ?_
 refine go_i64n 23 ((b - a) / 4) rfl ?_
 refine zR 1 ?_
 refine go_i64n 24 (((b - a) / 4) * 2) rfl ?_
 refine zR 1 ?_
 refine go_i64n 25 (a + (((b - a) / 4) * 2)) rfl ?_
 refine zE 2 [0, 1, 8, 9, 10, 11] ?_
 refine zR 5 ?_
 refine go_re 28 (.int .i64 (IntKind.i64.wrap ((((b - a) / 4) : Nat) : Int))) rfl ?_
 refine go_i64n 28 ((b - a) / 4) rfl ?_
 refine zR 1 ?_
 refine go_i64n 29 (((b - a) / 4) * 3) rfl ?_
 refine zR 1 ?_
 refine go_i64n 30 (a + (((b - a) / 4) * 3)) rfl ?_
 refine zD' 8 ?_ ?_
 ·intro g1
  exfalso; omega
 intro g1
 refine zR 6 ?_
 refine zU (X := Nat × Nat × Nat × Int) (fun x => [(10, .int .i64 (x.1 : Int)), (11, .int .i64 (x.2.1 : Int)), (12, .int .i64 (x.2.2.1 : Int))]) [0, 9] (fun x => [pt bS 3 [.int .i64 x.2.2.2], ol (tInt .u32) 26 (some ⟨bL, 0, none⟩) c l]) ([pt bS 3 [.int .i64 0], ol (tInt .u32) 26 (some ⟨bL, 0, none⟩) c l]) (fun x => (a ≤ x.1 ∧ x.1 < b) ∧ (a ≤ x.2.1 ∧ x.2.1 < b) ∧ (a ≤ x.2.2.1 ∧ x.2.2.1 < b)) ?_ ?_
 ·skip
  refine zD' 0 ?_ ?_
  ·intro g2
   skip
   refine zR 1 ?_
   refine zz ((a + (b - a) / 4 * 1), (a + (b - a) / 4 * 2), (a + (b - a) / 4 * 3), 0) ⟨by show a ≤ (a + (b - a) / 4 * 1) ∧ (a + (b - a) / 4 * 1) < b; omega, by show a ≤ (a + (b - a) / 4 * 2) ∧ (a + (b - a) / 4 * 2) < b; omega, by show a ≤ (a + (b - a) / 4 * 3) ∧ (a + (b - a) / 4 * 3) < b; omega⟩ (by decide)
  intro g2
  refine zC 4 (medAdjU bL c l n hl bS 0 (a + (b - a) / 4 * 1) (by omega) (by omega) hn) ?_
  rintro _ _ _ ⟨p1, z1, hp1, rfl, rfl, rfl⟩
  refine zE 2 [0, 9, 10, 11, 12] ?_
  refine zC 4 (medAdjU bL c l n hl bS z1 (a + (b - a) / 4 * 2) (by omega) (by omega) hn) ?_
  rintro _ _ _ ⟨p2, z2, hp2, rfl, rfl, rfl⟩
  refine zC 5 (medAdjU bL c l n hl bS z2 (a + (b - a) / 4 * 3) (by omega) (by omega) hn) ?_
  rintro _ _ _ ⟨p3, z3, hp3, rfl, rfl, rfl⟩
  refine zR 2 ?_
  refine zz (p1, p2, p3, z3) ⟨by show a ≤ p1 ∧ p1 < b; omega, by show a ≤ p2 ∧ p2 < b; omega, by show a ≤ p3 ∧ p3 < b; omega⟩ (by decide)
 intro ⟨p1, p2, p3, z3⟩ ⟨hp1, hp2, hp3⟩
 simp only at hp1 hp2 hp3 ⊢
 refine zC 5 (medianU bL c l n hl bS z3 p1 p2 p3 (by omega) (by omega) (by omega)) ?_
 rintro _ _ _ ⟨p4, z4, hp4, rfl, rfl, rfl⟩
 refine zL 4 ?_
 refine zB 7 ?_ ?_
 ·intro hq1
  (try simp only [dcs, ne_eq] at hq1)
  refine zE 6 [6, 7] ?_
  refine zT 0 rfl ⟨p4, _, by omega, rfl, rfl, rfl⟩
 intro hq1
 (try simp only [dcs, ne_eq] at hq1)
 refine zE 5 [11, 54] ?_
 refine zB 0 ?_ ?_
 ·intro hq2
  (try simp only [dcs, ne_eq] at hq2)
  refine zT 6 rfl ⟨p4, _, by omega, rfl, rfl, rfl⟩
 intro hq2
 (try simp only [dcs, ne_eq] at hq2)
 refine zT 6 rfl ⟨p4, _, by omega, rfl, rfl, rfl⟩
theorem partU (bL : Nat) (c : Nat) (l : List Int) (n : Nat) (hl : l.length = n) (a b : Nat) (hab : a < b) (hb : b ≤ n) (hn : n ≤ 1000000000) (pv : Nat) (hpv : a ≤ pv ∧ pv < b) :
    Spec Tryz.prog 174 #[.slice (some ⟨bL, 0, none⟩) n c, .int .i64 (a : Int), .int .i64 (b : Int), .int .i64 (pv : Int)] [] [ol (tInt .u32) 26 (some ⟨bL, 0, none⟩) c l] (fun v Ps' Os' => ∃ (m : List Int) (p : Nat) (q : Bool), m.Perm l ∧ (a ≤ p ∧ p < b) ∧ v = .tuple #[.int .i64 (p : Int), .bool q] ∧ Ps' = [] ∧ Os' = [ol (tInt .u32) 26 (some ⟨bL, 0, none⟩) c m]) := by
 refine zSp _ Tryz.func174 Tryz.ntmps174 (fun _ _ _ => ?_)
 refine zY 6 [1, 4, 7, 10, 13, 16, 19, 25, 28, 31, 23, 35, 37, 39, 43, 45] ?_
 refine zIn 6 pv ?_
 refine zIn 2 a ?_
 refine zLm 0 pv l ?_
 refine zLm 0 a l ?_
 refine zIn 0 a ?_
 refine zSE 0 (tInt .u32) l a (gt0 l pv) ent_int ?_
 refine zIn 0 pv ?_
 refine zSE 0 (tInt .u32) (l.set a (gt0 l pv)) pv (gt0 l a) ent_int ?_
 refine zR 1 ?_
 obtain ⟨xs, hxse⟩ : ∃ xs, xs = sw l a pv := ⟨_, rfl⟩
 refine go_same (B := ol (tInt .u32) 26 (some ⟨bL, 0, none⟩) c xs) .here (by rw [hxse]; rfl) ?_
 have hp : xs.Perm l := by rw [hxse]; exact (sw_perm (List.Perm.refl l) (by omega) (by omega))
 have hxsl := hp.length_eq
 refine zE 0 [0, 1, 2] ?_
 refine zR 4 ?_
 refine go_i64n 27 (a + 1) rfl ?_
 refine zR 2 ?_
 refine go_i64n 29 (b - 1) rfl ?_
 refine zR 5 ?_
 refine zO (X := Nat) (fun x => [(10, .int .i64 (x : Int))]) [0, 1, 11] (fun _ => []) (fun x => a + 1 ≤ x ∧ x ≤ b) (fun x => b - x) (a + 1) ⟨by omega, by omega⟩ ?_
 intro i ⟨hi1, hi2⟩
 refine zR 2 ?_
 refine zP (X := Bool) (fun x => [(43, .bool x)]) [0, 1, 10, 11] (fun x => x = true → i ≤ b - 1) ?_ ?_
 ·skip
  refine zY 0 [1, 4, 7, 10, 13, 16, 19, 25, 28, 31, 23, 35, 36, 40] ?_
  refine zG' 4 33 ?_ ?_
  ·intro g1
   (try simp only [dcs, ne_eq] at g1)
   refine zJ 6 ?_
   refine zJ 0 ?_
   refine zR 3 ?_
   refine zz false (fun q => nomatch q) (by decide)
  intro g1
  (try simp only [dcs, ne_eq] at g1)
  refine zIn 2 i ?_
  refine zIn 2 a ?_
  refine zLm 0 i xs ?_
  refine zLm 0 a xs ?_
  refine zC3 0 (lessU _ _) ?_
  refine zR 2 ?_
  refine go_back _ zA zM zM (fun _ => by omega) (by decide)
 intro cr hcr
 refine zB 0 ?_ ?_
 ·intro g2
  (try simp only [dcs, ne_eq] at g2)
  have g2' := hcr g2
  refine zR 5 ?_
  refine go_i64n 45 (i + 1) rfl ?_
  refine zR 3 ?_
  refine zz (i + 1) (⟨by omega, by omega⟩) (by omega)
 intro g2
 (try simp only [dcs, ne_eq] at g2)
 refine zR 3 ?_
 refine zO (X := Nat) (fun x => [(11, .int .i64 (x : Int))]) [0, 1, 10] (fun _ => []) (fun x => a ≤ x ∧ x < b ∧ i ≤ x + 1) (fun x => x) (b - 1) ⟨by omega, by omega, by omega⟩ ?_
 intro j ⟨hj1, hj2, hj3⟩
 refine zR 2 ?_
 refine zP (X := Bool) (fun x => [(60, .bool x)]) [0, 1, 10, 11] (fun x => x = true → i ≤ j) ?_ ?_
 ·skip
  refine zY 0 [1, 4, 7, 10, 13, 16, 19, 25, 28, 31, 23, 35, 36, 40, 43] ?_
  refine zG' 4 49 ?_ ?_
  ·intro g3
   (try simp only [dcs, ne_eq] at g3)
   refine zJ 6 ?_
   refine zJ 0 ?_
   refine zR 4 ?_
   refine zz false (fun q => nomatch q) (by decide)
  intro g3
  (try simp only [dcs, ne_eq] at g3)
  refine zIn 2 j ?_
  refine zIn 2 a ?_
  refine zLm 0 j xs ?_
  refine zLm 0 a xs ?_
  refine zC3 0 (lessU _ _) ?_
  refine zR 3 ?_
  refine go_back _ zA zM zM (fun _ => by omega) (by decide)
 intro cr hcr
 refine zB 0 ?_ ?_
 ·intro g4
  (try simp only [dcs, ne_eq] at g4)
  have g4' := hcr g4
  refine zR 5 ?_
  refine go_i64n 62 (j - 1) rfl ?_
  refine zR 3 ?_
  refine zz (j - 1) (⟨by omega, by omega, by omega⟩) (by omega)
 intro g4
 (try simp only [dcs, ne_eq] at g4)
 refine zD 8 ?_ ?_
 ·intro g5
  refine zY 1 [1, 4, 7, 10, 13, 16, 19, 25, 28, 31, 23, 35, 37, 39, 43, 45] ?_
  refine zIn 6 a ?_
  refine zIn 2 j ?_
  refine zLm 0 a xs ?_
  refine zLm 0 j xs ?_
  refine zIn 0 j ?_
  refine zSE 0 (tInt .u32) xs j (gt0 xs a) ent_int ?_
  refine zIn 0 a ?_
  refine zSE 0 (tInt .u32) (xs.set j (gt0 xs a)) a (gt0 xs j) ent_int ?_
  refine zE 1 [11] ?_
  refine zT 6 rfl ⟨sw xs j a, j, true, (sw_perm hp (by omega) (by omega)), by omega, rfl, rfl, rfl⟩
 intro g5
 refine zY 2 [1, 4, 7, 10, 13, 16, 19, 25, 28, 31, 23, 35, 37, 39, 43, 45] ?_
 refine zIn 6 j ?_
 refine zIn 2 i ?_
 refine zLm 0 j xs ?_
 refine zLm 0 i xs ?_
 refine zIn 0 i ?_
 refine zSE 0 (tInt .u32) xs i (gt0 xs j) ent_int ?_
 refine zIn 0 j ?_
 refine zSE 0 (tInt .u32) (xs.set i (gt0 xs j)) j (gt0 xs i) ent_int ?_
 refine zR 1 ?_
 obtain ⟨ys, hyse⟩ : ∃ ys, ys = sw xs i j := ⟨_, rfl⟩
 refine go_same (B := ol (tInt .u32) 26 (some ⟨bL, 0, none⟩) c ys) .here (by rw [hyse]; rfl) ?_
 have hp' : ys.Perm l := by rw [hyse]; exact (sw_perm hp (by omega) (by omega))
 have hysl := hp'.length_eq
 refine zE 0 [0, 1, 10, 11] ?_
 refine zR 4 ?_
 refine go_i64n 96 (i + 1) rfl ?_
 refine zR 6 ?_
 refine go_i64n 98 (j - 1) rfl ?_
 refine zR 4 ?_
 refine zO (X := Nat × Nat × List Int) (fun x => [(10, .int .i64 (x.1 : Int)), (11, .int .i64 (x.2.1 : Int))]) [0, 1] (fun x => [ol (tInt .u32) 26 (some ⟨bL, 0, none⟩) c x.2.2]) (fun x => a + 1 ≤ x.1 ∧ x.1 ≤ b ∧ x.1 ≤ x.2.1 + 2 ∧ a ≤ x.2.1 ∧ x.2.1 < b ∧ x.2.2.Perm l) (fun x => x.2.1 + 2 - x.1) (i + 1, j - 1, ys) ⟨by show a + 1 ≤ i + 1; omega, by show i + 1 ≤ b; omega, by show i + 1 ≤ j - 1 + 2; omega, by show a ≤ j - 1; omega, by show j - 1 < b; omega, hp'⟩ ?_
 intro ⟨i1, j1, zs⟩ ⟨ki1, ki2, ki3, kj1, kj2, hq⟩
 simp only at ki1 ki2 ki3 kj1 kj2 hq ⊢
 have hzl := hq.length_eq
 refine zR 3 ?_
 refine zO (X := Nat) (fun x => [(10, .int .i64 (x : Int))]) [0, 1, 11] (fun _ => []) (fun x => i1 ≤ x ∧ x ≤ b ∧ x ≤ j1 + 2) (fun x => b - x) i1 ⟨by omega, by omega, by omega⟩ ?_
 intro i2 ⟨mi1, mi2, mi3⟩
 refine zR 2 ?_
 refine zP (X := Bool) (fun x => [(112, .bool x)]) [0, 1, 10, 11] (fun x => x = true → i2 ≤ j1) ?_ ?_
 ·skip
  refine zY 0 [1, 4, 7, 10, 13, 16, 19, 25, 28, 31, 23, 35, 36, 40] ?_
  refine zG' 4 102 ?_ ?_
  ·intro g6
   (try simp only [dcs, ne_eq] at g6)
   refine zJ 6 ?_
   refine zJ 0 ?_
   refine zR 3 ?_
   refine zz false (fun q => nomatch q) (by decide)
  intro g6
  (try simp only [dcs, ne_eq] at g6)
  refine zIn 2 i2 ?_
  refine zIn 2 a ?_
  refine zLm 0 i2 zs ?_
  refine zLm 0 a zs ?_
  refine zC3 0 (lessU _ _) ?_
  refine zR 2 ?_
  refine go_back _ zA zM zM (fun _ => by omega) (by decide)
 intro cr hcr
 refine zB 0 ?_ ?_
 ·intro g7
  (try simp only [dcs, ne_eq] at g7)
  have g7' := hcr g7
  refine zR 5 ?_
  refine go_i64n 114 (i2 + 1) rfl ?_
  refine zR 3 ?_
  refine zz (i2 + 1) (⟨by omega, by omega, by omega⟩) (by omega)
 intro g7
 (try simp only [dcs, ne_eq] at g7)
 refine zR 3 ?_
 refine zO (X := Nat) (fun x => [(11, .int .i64 (x : Int))]) [0, 1, 10] (fun _ => []) (fun x => a ≤ x ∧ x ≤ j1 ∧ i2 ≤ x + 2) (fun x => x) j1 ⟨by omega, by omega, by omega⟩ ?_
 intro j2 ⟨mj1, mj2, mj3⟩
 refine zR 2 ?_
 refine zP (X := Bool) (fun x => [(129, .bool x)]) [0, 1, 10, 11] (fun x => x = true → i2 ≤ j2) ?_ ?_
 ·skip
  refine zY 0 [1, 4, 7, 10, 13, 16, 19, 25, 28, 31, 23, 35, 36, 40, 43] ?_
  refine zG' 4 118 ?_ ?_
  ·intro g8
   (try simp only [dcs, ne_eq] at g8)
   refine zJ 6 ?_
   refine zJ 0 ?_
   refine zR 4 ?_
   refine zz false (fun q => nomatch q) (by decide)
  intro g8
  (try simp only [dcs, ne_eq] at g8)
  refine zIn 2 j2 ?_
  refine zIn 2 a ?_
  refine zLm 0 j2 zs ?_
  refine zLm 0 a zs ?_
  refine zC3 0 (lessU _ _) ?_
  refine zR 3 ?_
  refine go_back _ zA zM zM (fun _ => by omega) (by decide)
 intro cr hcr
 refine zB 0 ?_ ?_
 ·intro g9
  (try simp only [dcs, ne_eq] at g9)
  have g9' := hcr g9
  refine zR 5 ?_
  refine go_i64n 131 (j2 - 1) rfl ?_
  refine zR 3 ?_
  refine zz (j2 - 1) (⟨by omega, by omega, by omega⟩) (by omega)
 intro g9
 (try simp only [dcs, ne_eq] at g9)
 refine zD 8 ?_ ?_
 ·intro g10
  refine zY 2 [1, 4, 7, 10, 13, 16, 19, 25, 28, 31, 23, 35, 37, 39, 43, 45] ?_
  refine zIn 6 a ?_
  refine zIn 2 j2 ?_
  refine zLm 0 a zs ?_
  refine zLm 0 j2 zs ?_
  refine zIn 0 j2 ?_
  refine zSE 0 (tInt .u32) zs j2 (gt0 zs a) ent_int ?_
  refine zIn 0 a ?_
  refine zSE 0 (tInt .u32) (zs.set j2 (gt0 zs a)) a (gt0 zs j2) ent_int ?_
  refine zE 1 [11] ?_
  refine zT 6 rfl ⟨sw zs j2 a, j2, false, (sw_perm hq (by omega) (by omega)), by omega, rfl, rfl, rfl⟩
 intro g10
 refine zY 2 [1, 4, 7, 10, 13, 16, 19, 25, 28, 31, 23, 35, 37, 39, 43, 45] ?_
 refine zIn 6 j2 ?_
 refine zIn 2 i2 ?_
 refine zLm 0 j2 zs ?_
 refine zLm 0 i2 zs ?_
 refine zIn 0 i2 ?_
 refine zSE 0 (tInt .u32) zs i2 (gt0 zs j2) ent_int ?_
 refine zIn 0 j2 ?_
 refine zSE 0 (tInt .u32) (zs.set i2 (gt0 zs j2)) j2 (gt0 zs i2) ent_int ?_
 refine zE 1 [0, 1, 10, 11] ?_
 refine zR 4 ?_
 refine go_i64n 150 (i2 + 1) rfl ?_
 refine zR 5 ?_
 refine go_i64n 152 (j2 - 1) rfl ?_
 refine zR 3 ?_
 refine zz (i2 + 1, j2 - 1, sw zs i2 j2) ⟨by show a + 1 ≤ i2 + 1; omega, by show i2 + 1 ≤ b; omega, by show i2 + 1 ≤ j2 - 1 + 2; omega, by show a ≤ j2 - 1; omega, by show j2 - 1 < b; omega, (sw_perm hq (by omega) (by omega))⟩ (by show j2 - 1 + 2 - (i2 + 1) < j1 + 2 - i1; omega)
theorem partEqU (bL : Nat) (c : Nat) (l : List Int) (n : Nat) (hl : l.length = n) (a b : Nat) (hab : a < b) (hb : b ≤ n) (hn : n ≤ 1000000000) (pv : Nat) (hpv : a ≤ pv ∧ pv < b) :
    Spec Tryz.prog 173 #[.slice (some ⟨bL, 0, none⟩) n c, .int .i64 (a : Int), .int .i64 (b : Int), .int .i64 (pv : Int)] [] [ol (tInt .u32) 26 (some ⟨bL, 0, none⟩) c l] (fun v Ps' Os' => ∃ (m : List Int) (p : Nat), m.Perm l ∧ (a < p ∧ p ≤ b) ∧ v = .int .i64 (p : Int) ∧ Ps' = [] ∧ Os' = [ol (tInt .u32) 26 (some ⟨bL, 0, none⟩) c m]) := by
 refine zSp _ Tryz.func173 Tryz.ntmps173 (fun _ _ _ => ?_)
 refine zY 5 [1, 4, 7, 10, 13, 16, 19, 25, 28, 31, 23, 35, 37, 39, 43, 45] ?_
 refine zIn 6 pv ?_
 refine zIn 2 a ?_
 refine zLm 0 pv l ?_
 refine zLm 0 a l ?_
 refine zIn 0 a ?_
 refine zSE 0 (tInt .u32) l a (gt0 l pv) ent_int ?_
 refine zIn 0 pv ?_
 refine zSE 0 (tInt .u32) (l.set a (gt0 l pv)) pv (gt0 l a) ent_int ?_
 refine zR 1 ?_
 obtain ⟨xs, hxse⟩ : ∃ xs, xs = sw l a pv := ⟨_, rfl⟩
 refine go_same (B := ol (tInt .u32) 26 (some ⟨bL, 0, none⟩) c xs) .here (by rw [hxse]; rfl) ?_
 have hp : xs.Perm l := by rw [hxse]; exact (sw_perm (List.Perm.refl l) (by omega) (by omega))
 have hxsl := hp.length_eq
 refine zE 0 [0, 1, 2] ?_
 refine zR 4 ?_
 refine go_i64n 26 (a + 1) rfl ?_
 refine zR 2 ?_
 refine go_i64n 28 (b - 1) rfl ?_
 refine zR 5 ?_
 refine zO (X := Nat × Nat × List Int) (fun x => [(9, .int .i64 (x.1 : Int)), (10, .int .i64 (x.2.1 : Int))]) [0, 1] (fun x => [ol (tInt .u32) 26 (some ⟨bL, 0, none⟩) c x.2.2]) (fun x => a + 1 ≤ x.1 ∧ x.1 ≤ b ∧ x.1 ≤ x.2.1 + 2 ∧ a ≤ x.2.1 ∧ x.2.1 < b ∧ x.2.2.Perm l) (fun x => x.2.1 + 2 - x.1) (a + 1, b - 1, xs) ⟨by show a + 1 ≤ a + 1; omega, by show a + 1 ≤ b; omega, by show a + 1 ≤ b - 1 + 2; omega, by show a ≤ b - 1; omega, by show b - 1 < b; omega, hp⟩ ?_
 intro ⟨i1, j1, zs⟩ ⟨ki1, ki2, ki3, kj1, kj2, hq⟩
 simp only at ki1 ki2 ki3 kj1 kj2 hq ⊢
 have hzl := hq.length_eq
 refine zR 3 ?_
 refine zO (X := Nat) (fun x => [(9, .int .i64 (x : Int))]) [0, 1, 10] (fun _ => []) (fun x => i1 ≤ x ∧ x ≤ b ∧ x ≤ j1 + 2) (fun x => b - x) i1 ⟨by omega, by omega, by omega⟩ ?_
 intro i2 ⟨mi1, mi2, mi3⟩
 refine zR 2 ?_
 refine zP (X := Bool) (fun x => [(43, .bool x)]) [0, 1, 9, 10] (fun x => x = true → i2 ≤ j1) ?_ ?_
 ·skip
  refine zY 0 [1, 4, 7, 10, 13, 16, 19, 25, 28, 31, 23, 35, 36, 40, 43] ?_
  refine zG' 4 32 ?_ ?_
  ·intro g6
   (try simp only [dcs, ne_eq] at g6)
   refine zJ 6 ?_
   refine zJ 0 ?_
   refine zR 4 ?_
   refine zz false (fun q => nomatch q) (by decide)
  intro g6
  (try simp only [dcs, ne_eq] at g6)
  refine zIn 2 a ?_
  refine zIn 2 i2 ?_
  refine zLm 0 a zs ?_
  refine zLm 0 i2 zs ?_
  refine zC3 0 (lessU _ _) ?_
  refine zR 3 ?_
  refine go_back _ zA zM zM (fun _ => by omega) (by decide)
 intro cr hcr
 refine zB 0 ?_ ?_
 ·intro g7
  (try simp only [dcs, ne_eq] at g7)
  have g7' := hcr g7
  refine zR 5 ?_
  refine go_i64n 45 (i2 + 1) rfl ?_
  refine zR 3 ?_
  refine zz (i2 + 1) (⟨by omega, by omega, by omega⟩) (by omega)
 intro g7
 (try simp only [dcs, ne_eq] at g7)
 refine zR 3 ?_
 refine zO (X := Nat) (fun x => [(10, .int .i64 (x : Int))]) [0, 1, 9] (fun _ => []) (fun x => a ≤ x ∧ x ≤ j1 ∧ i2 ≤ x + 2) (fun x => x) j1 ⟨by omega, by omega, by omega⟩ ?_
 intro j2 ⟨mj1, mj2, mj3⟩
 refine zR 2 ?_
 refine zP (X := Bool) (fun x => [(59, .bool x)]) [0, 1, 9, 10] (fun x => x = true → i2 ≤ j2) ?_ ?_
 ·skip
  refine zY 0 [1, 4, 7, 10, 13, 16, 19, 25, 28, 31, 23, 35, 36, 40] ?_
  refine zG' 4 49 ?_ ?_
  ·intro g8
   (try simp only [dcs, ne_eq] at g8)
   refine zJ 6 ?_
   refine zJ 0 ?_
   refine zR 3 ?_
   refine zz false (fun q => nomatch q) (by decide)
  intro g8
  (try simp only [dcs, ne_eq] at g8)
  refine zIn 2 a ?_
  refine zIn 2 j2 ?_
  refine zLm 0 a zs ?_
  refine zLm 0 j2 zs ?_
  refine zC3 0 (lessU _ _) ?_
  refine zR 2 ?_
  refine go_back _ zA zM zM (fun _ => by omega) (by decide)
 intro cr hcr
 refine zB 0 ?_ ?_
 ·intro g9
  (try simp only [dcs, ne_eq] at g9)
  have g9' := hcr g9
  refine zR 5 ?_
  refine go_i64n 61 (j2 - 1) rfl ?_
  refine zR 3 ?_
  refine zz (j2 - 1) (⟨by omega, by omega, by omega⟩) (by omega)
 intro g9
 (try simp only [dcs, ne_eq] at g9)
 refine zD 8 ?_ ?_
 ·intro g10
  refine zT 6 rfl ⟨zs, i2, hq, by omega, rfl, rfl, rfl⟩
 intro g10
 refine zY 2 [1, 4, 7, 10, 13, 16, 19, 25, 28, 31, 23, 35, 37, 39, 43, 45] ?_
 refine zIn 6 j2 ?_
 refine zIn 2 i2 ?_
 refine zLm 0 j2 zs ?_
 refine zLm 0 i2 zs ?_
 refine zIn 0 i2 ?_
 refine zSE 0 (tInt .u32) zs i2 (gt0 zs j2) ent_int ?_
 refine zIn 0 j2 ?_
 refine zSE 0 (tInt .u32) (zs.set i2 (gt0 zs j2)) j2 (gt0 zs i2) ent_int ?_
 refine zE 1 [0, 1, 9, 10] ?_
 refine zR 4 ?_
 refine go_i64n 80 (i2 + 1) rfl ?_
 refine zR 5 ?_
 refine go_i64n 82 (j2 - 1) rfl ?_
 refine zR 3 ?_
 refine zz (i2 + 1, j2 - 1, sw zs i2 j2) ⟨by show a + 1 ≤ i2 + 1; omega, by show i2 + 1 ≤ b; omega, by show i2 + 1 ≤ j2 - 1 + 2; omega, by show a ≤ j2 - 1; omega, by show j2 - 1 < b; omega, (sw_perm hq (by omega) (by omega))⟩ (by show j2 - 1 + 2 - (i2 + 1) < j1 + 2 - i1; omega)
theorem brkI (bL : Nat) (c : Nat) (l : List Int) (n : Nat) (hl : l.length = n) (a b : Nat) (hab : a < b) (hb : b ≤ n) (hn : n ≤ 1000000000) (h8 : 8 ≤ b - a) :
    Spec Tryz.prog 204 #[.slice (some ⟨bL, 0, none⟩) n c, .int .i64 (a : Int), .int .i64 (b : Int)] [] [ol (tInt .i64) 3 (some ⟨bL, 0, none⟩) c l] (fun v Ps' Os' => ∃ m, m.Perm l ∧ v = .tuple #[] ∧ Ps' = [] ∧ Os' = [ol (tInt .i64) 3 (some ⟨bL, 0, none⟩) c m]) := by
 refine zSp _ Tryz.func204 Tryz.ntmps204 (fun _ _ _ => ?_)
 refine zR 5 ?_
 refine go_i64n 13 (b - a) rfl ?_
 refine zD' 7 ?_ ?_
 ·intro g1
  exfalso; omega
 intro g1
 refine zR 4 ?_
 refine go_re 17 (.int .u64 ((b - a : Nat) : Int)) (by show some (Value.int _ _) = _; rw [wrap_u64 (by omega)]) ?_
 refine zW 0 ?_
 intro bR
 refine zS 0 ?_
 refine zC 4 (nextPow (b - a) (by omega) (by omega)) ?_
 rintro _ _ _ ⟨mz, hm0, hm1, rfl, rfl, rfl⟩
 refine zR 7 ?_
 refine go_re 22 (.int .i64 (IntKind.i64.wrap ((((b - a) / 4) : Nat) : Int))) rfl ?_
 refine go_i64n 22 ((b - a) / 4) rfl ?_
 refine zR 1 ?_
 refine go_i64n 23 (((b - a) / 4) * 2) rfl ?_
 refine zR 1 ?_
 refine go_i64n 24 (a + (((b - a) / 4) * 2)) rfl ?_
 refine zR 1 ?_
 refine go_i64n 25 ((a + (((b - a) / 4) * 2)) - 1) rfl ?_
 refine zE 2 [0, 1, 6, 7, 8, 9] ?_
 refine zR 1 ?_
 refine go_loop' (X := Nat × List Int × Int) (fun x => [(9, .int .i64 (x.1 : Int))]) [(0, _), (1, _), (6, _), (7, _), (8, _)] (fun x => [pt bR 267 [.int .u64 x.2.2], ol (tInt .i64) 3 (some ⟨bL, 0, none⟩) c x.2.1]) (fun x => a ≤ x.1 ∧ x.2.1.Perm l) (fun x => a + (b - a) / 4 * 2 + 2 - x.1) ((a + (b - a) / 4 * 2 - 1, l, _)) zA zM ⟨by show a ≤ _; omega, .refl _⟩ ?_
 intro ⟨ix, xs, z⟩ ⟨hi, hp⟩
 simp only at hi hp ⊢
 have hxl := hp.length_eq
 refine zR 7 ?_
 refine go_re 29 (.int .i64 (IntKind.i64.wrap ((((b - a) / 4) : Nat) : Int))) rfl ?_
 refine go_i64n 29 ((b - a) / 4) rfl ?_
 refine zR 1 ?_
 refine go_i64n 30 (((b - a) / 4) * 2) rfl ?_
 refine zR 1 ?_
 refine go_i64n 31 (a + (((b - a) / 4) * 2)) rfl ?_
 refine zR 1 ?_
 refine go_i64n 32 ((a + (((b - a) / 4) * 2)) + 1) rfl ?_
 refine zD' 2 ?_ ?_
 ·intro g2
  refine zT 1 rfl ⟨xs, hp, rfl, rfl, rfl⟩
 intro g2
 refine zC 5 (xorNext_ bR z) ?_
 rintro _ _ _ ⟨r, rfl, rfl, rfl⟩
 refine zR 2 ?_
 refine go_re 38 (.int .u64 ((mz : Int) - 1)) (by show some (Value.int _ _) = _; rw [wrap_u64 (by omega)]) ?_
 refine zR 1 ?_
 obtain ⟨w0, hw0, hw1⟩ : ∃ w0 : Nat, IntKind.u64.wrap ((BitVec.ofInt 64 r &&& BitVec.ofInt 64 ((mz : Int) - 1)).toNat : Int) = (w0 : Int) ∧ w0 < 2 * (b - a) := by
   have := and_le r ((mz : Int) - 1) (by omega) (by omega)
   exact ⟨(IntKind.u64.wrap ((BitVec.ofInt 64 r &&& BitVec.ofInt 64 ((mz : Int) - 1)).toNat : Int)).toNat, by omega, by omega⟩
 refine go_re 39 (.int .u64 (w0 : Int)) (by show some (Value.int .u64 (IntKind.u64.wrap ((BitVec.ofInt 64 r &&& BitVec.ofInt 64 ((mz : Int) - 1)).toNat : Int))) = _; rw [hw0]) ?_
 refine zR 1 ?_
 refine go_i64n 40 w0 rfl ?_
 refine zE 2 [0, 1, 6, 7, 8, 9, 10] ?_
 refine zR 7 ?_
 refine zU (X := Nat) (fun x => [(10, .int .i64 (x : Int))]) [0, 1, 6, 7, 8, 9] (fun _ => []) ([]) (fun x => x < b - a) ?_ ?_
 ·skip
  refine zD' 0 ?_ ?_
  ·intro hq1
   refine zR 1 ?_
   refine zz w0 (by omega) (by decide)
  intro hq1
  refine zR 4 ?_
  refine go_i64n 46 (w0 - (b - a)) rfl ?_
  refine zR 2 ?_
  refine zz (w0 - (b - a)) (by omega) (by decide)
 intro w hw
 refine zY 0 [1, 4, 7, 10, 13, 16, 19, 22, 25, 28, 31, 37, 40, 43, 35, 47, 49, 51, 55, 57] ?_
 refine zR 6 ?_
 refine go_i64n 52 (a + w) rfl ?_
 refine zR 4 ?_
 refine go_i64n 56 (a + w) rfl ?_
 refine zIn 0 (a + w) ?_
 refine zIn 2 ix ?_
 refine zLm 0 (a + w) xs ?_
 refine zLm 0 ix xs ?_
 refine zIn 0 ix ?_
 refine zSE 0 (tInt .i64) xs ix (gt0 xs (a + w)) ent_int ?_
 refine zIn 0 (a + w) ?_
 refine zSE 0 (tInt .i64) (xs.set ix (gt0 xs (a + w))) (a + w) (gt0 xs ix) ent_int ?_
 refine zE 1 [0, 1, 6, 7, 8, 9] ?_
 refine zR 4 ?_
 refine go_i64n 35 (ix + 1) rfl ?_
 refine zR 2 ?_
 refine zz (ix + 1, sw xs ix (a + w), r) ⟨by show a ≤ ix + 1; omega, (sw_perm hp (by omega) (by omega))⟩ (by show _ - (ix + 1) < _ - ix; omega)
theorem order2I (bL c : Nat) (l : List Int) (n : Nat) (hl : l.length = n) (bS : Nat) (z : Int) (a b : Nat) (ha : a < n) (hb : b < n) :
    Spec Tryz.prog 214 #[.slice (some ⟨bL, 0, none⟩) n c, .int .i64 (a : Int), .int .i64 (b : Int), .pointer (some ⟨bS, 0, none⟩)] [] [ol (tInt .i64) 3 (some ⟨bL, 0, none⟩) c l, pt bS 3 [.int .i64 z]] (fun v Ps' Os' => ∃ (p q : Nat) (z' : Int), ((p = a ∧ q = b) ∨ (p = b ∧ q = a)) ∧ v = .tuple #[.int .i64 (p : Int), .int .i64 (q : Int)] ∧ Ps' = [] ∧ Os' = [ol (tInt .i64) 3 (some ⟨bL, 0, none⟩) c l, pt bS 3 [.int .i64 z']]) := by
 refine zSp _ Tryz.func214 Tryz.ntmps214 (fun _ _ _ => ?_)
 refine zY 7 [1, 4, 7, 13, 16, 19, 11, 23, 24] ?_
 refine zIn 2 b ?_
 refine zIn 2 a ?_
 refine zLm 0 b l ?_
 refine zLm 0 a l ?_
 refine zC3 0 (lessI _ _) ?_
 refine zB' 1 ?_ ?_
 ·intro g1
  (try simp only [dcs, ne_eq] at g1)
  refine zE 8 [8, 9] ?_
  refine zT 0 rfl ⟨a, b, _, .inl ⟨rfl, rfl⟩, rfl, rfl, rfl⟩
 intro g1
 (try simp only [dcs, ne_eq] at g1)
 refine zL 4 ?_
 refine zS 2 ?_
 refine zE 1 [1, 2] ?_
 refine zT 7 rfl ⟨b, a, _, .inr ⟨rfl, rfl⟩, rfl, rfl, rfl⟩
theorem medianI (bL c : Nat) (l : List Int) (n : Nat) (hl : l.length = n) (bS : Nat) (z : Int) (a b d : Nat) (ha : a < n) (hb : b < n) (hd : d < n) :
    Spec Tryz.prog 213 #[.slice (some ⟨bL, 0, none⟩) n c, .int .i64 (a : Int), .int .i64 (b : Int), .int .i64 (d : Int), .pointer (some ⟨bS, 0, none⟩)] [] [ol (tInt .i64) 3 (some ⟨bL, 0, none⟩) c l, pt bS 3 [.int .i64 z]] (fun v Ps' Os' => ∃ (p : Nat) (z' : Int), (p = a ∨ p = b ∨ p = d) ∧ v = .int .i64 (p : Int) ∧ Ps' = [] ∧ Os' = [ol (tInt .i64) 3 (some ⟨bL, 0, none⟩) c l, pt bS 3 [.int .i64 z']]) := by
 refine zSp _ Tryz.func213 Tryz.ntmps213 (fun _ _ _ => ?_)
 refine zC 10 (order2I bL c l n hl bS z a b ha hb) ?_
 rintro _ _ _ ⟨p1, q1, z1, h1, rfl, rfl, rfl⟩
 refine zC 12 (order2I bL c l n hl bS z1 q1 d (by omega) hd) ?_
 rintro _ _ _ ⟨p2, q2, z2, h2, rfl, rfl, rfl⟩
 refine zE 6 [0, 1, 2, 4] ?_
 refine zC 6 (order2I bL c l n hl bS z2 p1 p2 (by omega) (by omega)) ?_
 rintro _ _ _ ⟨p3, q3, z3, h3, rfl, rfl, rfl⟩
 refine zE 11 [10] ?_
 refine zT 0 rfl ⟨q3, z3, by omega, rfl, rfl, rfl⟩
theorem medAdjI (bL c : Nat) (l : List Int) (n : Nat) (hl : l.length = n) (bS : Nat) (z : Int) (a : Nat) (ha : 1 ≤ a) (hb : a + 1 < n) (hn : n ≤ 1000000000) :
    Spec Tryz.prog 212 #[.slice (some ⟨bL, 0, none⟩) n c, .int .i64 (a : Int), .pointer (some ⟨bS, 0, none⟩)] [] [ol (tInt .i64) 3 (some ⟨bL, 0, none⟩) c l, pt bS 3 [.int .i64 z]] (fun v Ps' Os' => ∃ (p : Nat) (z' : Int), (p = a - 1 ∨ p = a ∨ p = a + 1) ∧ v = .int .i64 (p : Int) ∧ Ps' = [] ∧ Os' = [ol (tInt .i64) 3 (some ⟨bL, 0, none⟩) c l, pt bS 3 [.int .i64 z']]) := by
 refine zSp _ Tryz.func212 Tryz.ntmps212 (fun _ _ _ => ?_)
 refine zR 9 ?_
 refine go_i64n 9 (a - 1) rfl ?_
 refine zR 3 ?_
 refine go_i64n 12 (a + 1) rfl ?_
 refine zC 1 (medianI bL c l n hl bS z (a - 1) a (a + 1) (by omega) (by omega) (by omega)) ?_
 rintro _ _ _ ⟨p, z1, h1, rfl, rfl, rfl⟩
 refine zT 2 rfl ⟨p, z1, h1, rfl, rfl, rfl⟩
theorem chooseI (bL : Nat) (c : Nat) (l : List Int) (n : Nat) (hl : l.length = n) (a b : Nat) (hab : a < b) (hb : b ≤ n) (hn : n ≤ 1000000000) (h8 : 12 < b - a) :
    Spec Tryz.prog 205 #[.slice (some ⟨bL, 0, none⟩) n c, .int .i64 (a : Int), .int .i64 (b : Int)] [] [ol (tInt .i64) 3 (some ⟨bL, 0, none⟩) c l] (fun v Ps' Os' => ∃ (p : Nat) (h : Int), (a ≤ p ∧ p < b) ∧ v = .tuple #[.int .i64 (p : Int), .int .i64 h] ∧ Ps' = [] ∧ Os' = [ol (tInt .i64) 3 (some ⟨bL, 0, none⟩) c l]) := by
 refine zSp _ Tryz.func205 Tryz.ntmps205 (fun _ _ _ => ?_)
 refine zR 10 ?_
 refine go_i64n 15 (b - a) rfl ?_
 refine zW 4 ?_
 intro bS
 refine zR 6 ?_
 refine go_re 18 (.int .i64 (IntKind.i64.wrap ((((b - a) / 4) : Nat) : Int))) rfl ?_
 refine go_i64n 18 ((b - a) / 4) rfl ?_
 refine zR 1 ?_
 refine go_i64n 19 (((b - a) / 4) * 1) rfl ?_
 refine zR 1 ?_
 refine go_i64n 20 (a + (((b - a) / 4) * 1)) rfl ?_
 refine zR 7 ?_
 refine go_re 23 (.int .i64 (IntKind.i64.wrap ((((b - a) / 4) : Nat) : Int))) rfl ?_
 refine go_i64n 23 ((b - a) / 4) rfl ?_
 refine zR 1 ?_
 refine go_i64n 24 (((b - a) / 4) * 2) rfl ?_
 refine zR 1 ?_
 refine go_i64n 25 (a + (((b - a) / 4) * 2)) rfl ?_
 refine zE 2 [0, 1, 8, 9, 10, 11] ?_
 refine zR 5 ?_
 refine go_re 28 (.int .i64 (IntKind.i64.wrap ((((b - a) / 4) : Nat) : Int))) rfl ?_
 refine go_i64n 28 ((b - a) / 4) rfl ?_
 refine zR 1 ?_
 refine go_i64n 29 (((b - a) / 4) * 3) rfl ?_
 refine zR 1 ?_
 refine go_i64n 30 (a + (((b - a) / 4) * 3)) rfl ?_
 refine zD' 8 ?_ ?_
 ·intro g1
  exfalso; omega
 intro g1
 refine zR 6 ?_
 refine zU (X := Nat × Nat × Nat × Int) (fun x => [(10, .int .i64 (x.1 : Int)), (11, .int .i64 (x.2.1 : Int)), (12, .int .i64 (x.2.2.1 : Int))]) [0, 9] (fun x => [pt bS 3 [.int .i64 x.2.2.2], ol (tInt .i64) 3 (some ⟨bL, 0, none⟩) c l]) ([pt bS 3 [.int .i64 0], ol (tInt .i64) 3 (some ⟨bL, 0, none⟩) c l]) (fun x => (a ≤ x.1 ∧ x.1 < b) ∧ (a ≤ x.2.1 ∧ x.2.1 < b) ∧ (a ≤ x.2.2.1 ∧ x.2.2.1 < b)) ?_ ?_
 ·skip
  refine zD' 0 ?_ ?_
  ·intro g2
   skip
   refine zR 1 ?_
   refine zz ((a + (b - a) / 4 * 1), (a + (b - a) / 4 * 2), (a + (b - a) / 4 * 3), 0) ⟨by show a ≤ (a + (b - a) / 4 * 1) ∧ (a + (b - a) / 4 * 1) < b; omega, by show a ≤ (a + (b - a) / 4 * 2) ∧ (a + (b - a) / 4 * 2) < b; omega, by show a ≤ (a + (b - a) / 4 * 3) ∧ (a + (b - a) / 4 * 3) < b; omega⟩ (by decide)
  intro g2
  refine zC 4 (medAdjI bL c l n hl bS 0 (a + (b - a) / 4 * 1) (by omega) (by omega) hn) ?_
  rintro _ _ _ ⟨p1, z1, hp1, rfl, rfl, rfl⟩
  refine zE 2 [0, 9, 10, 11, 12] ?_
  refine zC 4 (medAdjI bL c l n hl bS z1 (a + (b - a) / 4 * 2) (by omega) (by omega) hn) ?_
  rintro _ _ _ ⟨p2, z2, hp2, rfl, rfl, rfl⟩
  refine zC 5 (medAdjI bL c l n hl bS z2 (a + (b - a) / 4 * 3) (by omega) (by omega) hn) ?_
  rintro _ _ _ ⟨p3, z3, hp3, rfl, rfl, rfl⟩
  refine zR 2 ?_
  refine zz (p1, p2, p3, z3) ⟨by show a ≤ p1 ∧ p1 < b; omega, by show a ≤ p2 ∧ p2 < b; omega, by show a ≤ p3 ∧ p3 < b; omega⟩ (by decide)
 intro ⟨p1, p2, p3, z3⟩ ⟨hp1, hp2, hp3⟩
 simp only at hp1 hp2 hp3 ⊢
 refine zC 5 (medianI bL c l n hl bS z3 p1 p2 p3 (by omega) (by omega) (by omega)) ?_
 rintro _ _ _ ⟨p4, z4, hp4, rfl, rfl, rfl⟩
 refine zL 4 ?_
 refine zB 7 ?_ ?_
 ·intro hq1
  (try simp only [dcs, ne_eq] at hq1)
  refine zE 6 [6, 7] ?_
  refine zT 0 rfl ⟨p4, _, by omega, rfl, rfl, rfl⟩
 intro hq1
 (try simp only [dcs, ne_eq] at hq1)
 refine zE 5 [11, 54] ?_
 refine zB 0 ?_ ?_
 ·intro hq2
  (try simp only [dcs, ne_eq] at hq2)
  refine zT 6 rfl ⟨p4, _, by omega, rfl, rfl, rfl⟩
 intro hq2
 (try simp only [dcs, ne_eq] at hq2)
 refine zT 6 rfl ⟨p4, _, by omega, rfl, rfl, rfl⟩
theorem partI (bL : Nat) (c : Nat) (l : List Int) (n : Nat) (hl : l.length = n) (a b : Nat) (hab : a < b) (hb : b ≤ n) (hn : n ≤ 1000000000) (pv : Nat) (hpv : a ≤ pv ∧ pv < b) :
    Spec Tryz.prog 210 #[.slice (some ⟨bL, 0, none⟩) n c, .int .i64 (a : Int), .int .i64 (b : Int), .int .i64 (pv : Int)] [] [ol (tInt .i64) 3 (some ⟨bL, 0, none⟩) c l] (fun v Ps' Os' => ∃ (m : List Int) (p : Nat) (q : Bool), m.Perm l ∧ (a ≤ p ∧ p < b) ∧ v = .tuple #[.int .i64 (p : Int), .bool q] ∧ Ps' = [] ∧ Os' = [ol (tInt .i64) 3 (some ⟨bL, 0, none⟩) c m]) := by
 refine zSp _ Tryz.func210 Tryz.ntmps210 (fun _ _ _ => ?_)
 refine zY 6 [1, 4, 7, 10, 13, 16, 19, 25, 28, 31, 23, 35, 37, 39, 43, 45] ?_
 refine zIn 6 pv ?_
 refine zIn 2 a ?_
 refine zLm 0 pv l ?_
 refine zLm 0 a l ?_
 refine zIn 0 a ?_
 refine zSE 0 (tInt .i64) l a (gt0 l pv) ent_int ?_
 refine zIn 0 pv ?_
 refine zSE 0 (tInt .i64) (l.set a (gt0 l pv)) pv (gt0 l a) ent_int ?_
 refine zR 1 ?_
 obtain ⟨xs, hxse⟩ : ∃ xs, xs = sw l a pv := ⟨_, rfl⟩
 refine go_same (B := ol (tInt .i64) 3 (some ⟨bL, 0, none⟩) c xs) .here (by rw [hxse]; rfl) ?_
 have hp : xs.Perm l := by rw [hxse]; exact (sw_perm (List.Perm.refl l) (by omega) (by omega))
 have hxsl := hp.length_eq
 refine zE 0 [0, 1, 2] ?_
 refine zR 4 ?_
 refine go_i64n 27 (a + 1) rfl ?_
 refine zR 2 ?_
 refine go_i64n 29 (b - 1) rfl ?_
 refine zR 5 ?_
 refine zO (X := Nat) (fun x => [(10, .int .i64 (x : Int))]) [0, 1, 11] (fun _ => []) (fun x => a + 1 ≤ x ∧ x ≤ b) (fun x => b - x) (a + 1) ⟨by omega, by omega⟩ ?_
 intro i ⟨hi1, hi2⟩
 refine zR 2 ?_
 refine zP (X := Bool) (fun x => [(43, .bool x)]) [0, 1, 10, 11] (fun x => x = true → i ≤ b - 1) ?_ ?_
 ·skip
  refine zY 0 [1, 4, 7, 10, 13, 16, 19, 25, 28, 31, 23, 35, 36, 40] ?_
  refine zG' 4 33 ?_ ?_
  ·intro g1
   (try simp only [dcs, ne_eq] at g1)
   refine zJ 6 ?_
   refine zJ 0 ?_
   refine zR 3 ?_
   refine zz false (fun q => nomatch q) (by decide)
  intro g1
  (try simp only [dcs, ne_eq] at g1)
  refine zIn 2 i ?_
  refine zIn 2 a ?_
  refine zLm 0 i xs ?_
  refine zLm 0 a xs ?_
  refine zC3 0 (lessI _ _) ?_
  refine zR 2 ?_
  refine go_back _ zA zM zM (fun _ => by omega) (by decide)
 intro cr hcr
 refine zB 0 ?_ ?_
 ·intro g2
  (try simp only [dcs, ne_eq] at g2)
  have g2' := hcr g2
  refine zR 5 ?_
  refine go_i64n 45 (i + 1) rfl ?_
  refine zR 3 ?_
  refine zz (i + 1) (⟨by omega, by omega⟩) (by omega)
 intro g2
 (try simp only [dcs, ne_eq] at g2)
 refine zR 3 ?_
 refine zO (X := Nat) (fun x => [(11, .int .i64 (x : Int))]) [0, 1, 10] (fun _ => []) (fun x => a ≤ x ∧ x < b ∧ i ≤ x + 1) (fun x => x) (b - 1) ⟨by omega, by omega, by omega⟩ ?_
 intro j ⟨hj1, hj2, hj3⟩
 refine zR 2 ?_
 refine zP (X := Bool) (fun x => [(60, .bool x)]) [0, 1, 10, 11] (fun x => x = true → i ≤ j) ?_ ?_
 ·skip
  refine zY 0 [1, 4, 7, 10, 13, 16, 19, 25, 28, 31, 23, 35, 36, 40, 43] ?_
  refine zG' 4 49 ?_ ?_
  ·intro g3
   (try simp only [dcs, ne_eq] at g3)
   refine zJ 6 ?_
   refine zJ 0 ?_
   refine zR 4 ?_
   refine zz false (fun q => nomatch q) (by decide)
  intro g3
  (try simp only [dcs, ne_eq] at g3)
  refine zIn 2 j ?_
  refine zIn 2 a ?_
  refine zLm 0 j xs ?_
  refine zLm 0 a xs ?_
  refine zC3 0 (lessI _ _) ?_
  refine zR 3 ?_
  refine go_back _ zA zM zM (fun _ => by omega) (by decide)
 intro cr hcr
 refine zB 0 ?_ ?_
 ·intro g4
  (try simp only [dcs, ne_eq] at g4)
  have g4' := hcr g4
  refine zR 5 ?_
  refine go_i64n 62 (j - 1) rfl ?_
  refine zR 3 ?_
  refine zz (j - 1) (⟨by omega, by omega, by omega⟩) (by omega)
 intro g4
 (try simp only [dcs, ne_eq] at g4)
 refine zD 8 ?_ ?_
 ·intro g5
  refine zY 1 [1, 4, 7, 10, 13, 16, 19, 25, 28, 31, 23, 35, 37, 39, 43, 45] ?_
  refine zIn 6 a ?_
  refine zIn 2 j ?_
  refine zLm 0 a xs ?_
  refine zLm 0 j xs ?_
  refine zIn 0 j ?_
  refine zSE 0 (tInt .i64) xs j (gt0 xs a) ent_int ?_
  refine zIn 0 a ?_
  refine zSE 0 (tInt .i64) (xs.set j (gt0 xs a)) a (gt0 xs j) ent_int ?_
  refine zE 1 [11] ?_
  refine zT 6 rfl ⟨sw xs j a, j, true, (sw_perm hp (by omega) (by omega)), by omega, rfl, rfl, rfl⟩
 intro g5
 refine zY 2 [1, 4, 7, 10, 13, 16, 19, 25, 28, 31, 23, 35, 37, 39, 43, 45] ?_
 refine zIn 6 j ?_
 refine zIn 2 i ?_
 refine zLm 0 j xs ?_
 refine zLm 0 i xs ?_
 refine zIn 0 i ?_
 refine zSE 0 (tInt .i64) xs i (gt0 xs j) ent_int ?_
 refine zIn 0 j ?_
 refine zSE 0 (tInt .i64) (xs.set i (gt0 xs j)) j (gt0 xs i) ent_int ?_
 refine zR 1 ?_
 obtain ⟨ys, hyse⟩ : ∃ ys, ys = sw xs i j := ⟨_, rfl⟩
 refine go_same (B := ol (tInt .i64) 3 (some ⟨bL, 0, none⟩) c ys) .here (by rw [hyse]; rfl) ?_
 have hp' : ys.Perm l := by rw [hyse]; exact (sw_perm hp (by omega) (by omega))
 have hysl := hp'.length_eq
 refine zE 0 [0, 1, 10, 11] ?_
 refine zR 4 ?_
 refine go_i64n 96 (i + 1) rfl ?_
 refine zR 6 ?_
 refine go_i64n 98 (j - 1) rfl ?_
 refine zR 4 ?_
 refine zO (X := Nat × Nat × List Int) (fun x => [(10, .int .i64 (x.1 : Int)), (11, .int .i64 (x.2.1 : Int))]) [0, 1] (fun x => [ol (tInt .i64) 3 (some ⟨bL, 0, none⟩) c x.2.2]) (fun x => a + 1 ≤ x.1 ∧ x.1 ≤ b ∧ x.1 ≤ x.2.1 + 2 ∧ a ≤ x.2.1 ∧ x.2.1 < b ∧ x.2.2.Perm l) (fun x => x.2.1 + 2 - x.1) (i + 1, j - 1, ys) ⟨by show a + 1 ≤ i + 1; omega, by show i + 1 ≤ b; omega, by show i + 1 ≤ j - 1 + 2; omega, by show a ≤ j - 1; omega, by show j - 1 < b; omega, hp'⟩ ?_
 intro ⟨i1, j1, zs⟩ ⟨ki1, ki2, ki3, kj1, kj2, hq⟩
 simp only at ki1 ki2 ki3 kj1 kj2 hq ⊢
 have hzl := hq.length_eq
 refine zR 3 ?_
 refine zO (X := Nat) (fun x => [(10, .int .i64 (x : Int))]) [0, 1, 11] (fun _ => []) (fun x => i1 ≤ x ∧ x ≤ b ∧ x ≤ j1 + 2) (fun x => b - x) i1 ⟨by omega, by omega, by omega⟩ ?_
 intro i2 ⟨mi1, mi2, mi3⟩
 refine zR 2 ?_
 refine zP (X := Bool) (fun x => [(112, .bool x)]) [0, 1, 10, 11] (fun x => x = true → i2 ≤ j1) ?_ ?_
 ·skip
  refine zY 0 [1, 4, 7, 10, 13, 16, 19, 25, 28, 31, 23, 35, 36, 40] ?_
  refine zG' 4 102 ?_ ?_
  ·intro g6
   (try simp only [dcs, ne_eq] at g6)
   refine zJ 6 ?_
   refine zJ 0 ?_
   refine zR 3 ?_
   refine zz false (fun q => nomatch q) (by decide)
  intro g6
  (try simp only [dcs, ne_eq] at g6)
  refine zIn 2 i2 ?_
  refine zIn 2 a ?_
  refine zLm 0 i2 zs ?_
  refine zLm 0 a zs ?_
  refine zC3 0 (lessI _ _) ?_
  refine zR 2 ?_
  refine go_back _ zA zM zM (fun _ => by omega) (by decide)
 intro cr hcr
 refine zB 0 ?_ ?_
 ·intro g7
  (try simp only [dcs, ne_eq] at g7)
  have g7' := hcr g7
  refine zR 5 ?_
  refine go_i64n 114 (i2 + 1) rfl ?_
  refine zR 3 ?_
  refine zz (i2 + 1) (⟨by omega, by omega, by omega⟩) (by omega)
 intro g7
 (try simp only [dcs, ne_eq] at g7)
 refine zR 3 ?_
 refine zO (X := Nat) (fun x => [(11, .int .i64 (x : Int))]) [0, 1, 10] (fun _ => []) (fun x => a ≤ x ∧ x ≤ j1 ∧ i2 ≤ x + 2) (fun x => x) j1 ⟨by omega, by omega, by omega⟩ ?_
 intro j2 ⟨mj1, mj2, mj3⟩
 refine zR 2 ?_
 refine zP (X := Bool) (fun x => [(129, .bool x)]) [0, 1, 10, 11] (fun x => x = true → i2 ≤ j2) ?_ ?_
 ·skip
  refine zY 0 [1, 4, 7, 10, 13, 16, 19, 25, 28, 31, 23, 35, 36, 40, 43] ?_
  refine zG' 4 118 ?_ ?_
  ·intro g8
   (try simp only [dcs, ne_eq] at g8)
   refine zJ 6 ?_
   refine zJ 0 ?_
   refine zR 4 ?_
   refine zz false (fun q => nomatch q) (by decide)
  intro g8
  (try simp only [dcs, ne_eq] at g8)
  refine zIn 2 j2 ?_
  refine zIn 2 a ?_
  refine zLm 0 j2 zs ?_
  refine zLm 0 a zs ?_
  refine zC3 0 (lessI _ _) ?_
  refine zR 3 ?_
  refine go_back _ zA zM zM (fun _ => by omega) (by decide)
 intro cr hcr
 refine zB 0 ?_ ?_
 ·intro g9
  (try simp only [dcs, ne_eq] at g9)
  have g9' := hcr g9
  refine zR 5 ?_
  refine go_i64n 131 (j2 - 1) rfl ?_
  refine zR 3 ?_
  refine zz (j2 - 1) (⟨by omega, by omega, by omega⟩) (by omega)
 intro g9
 (try simp only [dcs, ne_eq] at g9)
 refine zD 8 ?_ ?_
 ·intro g10
  refine zY 2 [1, 4, 7, 10, 13, 16, 19, 25, 28, 31, 23, 35, 37, 39, 43, 45] ?_
  refine zIn 6 a ?_
  refine zIn 2 j2 ?_
  refine zLm 0 a zs ?_
  refine zLm 0 j2 zs ?_
  refine zIn 0 j2 ?_
  refine zSE 0 (tInt .i64) zs j2 (gt0 zs a) ent_int ?_
  refine zIn 0 a ?_
  refine zSE 0 (tInt .i64) (zs.set j2 (gt0 zs a)) a (gt0 zs j2) ent_int ?_
  refine zE 1 [11] ?_
  refine zT 6 rfl ⟨sw zs j2 a, j2, false, (sw_perm hq (by omega) (by omega)), by omega, rfl, rfl, rfl⟩
 intro g10
 refine zY 2 [1, 4, 7, 10, 13, 16, 19, 25, 28, 31, 23, 35, 37, 39, 43, 45] ?_
 refine zIn 6 j2 ?_
 refine zIn 2 i2 ?_
 refine zLm 0 j2 zs ?_
 refine zLm 0 i2 zs ?_
 refine zIn 0 i2 ?_
 refine zSE 0 (tInt .i64) zs i2 (gt0 zs j2) ent_int ?_
 refine zIn 0 j2 ?_
 refine zSE 0 (tInt .i64) (zs.set i2 (gt0 zs j2)) j2 (gt0 zs i2) ent_int ?_
 refine zE 1 [0, 1, 10, 11] ?_
 refine zR 4 ?_
 refine go_i64n 150 (i2 + 1) rfl ?_
 refine zR 5 ?_
 refine go_i64n 152 (j2 - 1) rfl ?_
 refine zR 3 ?_
 refine zz (i2 + 1, j2 - 1, sw zs i2 j2) ⟨by show a + 1 ≤ i2 + 1; omega, by show i2 + 1 ≤ b; omega, by show i2 + 1 ≤ j2 - 1 + 2; omega, by show a ≤ j2 - 1; omega, by show j2 - 1 < b; omega, (sw_perm hq (by omega) (by omega))⟩ (by show j2 - 1 + 2 - (i2 + 1) < j1 + 2 - i1; omega)
theorem partEqI (bL : Nat) (c : Nat) (l : List Int) (n : Nat) (hl : l.length = n) (a b : Nat) (hab : a < b) (hb : b ≤ n) (hn : n ≤ 1000000000) (pv : Nat) (hpv : a ≤ pv ∧ pv < b) :
    Spec Tryz.prog 209 #[.slice (some ⟨bL, 0, none⟩) n c, .int .i64 (a : Int), .int .i64 (b : Int), .int .i64 (pv : Int)] [] [ol (tInt .i64) 3 (some ⟨bL, 0, none⟩) c l] (fun v Ps' Os' => ∃ (m : List Int) (p : Nat), m.Perm l ∧ (a < p ∧ p ≤ b) ∧ v = .int .i64 (p : Int) ∧ Ps' = [] ∧ Os' = [ol (tInt .i64) 3 (some ⟨bL, 0, none⟩) c m]) := by
 refine zSp _ Tryz.func209 Tryz.ntmps209 (fun _ _ _ => ?_)
 refine zY 5 [1, 4, 7, 10, 13, 16, 19, 25, 28, 31, 23, 35, 37, 39, 43, 45] ?_
 refine zIn 6 pv ?_
 refine zIn 2 a ?_
 refine zLm 0 pv l ?_
 refine zLm 0 a l ?_
 refine zIn 0 a ?_
 refine zSE 0 (tInt .i64) l a (gt0 l pv) ent_int ?_
 refine zIn 0 pv ?_
 refine zSE 0 (tInt .i64) (l.set a (gt0 l pv)) pv (gt0 l a) ent_int ?_
 refine zR 1 ?_
 obtain ⟨xs, hxse⟩ : ∃ xs, xs = sw l a pv := ⟨_, rfl⟩
 refine go_same (B := ol (tInt .i64) 3 (some ⟨bL, 0, none⟩) c xs) .here (by rw [hxse]; rfl) ?_
 have hp : xs.Perm l := by rw [hxse]; exact (sw_perm (List.Perm.refl l) (by omega) (by omega))
 have hxsl := hp.length_eq
 refine zE 0 [0, 1, 2] ?_
 refine zR 4 ?_
 refine go_i64n 26 (a + 1) rfl ?_
 refine zR 2 ?_
 refine go_i64n 28 (b - 1) rfl ?_
 refine zR 5 ?_
 refine zO (X := Nat × Nat × List Int) (fun x => [(9, .int .i64 (x.1 : Int)), (10, .int .i64 (x.2.1 : Int))]) [0, 1] (fun x => [ol (tInt .i64) 3 (some ⟨bL, 0, none⟩) c x.2.2]) (fun x => a + 1 ≤ x.1 ∧ x.1 ≤ b ∧ x.1 ≤ x.2.1 + 2 ∧ a ≤ x.2.1 ∧ x.2.1 < b ∧ x.2.2.Perm l) (fun x => x.2.1 + 2 - x.1) (a + 1, b - 1, xs) ⟨by show a + 1 ≤ a + 1; omega, by show a + 1 ≤ b; omega, by show a + 1 ≤ b - 1 + 2; omega, by show a ≤ b - 1; omega, by show b - 1 < b; omega, hp⟩ ?_
 intro ⟨i1, j1, zs⟩ ⟨ki1, ki2, ki3, kj1, kj2, hq⟩
 simp only at ki1 ki2 ki3 kj1 kj2 hq ⊢
 have hzl := hq.length_eq
 refine zR 3 ?_
 refine zO (X := Nat) (fun x => [(9, .int .i64 (x : Int))]) [0, 1, 10] (fun _ => []) (fun x => i1 ≤ x ∧ x ≤ b ∧ x ≤ j1 + 2) (fun x => b - x) i1 ⟨by omega, by omega, by omega⟩ ?_
 intro i2 ⟨mi1, mi2, mi3⟩
 refine zR 2 ?_
 refine zP (X := Bool) (fun x => [(43, .bool x)]) [0, 1, 9, 10] (fun x => x = true → i2 ≤ j1) ?_ ?_
 ·skip
  refine zY 0 [1, 4, 7, 10, 13, 16, 19, 25, 28, 31, 23, 35, 36, 40, 43] ?_
  refine zG' 4 32 ?_ ?_
  ·intro g6
   (try simp only [dcs, ne_eq] at g6)
   refine zJ 6 ?_
   refine zJ 0 ?_
   refine zR 4 ?_
   refine zz false (fun q => nomatch q) (by decide)
  intro g6
  (try simp only [dcs, ne_eq] at g6)
  refine zIn 2 a ?_
  refine zIn 2 i2 ?_
  refine zLm 0 a zs ?_
  refine zLm 0 i2 zs ?_
  refine zC3 0 (lessI _ _) ?_
  refine zR 3 ?_
  refine go_back _ zA zM zM (fun _ => by omega) (by decide)
 intro cr hcr
 refine zB 0 ?_ ?_
 ·intro g7
  (try simp only [dcs, ne_eq] at g7)
  have g7' := hcr g7
  refine zR 5 ?_
  refine go_i64n 45 (i2 + 1) rfl ?_
  refine zR 3 ?_
  refine zz (i2 + 1) (⟨by omega, by omega, by omega⟩) (by omega)
 intro g7
 (try simp only [dcs, ne_eq] at g7)
 refine zR 3 ?_
 refine zO (X := Nat) (fun x => [(10, .int .i64 (x : Int))]) [0, 1, 9] (fun _ => []) (fun x => a ≤ x ∧ x ≤ j1 ∧ i2 ≤ x + 2) (fun x => x) j1 ⟨by omega, by omega, by omega⟩ ?_
 intro j2 ⟨mj1, mj2, mj3⟩
 refine zR 2 ?_
 refine zP (X := Bool) (fun x => [(59, .bool x)]) [0, 1, 9, 10] (fun x => x = true → i2 ≤ j2) ?_ ?_
 ·skip
  refine zY 0 [1, 4, 7, 10, 13, 16, 19, 25, 28, 31, 23, 35, 36, 40] ?_
  refine zG' 4 49 ?_ ?_
  ·intro g8
   (try simp only [dcs, ne_eq] at g8)
   refine zJ 6 ?_
   refine zJ 0 ?_
   refine zR 3 ?_
   refine zz false (fun q => nomatch q) (by decide)
  intro g8
  (try simp only [dcs, ne_eq] at g8)
  refine zIn 2 a ?_
  refine zIn 2 j2 ?_
  refine zLm 0 a zs ?_
  refine zLm 0 j2 zs ?_
  refine zC3 0 (lessI _ _) ?_
  refine zR 2 ?_
  refine go_back _ zA zM zM (fun _ => by omega) (by decide)
 intro cr hcr
 refine zB 0 ?_ ?_
 ·intro g9
  (try simp only [dcs, ne_eq] at g9)
  have g9' := hcr g9
  refine zR 5 ?_
  refine go_i64n 61 (j2 - 1) rfl ?_
  refine zR 3 ?_
  refine zz (j2 - 1) (⟨by omega, by omega, by omega⟩) (by omega)
 intro g9
 (try simp only [dcs, ne_eq] at g9)
 refine zD 8 ?_ ?_
 ·intro g10
  refine zT 6 rfl ⟨zs, i2, hq, by omega, rfl, rfl, rfl⟩
 intro g10
 refine zY 2 [1, 4, 7, 10, 13, 16, 19, 25, 28, 31, 23, 35, 37, 39, 43, 45] ?_
 refine zIn 6 j2 ?_
 refine zIn 2 i2 ?_
 refine zLm 0 j2 zs ?_
 refine zLm 0 i2 zs ?_
 refine zIn 0 i2 ?_
 refine zSE 0 (tInt .i64) zs i2 (gt0 zs j2) ent_int ?_
 refine zIn 0 j2 ?_
 refine zSE 0 (tInt .i64) (zs.set i2 (gt0 zs j2)) j2 (gt0 zs i2) ent_int ?_
 refine zE 1 [0, 1, 9, 10] ?_
 refine zR 4 ?_
 refine go_i64n 80 (i2 + 1) rfl ?_
 refine zR 5 ?_
 refine go_i64n 82 (j2 - 1) rfl ?_
 refine zR 3 ?_
 refine zz (i2 + 1, j2 - 1, sw zs i2 j2) ⟨by show a + 1 ≤ i2 + 1; omega, by show i2 + 1 ≤ b; omega, by show i2 + 1 ≤ j2 - 1 + 2; omega, by show a ≤ j2 - 1; omega, by show j2 - 1 < b; omega, (sw_perm hq (by omega) (by omega))⟩ (by show j2 - 1 + 2 - (i2 + 1) < j1 + 2 - i1; omega)
theorem partInsU (bL : Nat) (c : Nat) (l : List Int) (n : Nat) (hl : l.length = n) (a b : Nat) (hab : a < b) (hb : b ≤ n) (hn : n ≤ 1000000000) :
    Spec Tryz.prog 171 #[.slice (some ⟨bL, 0, none⟩) n c, .int .i64 (a : Int), .int .i64 (b : Int)] [] [ol (tInt .u32) 26 (some ⟨bL, 0, none⟩) c l] (fun v Ps' Os' => ∃ (m : List Int) (q : Bool), m.Perm l ∧ v = .bool q ∧ Ps' = [] ∧ Os' = [ol (tInt .u32) 26 (some ⟨bL, 0, none⟩) c m]) := by
 refine zSp _ Tryz.func171 Tryz.ntmps171 (fun _ _ _ => ?_)
 refine zR 8 ?_
 refine go_i64n 12 (a + 1) rfl ?_
 refine zR 8 ?_
 refine zO (X := Nat × Nat × List Int) (fun x => [(7, .int .i64 (x.1 : Int)), (8, .int .i64 (x.2.1 : Int))]) [0, 1, 2] (fun x => [ol (tInt .u32) 26 (some ⟨bL, 0, none⟩) c x.2.2]) (fun x => a + 1 ≤ x.1 ∧ x.1 ≤ b ∧ x.2.1 ≤ 5 ∧ x.2.2.Perm l) (fun x => 5 - x.2.1) (a + 1, 0, l) ⟨by show a + 1 ≤ a + 1; omega, by show a + 1 ≤ b; omega, Nat.zero_le _, .refl _⟩ ?_
 intro ⟨i, k, xs⟩ ⟨hi1, hi2, hk, hp⟩
 simp only at hi1 hi2 hk hp ⊢
 have hxl := hp.length_eq
 refine zD' 6 ?_ ?_
 ·intro g0
  refine zT 5 rfl ⟨xs, false, hp, rfl, rfl, rfl⟩
 intro g0
 refine zR 5 ?_
 refine zO (X := Nat) (fun x => [(7, .int .i64 (x : Int))]) [0, 1, 2, 8] (fun _ => []) (fun x => i ≤ x ∧ x ≤ b) (fun x => b - x) i ⟨by omega, by omega⟩ ?_
 intro i2 ⟨hj1, hj2⟩
 refine zR 2 ?_
 refine zP (X := Bool) (fun x => [(32, .bool x)]) [0, 1, 2, 7, 8] (fun x => x = true → i2 < b) ?_ ?_
 ·skip
  refine zY 0 [1, 4, 7, 10, 13, 16, 19, 25, 28, 31, 34, 23, 38, 39, 43, 46] ?_
  refine zG' 4 20 ?_ ?_
  ·intro g1
   (try simp only [dcs, ne_eq] at g1)
   refine zJ 7 ?_
   refine zJ 0 ?_
   refine zR 4 ?_
   refine zz false (fun q => nomatch q) (by decide)
  intro g1
  (try simp only [dcs, ne_eq] at g1)
  refine zIn 2 i2 ?_
  refine zR 3 ?_
  refine go_i64n 27 (i2 - 1) rfl ?_
  refine zIn 0 (i2 - 1) ?_
  refine zLm 0 i2 xs ?_
  refine zLm 0 (i2 - 1) xs ?_
  refine zC3 0 (lessU _ _) ?_
  refine zR 3 ?_
  refine go_back _ zA zM zM (fun _ => by omega) (by decide)
 intro cr hcr
 refine zB 0 ?_ ?_
 ·intro g2
  (try simp only [dcs, ne_eq] at g2)
  have g2' := hcr g2
  refine zR 5 ?_
  refine go_i64n 34 (i2 + 1) rfl ?_
  refine zR 3 ?_
  refine zz (i2 + 1) (⟨by omega, by omega⟩) (by omega)
 intro g2
 (try simp only [dcs, ne_eq] at g2)
 refine zD 8 ?_ ?_
 ·intro g3
  refine zT 4 rfl ⟨xs, true, hp, rfl, rfl, rfl⟩
 intro g3
 refine zR 7 ?_
 refine go_i64n 40 (b - a) rfl ?_
 refine zD 2 ?_ ?_
 ·intro g4
  refine zE 4 [6] ?_
  refine zT 0 rfl ⟨xs, false, hp, rfl, rfl, rfl⟩
 intro g4
 refine zY 2 [1, 4, 7, 10, 13, 16, 19, 22, 25, 31, 34, 37, 29, 41, 43, 45, 49, 51] ?_
 refine zR 5 ?_
 refine go_i64n 46 (i2 - 1) rfl ?_
 refine zR 3 ?_
 refine go_i64n 49 (i2 - 1) rfl ?_
 refine zIn 0 (i2 - 1) ?_
 refine zIn 2 i2 ?_
 refine zLm 0 (i2 - 1) xs ?_
 refine zLm 0 i2 xs ?_
 refine zIn 0 i2 ?_
 refine zSE 0 (tInt .u32) xs i2 (gt0 xs (i2 - 1)) ent_int ?_
 refine zIn 0 (i2 - 1) ?_
 refine zSE 0 (tInt .u32) (xs.set i2 (gt0 xs (i2 - 1))) (i2 - 1) (gt0 xs i2) ent_int ?_
 refine zR 1 ?_
 obtain ⟨ys, hyse⟩ : ∃ ys, ys = sw xs i2 (i2 - 1) := ⟨_, rfl⟩
 refine go_same (B := ol (tInt .u32) 26 (some ⟨bL, 0, none⟩) c ys) .here (by rw [hyse]; rfl) ?_
 have hq : ys.Perm l := by rw [hyse]; exact (sw_perm hp (by omega) (by omega))
 have hysl := hq.length_eq
 refine zE 0 [0, 1, 2, 7, 8] ?_
 refine zR 6 ?_
 refine go_i64n 60 (i2 - a) rfl ?_
 refine zR 2 ?_
 refine zU (X := List Int) (fun _ => []) [0, 1, 2, 7, 8] (fun x => [ol (tInt .u32) 26 (some ⟨bL, 0, none⟩) c x]) ([ol (tInt .u32) 26 (some ⟨bL, 0, none⟩) c ys]) (fun x => x.Perm l) ?_ ?_
 ·skip
  refine zD' 0 ?_ ?_
  ·intro hq1
   refine zR 1 ?_
   refine zz (ys) (hq) (by decide)
  intro hq1
  refine zR 4 ?_
  refine go_i64n 63 (i2 - 1) rfl ?_
  refine zR 3 ?_
  refine zO (X := Nat × List Int) (fun x => [(9, .int .i64 (x.1 : Int))]) [0, 1, 2, 7, 8] (fun x => [ol (tInt .u32) 26 (some ⟨bL, 0, none⟩) c x.2]) (fun x => x.1 < i2 ∧ x.2.Perm l) (fun x => x.1) (i2 - 1, ys) ⟨by show i2 - 1 < i2; omega, hq⟩ ?_
  intro ⟨j, vs⟩ ⟨hj, hv⟩
  simp only at hj hv ⊢
  have hvl := hv.length_eq
  refine zD' 6 ?_ ?_
  ·intro g6
   refine zR 1 ?_
   refine zz (vs) (hv) (by decide)
  intro g6
  refine zY 5 [1, 4, 7, 13, 16, 19, 22, 11, 26, 27, 31] ?_
  refine zIn 2 j ?_
  refine zR 3 ?_
  refine go_i64n 74 (j - 1) rfl ?_
  refine zIn 0 (j - 1) ?_
  refine zLm 0 j vs ?_
  refine zLm 0 (j - 1) vs ?_
  refine zC3 0 (lessU _ _) ?_
  refine zE 2 [0, 1, 2, 7, 8, 9, 78] ?_
  refine zB 0 ?_ ?_
  ·intro g7
   (try simp only [dcs, ne_eq] at g7)
   refine zR 1 ?_
   refine zz (vs) (hv) (by decide)
  intro g7
  (try simp only [dcs, ne_eq] at g7)
  refine zY 1 [1, 4, 7, 10, 13, 16, 19, 22, 25, 31, 34, 37, 29, 41, 43, 45, 49, 51] ?_
  refine zR 5 ?_
  refine go_i64n 83 (j - 1) rfl ?_
  refine zR 3 ?_
  refine go_i64n 86 (j - 1) rfl ?_
  refine zIn 0 (j - 1) ?_
  refine zIn 2 j ?_
  refine zLm 0 (j - 1) vs ?_
  refine zLm 0 j vs ?_
  refine zIn 0 j ?_
  refine zSE 0 (tInt .u32) vs j (gt0 vs (j - 1)) ent_int ?_
  refine zIn 0 (j - 1) ?_
  refine zSE 0 (tInt .u32) (vs.set j (gt0 vs (j - 1))) (j - 1) (gt0 vs j) ent_int ?_
  refine zE 1 [0, 1, 2, 7, 8, 9] ?_
  refine zR 4 ?_
  refine go_i64n 67 (j - 1) rfl ?_
  refine zR 2 ?_
  refine zz (j - 1, sw vs j (j - 1)) (⟨by show j - 1 < i2; omega, (sw_perm hv (by omega) (by omega))⟩) (by show j - 1 < j; omega)
 intro zs hz
 have hzl := hz.length_eq
 refine zR 5 ?_
 refine go_i64n 97 (b - i2) rfl ?_
 refine zR 2 ?_
 refine zU (X := List Int) (fun _ => []) [0, 1, 2, 7, 8] (fun x => [ol (tInt .u32) 26 (some ⟨bL, 0, none⟩) c x]) ([ol (tInt .u32) 26 (some ⟨bL, 0, none⟩) c zs]) (fun x => x.Perm l) ?_ ?_
 ·skip
  refine zD' 0 ?_ ?_
  ·intro hq2
   refine zR 1 ?_
   refine zz (zs) (hz) (by decide)
  intro hq2
  refine zR 4 ?_
  refine go_i64n 100 (i2 + 1) rfl ?_
  refine zR 3 ?_
  refine zO (X := Nat × List Int) (fun x => [(10, .int .i64 (x.1 : Int))]) [0, 1, 2, 7, 8] (fun x => [ol (tInt .u32) 26 (some ⟨bL, 0, none⟩) c x.2]) (fun x => i2 + 1 ≤ x.1 ∧ x.1 ≤ b ∧ x.2.Perm l) (fun x => b - x.1) (i2 + 1, zs) ⟨by show i2 + 1 ≤ i2 + 1; omega, by show i2 + 1 ≤ b; omega, hz⟩ ?_
  intro ⟨j, vs⟩ ⟨hj, hj', hv⟩
  simp only at hj hj' hv ⊢
  have hvl := hv.length_eq
  refine zD' 7 ?_ ?_
  ·intro g8
   refine zR 1 ?_
   refine zz (vs) (hv) (by decide)
  intro g8
  refine zY 5 [1, 4, 7, 13, 16, 19, 22, 11, 26, 27, 31] ?_
  refine zIn 2 j ?_
  refine zR 3 ?_
  refine go_i64n 112 (j - 1) rfl ?_
  refine zIn 0 (j - 1) ?_
  refine zLm 0 j vs ?_
  refine zLm 0 (j - 1) vs ?_
  refine zC3 0 (lessU _ _) ?_
  refine zE 2 [0, 1, 2, 7, 8, 10, 116] ?_
  refine zB 0 ?_ ?_
  ·intro g9
   (try simp only [dcs, ne_eq] at g9)
   refine zR 1 ?_
   refine zz (vs) (hv) (by decide)
  intro g9
  (try simp only [dcs, ne_eq] at g9)
  refine zY 1 [1, 4, 7, 10, 13, 16, 19, 22, 25, 31, 34, 37, 29, 41, 43, 45, 49, 51] ?_
  refine zR 5 ?_
  refine go_i64n 121 (j - 1) rfl ?_
  refine zR 3 ?_
  refine go_i64n 124 (j - 1) rfl ?_
  refine zIn 0 (j - 1) ?_
  refine zIn 2 j ?_
  refine zLm 0 (j - 1) vs ?_
  refine zLm 0 j vs ?_
  refine zIn 0 j ?_
  refine zSE 0 (tInt .u32) vs j (gt0 vs (j - 1)) ent_int ?_
  refine zIn 0 (j - 1) ?_
  refine zSE 0 (tInt .u32) (vs.set j (gt0 vs (j - 1))) (j - 1) (gt0 vs j) ent_int ?_
  refine zE 1 [0, 1, 2, 7, 8, 10] ?_
  refine zR 4 ?_
  refine go_i64n 105 (j + 1) rfl ?_
  refine zR 2 ?_
  refine zz (j + 1, sw vs j (j - 1)) (⟨by show i2 + 1 ≤ j + 1; omega, by show j + 1 ≤ b; omega, (sw_perm hv (by omega) (by omega))⟩) (by show b - (j + 1) < b - j; omega)
 intro us hu
 have hul := hu.length_eq
 refine zR 4 ?_
 refine go_i64n 16 (k + 1) rfl ?_
 refine zR 2 ?_
 refine zz (i2, k + 1, us) (⟨by show a + 1 ≤ i2; omega, by show i2 ≤ b; omega, by show k + 1 ≤ 5; omega, hu⟩) (by show 5 - (k + 1) < 5 - k; omega)
theorem partInsI (bL : Nat) (c : Nat) (l : List Int) (n : Nat) (hl : l.length = n) (a b : Nat) (hab : a < b) (hb : b ≤ n) (hn : n ≤ 1000000000) :
    Spec Tryz.prog 207 #[.slice (some ⟨bL, 0, none⟩) n c, .int .i64 (a : Int), .int .i64 (b : Int)] [] [ol (tInt .i64) 3 (some ⟨bL, 0, none⟩) c l] (fun v Ps' Os' => ∃ (m : List Int) (q : Bool), m.Perm l ∧ v = .bool q ∧ Ps' = [] ∧ Os' = [ol (tInt .i64) 3 (some ⟨bL, 0, none⟩) c m]) := by
 refine zSp _ Tryz.func207 Tryz.ntmps207 (fun _ _ _ => ?_)
 refine zR 8 ?_
 refine go_i64n 12 (a + 1) rfl ?_
 refine zR 8 ?_
 refine zO (X := Nat × Nat × List Int) (fun x => [(7, .int .i64 (x.1 : Int)), (8, .int .i64 (x.2.1 : Int))]) [0, 1, 2] (fun x => [ol (tInt .i64) 3 (some ⟨bL, 0, none⟩) c x.2.2]) (fun x => a + 1 ≤ x.1 ∧ x.1 ≤ b ∧ x.2.1 ≤ 5 ∧ x.2.2.Perm l) (fun x => 5 - x.2.1) (a + 1, 0, l) ⟨by show a + 1 ≤ a + 1; omega, by show a + 1 ≤ b; omega, Nat.zero_le _, .refl _⟩ ?_
 intro ⟨i, k, xs⟩ ⟨hi1, hi2, hk, hp⟩
 simp only at hi1 hi2 hk hp ⊢
 have hxl := hp.length_eq
 refine zD' 6 ?_ ?_
 ·intro g0
  refine zT 5 rfl ⟨xs, false, hp, rfl, rfl, rfl⟩
 intro g0
 refine zR 5 ?_
 refine zO (X := Nat) (fun x => [(7, .int .i64 (x : Int))]) [0, 1, 2, 8] (fun _ => []) (fun x => i ≤ x ∧ x ≤ b) (fun x => b - x) i ⟨by omega, by omega⟩ ?_
 intro i2 ⟨hj1, hj2⟩
 refine zR 2 ?_
 refine zP (X := Bool) (fun x => [(32, .bool x)]) [0, 1, 2, 7, 8] (fun x => x = true → i2 < b) ?_ ?_
 ·skip
  refine zY 0 [1, 4, 7, 10, 13, 16, 19, 25, 28, 31, 34, 23, 38, 39, 43, 46] ?_
  refine zG' 4 20 ?_ ?_
  ·intro g1
   (try simp only [dcs, ne_eq] at g1)
   refine zJ 7 ?_
   refine zJ 0 ?_
   refine zR 4 ?_
   refine zz false (fun q => nomatch q) (by decide)
  intro g1
  (try simp only [dcs, ne_eq] at g1)
  refine zIn 2 i2 ?_
  refine zR 3 ?_
  refine go_i64n 27 (i2 - 1) rfl ?_
  refine zIn 0 (i2 - 1) ?_
  refine zLm 0 i2 xs ?_
  refine zLm 0 (i2 - 1) xs ?_
  refine zC3 0 (lessI _ _) ?_
  refine zR 3 ?_
  refine go_back _ zA zM zM (fun _ => by omega) (by decide)
 intro cr hcr
 refine zB 0 ?_ ?_
 ·intro g2
  (try simp only [dcs, ne_eq] at g2)
  have g2' := hcr g2
  refine zR 5 ?_
  refine go_i64n 34 (i2 + 1) rfl ?_
  refine zR 3 ?_
  refine zz (i2 + 1) (⟨by omega, by omega⟩) (by omega)
 intro g2
 (try simp only [dcs, ne_eq] at g2)
 refine zD 8 ?_ ?_
 ·intro g3
  refine zT 4 rfl ⟨xs, true, hp, rfl, rfl, rfl⟩
 intro g3
 refine zR 7 ?_
 refine go_i64n 40 (b - a) rfl ?_
 refine zD 2 ?_ ?_
 ·intro g4
  refine zE 4 [6] ?_
  refine zT 0 rfl ⟨xs, false, hp, rfl, rfl, rfl⟩
 intro g4
 refine zY 2 [1, 4, 7, 10, 13, 16, 19, 22, 25, 31, 34, 37, 29, 41, 43, 45, 49, 51] ?_
 refine zR 5 ?_
 refine go_i64n 46 (i2 - 1) rfl ?_
 refine zR 3 ?_
 refine go_i64n 49 (i2 - 1) rfl ?_
 refine zIn 0 (i2 - 1) ?_
 refine zIn 2 i2 ?_
 refine zLm 0 (i2 - 1) xs ?_
 refine zLm 0 i2 xs ?_
 refine zIn 0 i2 ?_
 refine zSE 0 (tInt .i64) xs i2 (gt0 xs (i2 - 1)) ent_int ?_
 refine zIn 0 (i2 - 1) ?_
 refine zSE 0 (tInt .i64) (xs.set i2 (gt0 xs (i2 - 1))) (i2 - 1) (gt0 xs i2) ent_int ?_
 refine zR 1 ?_
 obtain ⟨ys, hyse⟩ : ∃ ys, ys = sw xs i2 (i2 - 1) := ⟨_, rfl⟩
 refine go_same (B := ol (tInt .i64) 3 (some ⟨bL, 0, none⟩) c ys) .here (by rw [hyse]; rfl) ?_
 have hq : ys.Perm l := by rw [hyse]; exact (sw_perm hp (by omega) (by omega))
 have hysl := hq.length_eq
 refine zE 0 [0, 1, 2, 7, 8] ?_
 refine zR 6 ?_
 refine go_i64n 60 (i2 - a) rfl ?_
 refine zR 2 ?_
 refine zU (X := List Int) (fun _ => []) [0, 1, 2, 7, 8] (fun x => [ol (tInt .i64) 3 (some ⟨bL, 0, none⟩) c x]) ([ol (tInt .i64) 3 (some ⟨bL, 0, none⟩) c ys]) (fun x => x.Perm l) ?_ ?_
 ·skip
  refine zD' 0 ?_ ?_
  ·intro hq1
   refine zR 1 ?_
   refine zz (ys) (hq) (by decide)
  intro hq1
  refine zR 4 ?_
  refine go_i64n 63 (i2 - 1) rfl ?_
  refine zR 3 ?_
  refine zO (X := Nat × List Int) (fun x => [(9, .int .i64 (x.1 : Int))]) [0, 1, 2, 7, 8] (fun x => [ol (tInt .i64) 3 (some ⟨bL, 0, none⟩) c x.2]) (fun x => x.1 < i2 ∧ x.2.Perm l) (fun x => x.1) (i2 - 1, ys) ⟨by show i2 - 1 < i2; omega, hq⟩ ?_
  intro ⟨j, vs⟩ ⟨hj, hv⟩
  simp only at hj hv ⊢
  have hvl := hv.length_eq
  refine zD' 6 ?_ ?_
  ·intro g6
   refine zR 1 ?_
   refine zz (vs) (hv) (by decide)
  intro g6
  refine zY 5 [1, 4, 7, 13, 16, 19, 22, 11, 26, 27, 31] ?_
  refine zIn 2 j ?_
  refine zR 3 ?_
  refine go_i64n 74 (j - 1) rfl ?_
  refine zIn 0 (j - 1) ?_
  refine zLm 0 j vs ?_
  refine zLm 0 (j - 1) vs ?_
  refine zC3 0 (lessI _ _) ?_
  refine zE 2 [0, 1, 2, 7, 8, 9, 78] ?_
  refine zB 0 ?_ ?_
  ·intro g7
   (try simp only [dcs, ne_eq] at g7)
   refine zR 1 ?_
   refine zz (vs) (hv) (by decide)
  intro g7
  (try simp only [dcs, ne_eq] at g7)
  refine zY 1 [1, 4, 7, 10, 13, 16, 19, 22, 25, 31, 34, 37, 29, 41, 43, 45, 49, 51] ?_
  refine zR 5 ?_
  refine go_i64n 83 (j - 1) rfl ?_
  refine zR 3 ?_
  refine go_i64n 86 (j - 1) rfl ?_
  refine zIn 0 (j - 1) ?_
  refine zIn 2 j ?_
  refine zLm 0 (j - 1) vs ?_
  refine zLm 0 j vs ?_
  refine zIn 0 j ?_
  refine zSE 0 (tInt .i64) vs j (gt0 vs (j - 1)) ent_int ?_
  refine zIn 0 (j - 1) ?_
  refine zSE 0 (tInt .i64) (vs.set j (gt0 vs (j - 1))) (j - 1) (gt0 vs j) ent_int ?_
  refine zE 1 [0, 1, 2, 7, 8, 9] ?_
  refine zR 4 ?_
  refine go_i64n 67 (j - 1) rfl ?_
  refine zR 2 ?_
  refine zz (j - 1, sw vs j (j - 1)) (⟨by show j - 1 < i2; omega, (sw_perm hv (by omega) (by omega))⟩) (by show j - 1 < j; omega)
 intro zs hz
 have hzl := hz.length_eq
 refine zR 5 ?_
 refine go_i64n 97 (b - i2) rfl ?_
 refine zR 2 ?_
 refine zU (X := List Int) (fun _ => []) [0, 1, 2, 7, 8] (fun x => [ol (tInt .i64) 3 (some ⟨bL, 0, none⟩) c x]) ([ol (tInt .i64) 3 (some ⟨bL, 0, none⟩) c zs]) (fun x => x.Perm l) ?_ ?_
 ·skip
  refine zD' 0 ?_ ?_
  ·intro hq2
   refine zR 1 ?_
   refine zz (zs) (hz) (by decide)
  intro hq2
  refine zR 4 ?_
  refine go_i64n 100 (i2 + 1) rfl ?_
  refine zR 3 ?_
  refine zO (X := Nat × List Int) (fun x => [(10, .int .i64 (x.1 : Int))]) [0, 1, 2, 7, 8] (fun x => [ol (tInt .i64) 3 (some ⟨bL, 0, none⟩) c x.2]) (fun x => i2 + 1 ≤ x.1 ∧ x.1 ≤ b ∧ x.2.Perm l) (fun x => b - x.1) (i2 + 1, zs) ⟨by show i2 + 1 ≤ i2 + 1; omega, by show i2 + 1 ≤ b; omega, hz⟩ ?_
  intro ⟨j, vs⟩ ⟨hj, hj', hv⟩
  simp only at hj hj' hv ⊢
  have hvl := hv.length_eq
  refine zD' 7 ?_ ?_
  ·intro g8
   refine zR 1 ?_
   refine zz (vs) (hv) (by decide)
  intro g8
  refine zY 5 [1, 4, 7, 13, 16, 19, 22, 11, 26, 27, 31] ?_
  refine zIn 2 j ?_
  refine zR 3 ?_
  refine go_i64n 112 (j - 1) rfl ?_
  refine zIn 0 (j - 1) ?_
  refine zLm 0 j vs ?_
  refine zLm 0 (j - 1) vs ?_
  refine zC3 0 (lessI _ _) ?_
  refine zE 2 [0, 1, 2, 7, 8, 10, 116] ?_
  refine zB 0 ?_ ?_
  ·intro g9
   (try simp only [dcs, ne_eq] at g9)
   refine zR 1 ?_
   refine zz (vs) (hv) (by decide)
  intro g9
  (try simp only [dcs, ne_eq] at g9)
  refine zY 1 [1, 4, 7, 10, 13, 16, 19, 22, 25, 31, 34, 37, 29, 41, 43, 45, 49, 51] ?_
  refine zR 5 ?_
  refine go_i64n 121 (j - 1) rfl ?_
  refine zR 3 ?_
  refine go_i64n 124 (j - 1) rfl ?_
  refine zIn 0 (j - 1) ?_
  refine zIn 2 j ?_
  refine zLm 0 (j - 1) vs ?_
  refine zLm 0 j vs ?_
  refine zIn 0 j ?_
  refine zSE 0 (tInt .i64) vs j (gt0 vs (j - 1)) ent_int ?_
  refine zIn 0 (j - 1) ?_
  refine zSE 0 (tInt .i64) (vs.set j (gt0 vs (j - 1))) (j - 1) (gt0 vs j) ent_int ?_
  refine zE 1 [0, 1, 2, 7, 8, 10] ?_
  refine zR 4 ?_
  refine go_i64n 105 (j + 1) rfl ?_
  refine zR 2 ?_
  refine zz (j + 1, sw vs j (j - 1)) (⟨by show i2 + 1 ≤ j + 1; omega, by show j + 1 ≤ b; omega, (sw_perm hv (by omega) (by omega))⟩) (by show b - (j + 1) < b - j; omega)
 intro us hu
 have hul := hu.length_eq
 refine zR 4 ?_
 refine go_i64n 16 (k + 1) rfl ?_
 refine zR 2 ?_
 refine zz (i2, k + 1, us) (⟨by show a + 1 ≤ i2; omega, by show i2 ≤ b; omega, by show k + 1 ≤ 5; omega, hu⟩) (by show 5 - (k + 1) < 5 - k; omega)
theorem bitLenAux_le : ∀ (f x : Nat), Lib.bitLenAux f x ≤ f
  | 0, x => by simp [Lib.bitLenAux]
  | f + 1, x => by
    rw [Lib.bitLenAux]
    have := bitLenAux_le f (x / 2)
    split <;> omega
set_option maxHeartbeats 4000000 in
theorem pdqU1 (c n : Nat) (hn : n ≤ 1000000000) (A : Option Addr) (l : List Int) (hl : l.length = n) (a b r : Nat) (hab : a ≤ b) (hb : b ≤ n) (hr : r ≤ 1000) (ih : ∀ (A : Option Addr) (l' : List Int) (a' b' r' : Nat), b' - a' < b - a → l'.length = n → a' ≤ b' → b' ≤ n → r' ≤ 1000 → Spec Tryz.prog 151 #[.slice A n c, .int .i64 (a' : Int), .int .i64 (b' : Int), .int .i64 (r' : Int)] [] [ol (tInt .u32) 26 A c l'] (fun v Ps' Os' => ∃ m : List Int, m.Perm l' ∧ v = .tuple #[] ∧ Ps' = [] ∧ Os' = [ol (tInt .u32) 26 A c m])) :
    Spec Tryz.prog 151 #[.slice A n c, .int .i64 (a : Int), .int .i64 (b : Int), .int .i64 (r : Int)] [] [ol (tInt .u32) 26 A c l] (fun v Ps' Os' => ∃ m : List Int, m.Perm l ∧ v = .tuple #[] ∧ Ps' = [] ∧ Os' = [ol (tInt .u32) 26 A c m]) := by
 refine zSp _ Tryz.func151 Tryz.ntmps151 (fun _ _ _ => ?_)
 refine zR 9 ?_
 refine zO (X := Nat × Nat × Nat × Bool × Bool × List Int) (fun x => [(1, .int .i64 (x.1 : Int)), (2, .int .i64 (x.2.1 : Int)), (3, .int .i64 (x.2.2.1 : Int)), (8, .bool x.2.2.2.1), (9, .bool x.2.2.2.2.1)]) [0] (fun x => [ol (tInt .u32) 26 A c x.2.2.2.2.2]) (fun x => x.1 ≤ x.2.1 ∧ x.2.1 ≤ n ∧ x.2.1 - x.1 ≤ b - a ∧ x.2.2.1 ≤ 1000 ∧ x.2.2.2.2.2.Perm l) (fun x => x.2.1 - x.1) (a, b, r, true, true, l) ⟨hab, hb, Nat.le_refl _, hr, .refl _⟩ ?_
 intro ⟨a1, b1, lim, bal, par, xs⟩ ⟨k1, k2, k3, k4, hp⟩
 simp only at k1 k2 k3 k4 hp ⊢
 have hxl := hp.length_eq
 refine zR 6 ?_
 refine go_i64n 21 (b1 - a1) rfl ?_
 refine zD 8 ?_ ?_
 ·intro g1
  refine zC 5 (isortUf A c xs n (by omega) a1 b1 (by omega) hn (by omega)) ?_
  rintro _ _ _ ⟨m, hm, rfl, rfl, rfl⟩
  refine zE 1 [] ?_
  refine zT 0 rfl ⟨m, hm.trans hp, rfl, rfl, rfl⟩
 intro g1
 refine go_ol_addr (xs := xs) zM (by omega) (fun bL hL => ?_); subst hL
 refine zD 7 ?_ ?_
 ·intro g2
  refine zC 5 (heapU bL c xs n (by omega) a1 b1 (by omega) (by omega) hn) ?_
  rintro _ _ _ ⟨m, hm, rfl, rfl, rfl⟩
  refine zE 1 [] ?_
  refine zT 0 rfl ⟨m, hm.trans hp, rfl, rfl, rfl⟩
 intro g2
 refine zR 7 ?_
 refine zU (X := Nat × List Int) (fun x => [(3, .int .i64 (x.1 : Int))]) [0, 1, 2, 8, 9, 10] (fun x => [ol (tInt .u32) 26 (some ⟨bL, 0, none⟩) c x.2]) ([ol (tInt .u32) 26 (some ⟨bL, 0, none⟩) c xs]) (fun x => x.1 ≤ 1000 ∧ x.2.Perm l) ?_ ?_
 ·skip
  refine zB' 0 ?_ ?_
  ·intro hq1
   (try simp only [dcs, ne_eq] at hq1)
   refine zR 1 ?_
   refine zz (lim, xs) (⟨k4, hp⟩) (by decide)
  intro hq1
  (try simp only [dcs, ne_eq] at hq1)
  refine zC 5 (brkU bL c xs n (by omega) a1 b1 (by omega) (by omega) hn (by omega)) ?_
  rintro _ _ _ ⟨m, hm, rfl, rfl, rfl⟩
  refine zE 1 [0, 1, 2, 3, 8, 9, 10] ?_
  refine zR 3 ?_
  refine go_i64n 41 (lim - 1) rfl ?_
  refine zR 2 ?_
  refine zz (lim - 1, m) (⟨by show lim - 1 ≤ 1000; omega, hm.trans hp⟩) (by decide)
 intro ⟨lim2, ys⟩ ⟨k5, hq1⟩
 simp only at k5 hq1 ⊢
 have hyl := hq1.length_eq
 refine zC 5 (chooseU bL c ys n (by omega) a1 b1 (by omega) (by omega) hn (by omega)) ?_
 rintro _ _ _ ⟨pv, hv, hpv, rfl, rfl, rfl⟩
 refine zR 12 ?_
 refine zU (X := Nat × Int × List Int) (fun x => [(11, .int .i64 (x.1 : Int)), (12, .int .i64 x.2.1)]) [0, 1, 2, 3, 8, 9, 10] (fun x => [ol (tInt .u32) 26 (some ⟨bL, 0, none⟩) c x.2.2]) ([ol (tInt .u32) 26 (some ⟨bL, 0, none⟩) c ys]) (fun x => (a1 ≤ x.1 ∧ x.1 < b1) ∧ x.2.2.Perm l) ?_ ?_
 ·skip
  refine zD' 0 ?_ ?_
  ·intro hq2
   refine zR 1 ?_
   refine zz (pv, hv, ys) (⟨hpv, hq1⟩) (by decide)
  intro hq2
  refine zC 5 (revU bL c ys n (by omega) a1 b1 (by omega) (by omega) hn) ?_
  rintro _ _ _ ⟨m, hm, rfl, rfl, rfl⟩
  refine zE 1 [0, 1, 2, 3, 8, 9, 10, 11] ?_
  refine zR 4 ?_
  refine go_i64n 56 (b1 - 1) rfl ?_
  refine zR 3 ?_
  refine go_i64n 59 (pv - a1) rfl ?_
  refine zR 1 ?_
  refine go_i64n 60 ((b1 - 1) - (pv - a1)) rfl ?_
  refine zR 5 ?_
  refine zz (b1 - 1 - (pv - a1), 1, m) (⟨by show a1 ≤ b1 - 1 - (pv - a1) ∧ b1 - 1 - (pv - a1) < b1; omega, hm.trans hq1⟩) (by decide)
 intro ⟨pv2, hv2, zs⟩ ⟨hpv2, hq2⟩
 simp only at hpv2 hq2 ⊢
 have hzl := hq2.length_eq
 refine zR 2 ?_
 refine zP (X := Bool) (fun x => [(68, .bool x)]) [0, 1, 2, 3, 8, 9, 10, 11] (fun _ => True) ?_ ?_
 ·skip
  refine zG' 3 62 ?_ ?_
  ·intro g1
   (try simp only [dcs, ne_eq] at g1)
   refine zR 7 ?_
   refine go_back _ zA zM zM (trivial) (by decide)
  intro g1
  (try simp only [dcs, ne_eq] at g1)
  refine zG' 3 65 ?_ ?_
  ·intro g2
   (try simp only [dcs, ne_eq] at g2)
   refine zR 4 ?_
   refine go_back _ zA zM zM (trivial) (by decide)
  intro g2
  (try simp only [dcs, ne_eq] at g2)
  refine zR 4 ?_
  refine go_back _ zA zM zM (trivial) (by decide)
 intro cr _
 refine zU (X := List Int) (fun _ => []) [0, 1, 2, 3, 8, 9, 10, 11] (fun x => [ol (tInt .u32) 26 (some ⟨bL, 0, none⟩) c x]) ([ol (tInt .u32) 26 (some ⟨bL, 0, none⟩) c zs]) (fun x => x.Perm l) ?_ ?_
 ·skip
  refine zB' 0 ?_ ?_
  ·intro hq3
   (try simp only [dcs, ne_eq] at hq3)
   refine zR 1 ?_
   refine zz (zs) (hq2) (by decide)
  intro hq3
  (try simp only [dcs, ne_eq] at hq3)
  refine zC 5 (partInsU bL c zs n (by omega) a1 b1 (by omega) (by omega) hn) ?_
  rintro _ _ _ ⟨m, q, hm, rfl, rfl, rfl⟩
  refine zB 1 ?_ ?_
  ·intro hq4
   (try simp only [dcs, ne_eq] at hq4)
   refine zT 0 rfl ⟨m, hm.trans hq2, rfl, rfl, rfl⟩
  intro hq4
  (try simp only [dcs, ne_eq] at hq4)
  refine zR 1 ?_
  refine zz (m) (hm.trans hq2) (by decide)
 intro ws hq4
 have hwl := hq4.length_eq
 refine zR 2 ?_
 refine zP (X := Bool) (fun x => [(87, .bool x)]) [0, 1, 2, 3, 8, 9, 10, 11] (fun _ => True) ?_ ?_
 ·skip
  refine zY 0 [1, 4, 7, 10, 13, 16, 19, 25, 28, 31, 23, 35, 36, 40, 43] ?_
  refine zG' 3 75 ?_ ?_
  ·intro g6
   (try simp only [dcs, ne_eq] at g6)
   refine zJ 7 ?_
   refine zJ 0 ?_
   refine zR 4 ?_
   refine go_back _ zA zM zM (trivial) (by decide)
  intro g6
  (try simp only [dcs, ne_eq] at g6)
  refine zR 3 ?_
  refine go_i64n 78 (a1 - 1) rfl ?_
  refine zIn 0 (a1 - 1) ?_
  refine zIn 2 pv2 ?_
  refine zLm 0 (a1 - 1) ws ?_
  refine zLm 0 pv2 ws ?_
  refine zC3 0 (lessU _ _) ?_
  refine zR 3 ?_
  refine go_back _ zA zM zM (trivial) (by decide)
 intro cr2 _
 refine zB 0 ?_ ?_
 ·intro hq5
  (try simp only [dcs, ne_eq] at hq5)
  refine zC 6 (partEqU bL c ws n (by omega) a1 b1 (by omega) (by omega) hn pv2 hpv2) ?_
  rintro _ _ _ ⟨m, mid, hm, hmid, rfl, rfl, rfl⟩
  refine zR 8 ?_
  refine zz (mid, b1, lim2, bal, par, m) (⟨by show mid ≤ b1; omega, by show b1 ≤ n; omega, by show b1 - mid ≤ b - a; omega, by show lim2 ≤ 1000; omega, hm.trans hq4⟩) (by show b1 - mid < b1 - a1; omega)
 intro hq5
 (try simp only [dcs, ne_eq] at hq5)
 refine zC 7 (partU bL c ws n (by omega) a1 b1 (by omega) (by omega) hn pv2 hpv2) ?_
 rintro _ _ _ ⟨m, mid, q, hm, hmid, rfl, rfl, rfl⟩
 have hm1 := hm.trans hq4
 have hml := hm1.length_eq
 refine zE 6 [0, 1, 2, 3, 10, 14, 15] ?_
 refine zR 10 ?_
 refine go_i64n 105 (mid - a1) rfl ?_
 refine zR 3 ?_
 refine go_i64n 108 (b1 - mid) rfl ?_
 refine zR 7 ?_
 refine go_re 110 (.int .i64 (IntKind.i64.wrap ((((b1 - a1) / 8) : Nat) : Int))) rfl ?_
 refine go_i64n 110 ((b1 - a1) / 8) rfl ?_
 refine zE 8 [0, 1, 2, 3, 9, 14, 16, 17, 18, 113] ?_
 refine zD' 0 ?_ ?_
 ·intro g7
  refine zR 12 ?_
  refine go_i64n 129 (mid + 1) rfl ?_
  refine zC 2 (ih (some ⟨bL, 0, none⟩) m (mid + 1) b1 lim2 (by omega) (by omega) (by omega) (by omega) (by omega)) ?_
  rintro _ _ _ ⟨m2, hm2, rfl, rfl, rfl⟩
  refine zE 1 [0, 1, 3, 8, 9, 14] ?_
  refine zR 5 ?_
  refine go_back (a1, mid, lim2, _, q, m2) zA zM zM (⟨by show a1 ≤ mid; omega, by show mid ≤ n; omega, by show mid - a1 ≤ b - a; omega, by show lim2 ≤ 1000; omega, hm2.trans hm1⟩) (by show mid - a1 < b1 - a1; omega)
 intro g7
 refine zC 13 (ih (some ⟨bL, 0, none⟩) m a1 mid lim2 (by omega) (by omega) (by omega) (by omega) (by omega)) ?_
 rintro _ _ _ ⟨m2, hm2, rfl, rfl, rfl⟩
 refine zE 1 [0, 2, 3, 8, 9, 14] ?_
 refine zR 3 ?_
 refine go_i64n 123 (mid + 1) rfl ?_
 refine zR 3 ?_
 refine go_back (mid + 1, b1, lim2, _, q, m2) zA zM zM (⟨by show mid + 1 ≤ b1; omega, by show b1 ≤ n; omega, by show b1 - (mid + 1) ≤ b - a; omega, by show lim2 ≤ 1000; omega, hm2.trans hm1⟩) (by show b1 - (mid + 1) < b1 - a1; omega)
theorem pdqU2 (c n : Nat) (hn : n ≤ 1000000000) : ∀ (d : Nat) (A : Option Addr) (l : List Int) (a b r : Nat), b - a < d → l.length = n → a ≤ b → b ≤ n → r ≤ 1000 → Spec Tryz.prog 151 #[.slice A n c, .int .i64 (a : Int), .int .i64 (b : Int), .int .i64 (r : Int)] [] [ol (tInt .u32) 26 A c l] (fun v Ps' Os' => ∃ m : List Int, m.Perm l ∧ v = .tuple #[] ∧ Ps' = [] ∧ Os' = [ol (tInt .u32) 26 A c m])
  | 0, _, _, _, _, _, h, _, _, _, _ => absurd h (Nat.not_lt_zero _)
  | d + 1, A, l, a, b, r, h, hl, hab, hb, hr => pdqU1 c n hn A l hl a b r hab hb hr (fun A l' a' b' r' h1 => pdqU2 c n hn d A l' a' b' r' (by omega))
theorem sortUf (A : Option Addr) (c : Nat) (l : List Int) (hn : l.length ≤ 1000000000) :
    Spec Tryz.prog 128 #[.slice A l.length c] [] [ol (tInt .u32) 26 A c l] (fun v Ps' Os' => ∃ m : List Int, m.Perm l ∧ v = .tuple #[] ∧ Ps' = [] ∧ Os' = [ol (tInt .u32) 26 A c m]) := by
 refine zSp _ Tryz.func128 Tryz.ntmps128 (fun _ _ _ => ?_)
 refine zR 1 ?_
 refine go_len_ol (xs := l) zM (fun l0 m0 => ?_)
 refine zR 10 ?_
 refine go_re 8 (.int .u64 (l.length : Int)) (by show some (Value.int _ _) = _; rw [wrap_u64 (by omega)]) ?_
 refine zC3 0 (bitsLen (l.length : Int) (by omega) (by omega)) ?_
 refine zC 0 (pdqU2 c l.length hn (l.length + 1) A l 0 l.length (Lib.bitLen l.length) (by omega) rfl (by omega) (by omega) (Nat.le_trans (bitLenAux_le 64 _) (by decide))) ?_
 rintro _ _ _ ⟨m, hm, rfl, rfl, rfl⟩
 refine zT 1 rfl ⟨m, hm, rfl, rfl, rfl⟩
set_option maxHeartbeats 4000000 in
theorem pdqI1 (c n : Nat) (hn : n ≤ 1000000000) (A : Option Addr) (l : List Int) (hl : l.length = n) (a b r : Nat) (hab : a ≤ b) (hb : b ≤ n) (hr : r ≤ 1000) (ih : ∀ (A : Option Addr) (l' : List Int) (a' b' r' : Nat), b' - a' < b - a → l'.length = n → a' ≤ b' → b' ≤ n → r' ≤ 1000 → Spec Tryz.prog 201 #[.slice A n c, .int .i64 (a' : Int), .int .i64 (b' : Int), .int .i64 (r' : Int)] [] [ol (tInt .i64) 3 A c l'] (fun v Ps' Os' => ∃ m : List Int, m.Perm l' ∧ v = .tuple #[] ∧ Ps' = [] ∧ Os' = [ol (tInt .i64) 3 A c m])) :
    Spec Tryz.prog 201 #[.slice A n c, .int .i64 (a : Int), .int .i64 (b : Int), .int .i64 (r : Int)] [] [ol (tInt .i64) 3 A c l] (fun v Ps' Os' => ∃ m : List Int, m.Perm l ∧ v = .tuple #[] ∧ Ps' = [] ∧ Os' = [ol (tInt .i64) 3 A c m]) := by
 refine zSp _ Tryz.func201 Tryz.ntmps201 (fun _ _ _ => ?_)
 refine zR 9 ?_
 refine zO (X := Nat × Nat × Nat × Bool × Bool × List Int) (fun x => [(1, .int .i64 (x.1 : Int)), (2, .int .i64 (x.2.1 : Int)), (3, .int .i64 (x.2.2.1 : Int)), (8, .bool x.2.2.2.1), (9, .bool x.2.2.2.2.1)]) [0] (fun x => [ol (tInt .i64) 3 A c x.2.2.2.2.2]) (fun x => x.1 ≤ x.2.1 ∧ x.2.1 ≤ n ∧ x.2.1 - x.1 ≤ b - a ∧ x.2.2.1 ≤ 1000 ∧ x.2.2.2.2.2.Perm l) (fun x => x.2.1 - x.1) (a, b, r, true, true, l) ⟨hab, hb, Nat.le_refl _, hr, .refl _⟩ ?_
 intro ⟨a1, b1, lim, bal, par, xs⟩ ⟨k1, k2, k3, k4, hp⟩
 simp only at k1 k2 k3 k4 hp ⊢
 have hxl := hp.length_eq
 refine zR 6 ?_
 refine go_i64n 21 (b1 - a1) rfl ?_
 refine zD 8 ?_ ?_
 ·intro g1
  refine zC 5 (isortIf A c xs n (by omega) a1 b1 (by omega) hn (by omega)) ?_
  rintro _ _ _ ⟨m, hm, rfl, rfl, rfl⟩
  refine zE 1 [] ?_
  refine zT 0 rfl ⟨m, hm.trans hp, rfl, rfl, rfl⟩
 intro g1
 refine go_ol_addr (xs := xs) zM (by omega) (fun bL hL => ?_); subst hL
 refine zD 7 ?_ ?_
 ·intro g2
  refine zC 5 (heapI bL c xs n (by omega) a1 b1 (by omega) (by omega) hn) ?_
  rintro _ _ _ ⟨m, hm, rfl, rfl, rfl⟩
  refine zE 1 [] ?_
  refine zT 0 rfl ⟨m, hm.trans hp, rfl, rfl, rfl⟩
 intro g2
 refine zR 7 ?_
 refine zU (X := Nat × List Int) (fun x => [(3, .int .i64 (x.1 : Int))]) [0, 1, 2, 8, 9, 10] (fun x => [ol (tInt .i64) 3 (some ⟨bL, 0, none⟩) c x.2]) ([ol (tInt .i64) 3 (some ⟨bL, 0, none⟩) c xs]) (fun x => x.1 ≤ 1000 ∧ x.2.Perm l) ?_ ?_
 ·skip
  refine zB' 0 ?_ ?_
  ·intro hq1
   (try simp only [dcs, ne_eq] at hq1)
   refine zR 1 ?_
   refine zz (lim, xs) (⟨k4, hp⟩) (by decide)
  intro hq1
  (try simp only [dcs, ne_eq] at hq1)
  refine zC 5 (brkI bL c xs n (by omega) a1 b1 (by omega) (by omega) hn (by omega)) ?_
  rintro _ _ _ ⟨m, hm, rfl, rfl, rfl⟩
  refine zE 1 [0, 1, 2, 3, 8, 9, 10] ?_
  refine zR 3 ?_
  refine go_i64n 41 (lim - 1) rfl ?_
  refine zR 2 ?_
  refine zz (lim - 1, m) (⟨by show lim - 1 ≤ 1000; omega, hm.trans hp⟩) (by decide)
 intro ⟨lim2, ys⟩ ⟨k5, hq1⟩
 simp only at k5 hq1 ⊢
 have hyl := hq1.length_eq
 refine zC 5 (chooseI bL c ys n (by omega) a1 b1 (by omega) (by omega) hn (by omega)) ?_
 rintro _ _ _ ⟨pv, hv, hpv, rfl, rfl, rfl⟩
 refine zR 12 ?_
 refine zU (X := Nat × Int × List Int) (fun x => [(11, .int .i64 (x.1 : Int)), (12, .int .i64 x.2.1)]) [0, 1, 2, 3, 8, 9, 10] (fun x => [ol (tInt .i64) 3 (some ⟨bL, 0, none⟩) c x.2.2]) ([ol (tInt .i64) 3 (some ⟨bL, 0, none⟩) c ys]) (fun x => (a1 ≤ x.1 ∧ x.1 < b1) ∧ x.2.2.Perm l) ?_ ?_
 ·skip
  refine zD' 0 ?_ ?_
  ·intro hq2
   refine zR 1 ?_
   refine zz (pv, hv, ys) (⟨hpv, hq1⟩) (by decide)
  intro hq2
  refine zC 5 (revI bL c ys n (by omega) a1 b1 (by omega) (by omega) hn) ?_
  rintro _ _ _ ⟨m, hm, rfl, rfl, rfl⟩
  refine zE 1 [0, 1, 2, 3, 8, 9, 10, 11] ?_
  refine zR 4 ?_
  refine go_i64n 56 (b1 - 1) rfl ?_
  refine zR 3 ?_
  refine go_i64n 59 (pv - a1) rfl ?_
  refine zR 1 ?_
  refine go_i64n 60 ((b1 - 1) - (pv - a1)) rfl ?_
  refine zR 5 ?_
  refine zz (b1 - 1 - (pv - a1), 1, m) (⟨by show a1 ≤ b1 - 1 - (pv - a1) ∧ b1 - 1 - (pv - a1) < b1; omega, hm.trans hq1⟩) (by decide)
 intro ⟨pv2, hv2, zs⟩ ⟨hpv2, hq2⟩
 simp only at hpv2 hq2 ⊢
 have hzl := hq2.length_eq
 refine zR 2 ?_
 refine zP (X := Bool) (fun x => [(68, .bool x)]) [0, 1, 2, 3, 8, 9, 10, 11] (fun _ => True) ?_ ?_
 ·skip
  refine zG' 3 62 ?_ ?_
  ·intro g1
   (try simp only [dcs, ne_eq] at g1)
   refine zR 7 ?_
   refine go_back _ zA zM zM (trivial) (by decide)
  intro g1
  (try simp only [dcs, ne_eq] at g1)
  refine zG' 3 65 ?_ ?_
  ·intro g2
   (try simp only [dcs, ne_eq] at g2)
   refine zR 4 ?_
   refine go_back _ zA zM zM (trivial) (by decide)
  intro g2
  (try simp only [dcs, ne_eq] at g2)
  refine zR 4 ?_
  refine go_back _ zA zM zM (trivial) (by decide)
 intro cr _
 refine zU (X := List Int) (fun _ => []) [0, 1, 2, 3, 8, 9, 10, 11] (fun x => [ol (tInt .i64) 3 (some ⟨bL, 0, none⟩) c x]) ([ol (tInt .i64) 3 (some ⟨bL, 0, none⟩) c zs]) (fun x => x.Perm l) ?_ ?_
 ·skip
  refine zB' 0 ?_ ?_
  ·intro hq3
   (try simp only [dcs, ne_eq] at hq3)
   refine zR 1 ?_
   refine zz (zs) (hq2) (by decide)
  intro hq3
  (try simp only [dcs, ne_eq] at hq3)
  refine zC 5 (partInsI bL c zs n (by omega) a1 b1 (by omega) (by omega) hn) ?_
  rintro _ _ _ ⟨m, q, hm, rfl, rfl, rfl⟩
  refine zB 1 ?_ ?_
  ·intro hq4
   (try simp only [dcs, ne_eq] at hq4)
   refine zT 0 rfl ⟨m, hm.trans hq2, rfl, rfl, rfl⟩
  intro hq4
  (try simp only [dcs, ne_eq] at hq4)
  refine zR 1 ?_
  refine zz (m) (hm.trans hq2) (by decide)
 intro ws hq4
 have hwl := hq4.length_eq
 refine zR 2 ?_
 refine zP (X := Bool) (fun x => [(87, .bool x)]) [0, 1, 2, 3, 8, 9, 10, 11] (fun _ => True) ?_ ?_
 ·skip
  refine zY 0 [1, 4, 7, 10, 13, 16, 19, 25, 28, 31, 23, 35, 36, 40, 43] ?_
  refine zG' 3 75 ?_ ?_
  ·intro g6
   (try simp only [dcs, ne_eq] at g6)
   refine zJ 7 ?_
   refine zJ 0 ?_
   refine zR 4 ?_
   refine go_back _ zA zM zM (trivial) (by decide)
  intro g6
  (try simp only [dcs, ne_eq] at g6)
  refine zR 3 ?_
  refine go_i64n 78 (a1 - 1) rfl ?_
  refine zIn 0 (a1 - 1) ?_
  refine zIn 2 pv2 ?_
  refine zLm 0 (a1 - 1) ws ?_
  refine zLm 0 pv2 ws ?_
  refine zC3 0 (lessI _ _) ?_
  refine zR 3 ?_
  refine go_back _ zA zM zM (trivial) (by decide)
 intro cr2 _
 refine zB 0 ?_ ?_
 ·intro hq5
  (try simp only [dcs, ne_eq] at hq5)
  refine zC 6 (partEqI bL c ws n (by omega) a1 b1 (by omega) (by omega) hn pv2 hpv2) ?_
  rintro _ _ _ ⟨m, mid, hm, hmid, rfl, rfl, rfl⟩
  refine zR 8 ?_
  refine zz (mid, b1, lim2, bal, par, m) (⟨by show mid ≤ b1; omega, by show b1 ≤ n; omega, by show b1 - mid ≤ b - a; omega, by show lim2 ≤ 1000; omega, hm.trans hq4⟩) (by show b1 - mid < b1 - a1; omega)
 intro hq5
 (try simp only [dcs, ne_eq] at hq5)
 refine zC 7 (partI bL c ws n (by omega) a1 b1 (by omega) (by omega) hn pv2 hpv2) ?_
 rintro _ _ _ ⟨m, mid, q, hm, hmid, rfl, rfl, rfl⟩
 have hm1 := hm.trans hq4
 have hml := hm1.length_eq
 refine zE 6 [0, 1, 2, 3, 10, 14, 15] ?_
 refine zR 10 ?_
 refine go_i64n 105 (mid - a1) rfl ?_
 refine zR 3 ?_
 refine go_i64n 108 (b1 - mid) rfl ?_
 refine zR 7 ?_
 refine go_re 110 (.int .i64 (IntKind.i64.wrap ((((b1 - a1) / 8) : Nat) : Int))) rfl ?_
 refine go_i64n 110 ((b1 - a1) / 8) rfl ?_
 refine zE 8 [0, 1, 2, 3, 9, 14, 16, 17, 18, 113] ?_
 refine zD' 0 ?_ ?_
 ·intro g7
  refine zR 12 ?_
  refine go_i64n 129 (mid + 1) rfl ?_
  refine zC 2 (ih (some ⟨bL, 0, none⟩) m (mid + 1) b1 lim2 (by omega) (by omega) (by omega) (by omega) (by omega)) ?_
  rintro _ _ _ ⟨m2, hm2, rfl, rfl, rfl⟩
  refine zE 1 [0, 1, 3, 8, 9, 14] ?_
  refine zR 5 ?_
  refine go_back (a1, mid, lim2, _, q, m2) zA zM zM (⟨by show a1 ≤ mid; omega, by show mid ≤ n; omega, by show mid - a1 ≤ b - a; omega, by show lim2 ≤ 1000; omega, hm2.trans hm1⟩) (by show mid - a1 < b1 - a1; omega)
 intro g7
 refine zC 13 (ih (some ⟨bL, 0, none⟩) m a1 mid lim2 (by omega) (by omega) (by omega) (by omega) (by omega)) ?_
 rintro _ _ _ ⟨m2, hm2, rfl, rfl, rfl⟩
 refine zE 1 [0, 2, 3, 8, 9, 14] ?_
 refine zR 3 ?_
 refine go_i64n 123 (mid + 1) rfl ?_
 refine zR 3 ?_
 refine go_back (mid + 1, b1, lim2, _, q, m2) zA zM zM (⟨by show mid + 1 ≤ b1; omega, by show b1 ≤ n; omega, by show b1 - (mid + 1) ≤ b - a; omega, by show lim2 ≤ 1000; omega, hm2.trans hm1⟩) (by show b1 - (mid + 1) < b1 - a1; omega)
theorem pdqI2 (c n : Nat) (hn : n ≤ 1000000000) : ∀ (d : Nat) (A : Option Addr) (l : List Int) (a b r : Nat), b - a < d → l.length = n → a ≤ b → b ≤ n → r ≤ 1000 → Spec Tryz.prog 201 #[.slice A n c, .int .i64 (a : Int), .int .i64 (b : Int), .int .i64 (r : Int)] [] [ol (tInt .i64) 3 A c l] (fun v Ps' Os' => ∃ m : List Int, m.Perm l ∧ v = .tuple #[] ∧ Ps' = [] ∧ Os' = [ol (tInt .i64) 3 A c m])
  | 0, _, _, _, _, _, h, _, _, _, _ => absurd h (Nat.not_lt_zero _)
  | d + 1, A, l, a, b, r, h, hl, hab, hb, hr => pdqI1 c n hn A l hl a b r hab hb hr (fun A l' a' b' r' h1 => pdqI2 c n hn d A l' a' b' r' (by omega))
theorem sortIf (A : Option Addr) (c : Nat) (l : List Int) (hn : l.length ≤ 1000000000) :
    Spec Tryz.prog 194 #[.slice A l.length c] [] [ol (tInt .i64) 3 A c l] (fun v Ps' Os' => ∃ m : List Int, m.Perm l ∧ v = .tuple #[] ∧ Ps' = [] ∧ Os' = [ol (tInt .i64) 3 A c m]) := by
 refine zSp _ Tryz.func194 Tryz.ntmps194 (fun _ _ _ => ?_)
 refine zR 1 ?_
 refine go_len_ol (xs := l) zM (fun l0 m0 => ?_)
 refine zR 10 ?_
 refine go_re 8 (.int .u64 (l.length : Int)) (by show some (Value.int _ _) = _; rw [wrap_u64 (by omega)]) ?_
 refine zC3 0 (bitsLen (l.length : Int) (by omega) (by omega)) ?_
 refine zC 0 (pdqI2 c l.length hn (l.length + 1) A l 0 l.length (Lib.bitLen l.length) (by omega) rfl (by omega) (by omega) (Nat.le_trans (bitLenAux_le 64 _) (by decide))) ?_
 rintro _ _ _ ⟨m, hm, rfl, rfl, rfl⟩
 refine zT 1 rfl ⟨m, hm, rfl, rfl, rfl⟩
end Go.Proofs.YtdconhalfanclaaGreat.SL
namespace Go.Proofs.YtdconhalfanclaaGreat.SL
theorem made_list (z : Array Value) : ∀ n : Nat, (madeCells z (n * z.size)).toList = (List.replicate n z.toList).flatten
  | 0 => by simp [madeCells]
  | n + 1 => by
    rw [List.replicate_succ', List.flatten_append, ← made_list z n]
    have h : ∀ N, (madeCells z N).toList = (List.range N).map fun i => z[i % z.size]! := fun N => by simp [madeCells, Array.toList_map]
    rw [h, h, Nat.add_mul, Nat.one_mul, List.range_add, List.map_append, List.map_map]
    congr 1
    apply List.ext_getElem?
    intro i
    simp only [List.flatten_cons, List.flatten_nil, List.append_nil, List.getElem?_map]
    by_cases hi : i < z.size
    · rw [List.getElem?_range hi]
      simp only [Option.map_some, Function.comp, Nat.mul_add_mod_self_right, Nat.mod_eq_of_lt hi, Array.getElem?_toList]
      rw [Array.getElem?_eq_getElem hi, getElem!_pos z i hi]
    · rw [List.getElem?_eq_none (by simp; omega), Array.getElem?_toList, Array.getElem?_eq_none (by omega)]; rfl
theorem Reps.rep {α : Type} {T : Ty α} {h : Heap} {x : α} {cs : List Value} (r : T.rep h x cs) : ∀ n, Reps T h (List.replicate n x) (List.replicate n cs).flatten
  | 0 => rfl
  | n + 1 => by rw [List.replicate_succ, List.replicate_succ, List.flatten_cons]; exact ⟨_, _, rfl, r, Reps.rep r n⟩
section
variable {C : Ctx} {k : List It} {E : Env} {Ps : List PA} {Os : List OA}
variable {o : Oper} {ops : Array Oper} {S : World → Prop} {r : Pl} {f : Bool}
theorem go_make_pt (n : Nat) {tb : TB} (ht : TOk C.P tb) {t e : TypeId} {x y : Operand} {k1 k2 : IntKind} {s1 : Nat} {a1 : Bool} {z1 : Value} {y1 : Nat} {i : TI}
    (ho : o.op = .makeSlice t x y) (hw : wants ops E o = some true) (hx : ev E x = some (.int k1 (n : Int))) (hy : ev E y = some (.int k2 (n : Int))) (hi : lookT tb t = some ⟨.slice e, s1, a1, z1, y1⟩) (he : lookT tb e = some i)
    (hd : okDst C.N o.dst = true) (hbt : Nat.ble i.bytes 100000 = true) (hz : Nat.beq (cellsL i.zero).length i.size = true) (hn : n ≤ 1000000000)
    (hS : f = true → ∀ b w hp ho, Sat w hp ho Ps (pt b e (List.replicate n (cellsL i.zero)).flatten :: Os) → S w)
    (g : ∀ b, Go C (.ops ops S r :: k) (setE o.dst (.slice (some ⟨b, 0, none⟩) n n) E) Ps (pt b e (List.replicate n (cellsL i.zero)).flatten :: Os)) : Go C (.ops ops S (.one 0 f o r) :: k) E Ps Os :=
  go_eff (fun b => .slice (some ⟨b, 0, none⟩) n n) (fun _ => Ps) (fun b => pt b e (List.replicate n (cellsL i.zero)).flatten :: Os) hw hd (fun a w hp ho' hf hs hb => by
    obtain ⟨xi, h1, h2, h3, h4⟩ := (ht _ _ he).info
    have hu := (ht _ _ hi).u
    have hbb : xi.bytes ≤ 100000 := by rw [h4]; exact Nat.le_of_ble_eq_true hbt
    have hmul : xi.bytes * n ≤ 100000 * 1000000000 := Nat.mul_le_mul hbb hn
    have hmulI : (xi.bytes : Int) * (n : Int) ≤ 281474976710656 := by
      have : ((xi.bytes * n : Nat) : Int) ≤ 281474976710656 := by omega
      rwa [Int.natCast_mul] at this
    have hr := run_make (P := C.P) w t e xi i.zero hu h1 h2 k1 k2 (n : Int) (n : Int) (by omega) (Int.le_refl _) hmulI (by omega)
    simp only [Int.toNat_natCast] at hr
    have hzs : i.zero.cells.size = i.size := by rw [cellsL_eq]; simpa using Nat.eq_of_beq_eq_true hz
    have hcs : (madeCells i.zero.cells (n * xi.size)).toList = (List.replicate n (cellsL i.zero)).flatten := by
      rw [h3, ← hzs, made_list, cellsL_eq]
    obtain ⟨ho2, q1, q2⟩ := sat_alloc hs hb (pt w.heap.size e (List.replicate n (cellsL i.zero)).flatten) (.cells (madeCells i.zero.cells (n * xi.size)) e) (fun h q => by
      show h _ = _
      rw [q, ← hcs])
    exact ⟨w.heap.size, _, hp, ho2, by simp [execOp, ho, hf.ev hx, hf.ev hy, hr], q1, q2⟩) hS g
theorem pt_reps {α : Type} {T : Ty α} {b e n : Nat} {x0 : α} {z : List Value} {hp h : Heap} (hz : T.rep hp x0 z) (hn : n ≤ 1000000000) (q : (pt b e (List.replicate n z).flatten).p hp h) : (ol T e (some ⟨b, 0, none⟩) n (List.replicate n x0)).p hp h := by
  have r := Reps.rep hz n
  have hl := r.len
  rw [List.length_replicate] at hl
  refine ⟨_, ⟨by rw [hl, List.length_replicate], by simp, by unfold maxLen; omega, .inr ⟨b, _, rfl, q, ?_, ?_⟩⟩, r⟩
  · simpa using hl
  · rw [List.take_of_length_le]; rw [List.length_replicate]; exact Nat.le_of_eq hl
theorem go_make {α : Type} (T : Ty α) (x0 : α) (n : Nat) {tb : TB} (ht : TOk C.P tb) {t e : TypeId} {x y : Operand} {k1 k2 : IntKind} {s1 : Nat} {a1 : Bool} {z1 : Value} {y1 : Nat} {i : TI}
    (ho : o.op = .makeSlice t x y) (hw : wants ops E o = some true) (hx : ev E x = some (.int k1 (n : Int))) (hy : ev E y = some (.int k2 (n : Int))) (hi : lookT tb t = some ⟨.slice e, s1, a1, z1, y1⟩) (he : lookT tb e = some i)
    (hd : okDst C.N o.dst = true) (hbt : Nat.ble i.bytes 100000 = true) (hzl : Nat.beq (cellsL i.zero).length i.size = true) (hz : ∀ h, T.rep h x0 (cellsL i.zero)) (hn : n ≤ 1000000000)
    (hS : f = true → ∀ b w hp ho, Sat w hp ho Ps (ol T e (some ⟨b, 0, none⟩) n (List.replicate n x0) :: Os) → S w)
    (g : ∀ b, Go C (.ops ops S r :: k) (setE o.dst (.slice (some ⟨b, 0, none⟩) n n) E) Ps (ol T e (some ⟨b, 0, none⟩) n (List.replicate n x0) :: Os)) : Go C (.ops ops S (.one 0 f o r) :: k) E Ps Os :=
  go_make_pt n ht ho hw hx hy hi he hd hbt hzl hn (fun e b w hp ho hs => hS e b w hp ho (by
    obtain ⟨g1, g2, a, b, c, d, e⟩ := hs.os
    exact ⟨hs.inp, hs.ino, hs.dj, hs.ps, g1, g2, a, b, c, pt_reps (hz hp) hn d, e⟩))
    fun b => go_imp _ [ol T e (some ⟨b, 0, none⟩) n (List.replicate n x0)] .here (fun hp h q => sep_one (pt_reps (hz hp) hn q)) (g b)
end
structure Rw (α : Type) where
  A : Option Addr
  c : Nat
  l : List α
def tRw (α : Type) : Ty (Rw α) := ⟨1, fun _ x cs => cs = [.slice x.A x.l.length x.c], fun h => by subst h; rfl, fun h => by subst h; rfl, fun _ h => h⟩
def fcRw {α : Type} (x : Rw α) : List Value := [.slice x.A x.l.length x.c]
theorem tRw_fc {α : Type} (h : Heap) (x : Rw α) (cs : List Value) (r : (tRw α).rep h x cs) : cs = fcRw x := r
theorem ent_Rw {α : Type} {Ps : List PA} {x : Rw α} : Ent Ps (rp (tRw α) x (fcRw x)) := fun _ _ => rfl
def olR {α : Type} (T : Ty α) (e : Nat) (x : Rw α) : OA := ol T e x.A x.c x.l
def slR {α : Type} (T : Ty α) (x : Rw α) : PA := sl T x.A x.c x.l
def inn {α : Type} (T : Ty α) (e : Nat) (R : List (Rw α)) : OA := OA.all (R.map (olR T e))
def pas {α : Type} (T : Ty α) (R : List (Rw α)) : PA := PA.all (R.map (slR T))
theorem Sep.unrem {hp : Heap} {A : OA} {Os r : List OA} (hr : Rem A Os r) : ∀ {ho h1 h2 : Heap}, h1.le ho → h2.le ho → h1.dj h2 → A.p hp h1 → Sep hp r h2 → Sep hp Os ho := by
  induction hr with
  | here => intro ho h1 h2 a b c d e; exact ⟨h1, h2, a, b, c, d, e⟩
  | there hr ih =>
    intro ho h1 h2 a b c d e
    obtain ⟨g1, g2, i1, i2, i3, i4, i5⟩ := e
    have d12 : h1.dj g1 := Heap.dj_le c (Heap.le_refl _) i1
    have d13 : h1.dj g2 := Heap.dj_le c (Heap.le_refl _) i2
    have dd : g1.dj (h1.add g2) := by
      intro x
      rcases d12 x with q | q
      · rcases i3 x with q2 | q2
        · exact .inl q2
        · exact .inr (by simp [Heap.add, q, q2])
      · exact .inl q
    refine ⟨g1, h1.add g2, i1.tr b, Heap.add_le a (i2.tr b), dd, i4, ih (Heap.le_add_left _ _) (Heap.le_add_right d13) d13 d i5⟩
theorem rem_at {α : Type} : ∀ {l : List α} {j : Nat} {x : α}, l[j]? = some x → Rem x l (l.eraseIdx j)
  | a :: l, 0, x, h => by simp at h; subst h; exact .here
  | a :: l, j + 1, x, h => .there (rem_at (by simpa using h))
theorem rem_set {α : Type} : ∀ {l : List α} {j : Nat} (x : α), j < l.length → Rem x (l.set j x) (l.eraseIdx j)
  | a :: l, 0, x, h => .here
  | a :: l, j + 1, x, h => .there (rem_set x (by simpa using h))
section
variable {C : Ctx} {k : List It} {E : Env} {Ps : List PA} {Os : List OA}
theorem go_all_out {L rr : List OA} {A : OA} (j : Nat) (hj : L[j]? = some A) (h : Rem (OA.all L) Os rr) (g : Go C k E Ps (A :: OA.all (L.eraseIdx j) :: rr)) : Go C k E Ps Os :=
  go_imp (OA.all L) [A, OA.all (L.eraseIdx j)] h (fun hp h1 q => by
    obtain ⟨g1, g2, a, b, c, d, e⟩ := Sep.rem (rem_at hj) q
    exact ⟨g1, g2, a, b, c, d, g2, Heap.nil, Heap.le_refl _, Heap.nil_le _, Heap.dj_symm (Heap.nil_dj _), e, trivial⟩) g
theorem go_all_in {L rr : List OA} (A : OA) (j : Nat) (hj : j < L.length) (h : Takes Os [A, OA.all (L.eraseIdx j)] rr) (g : Go C k E Ps (OA.all (L.set j A) :: rr)) : Go C k E Ps Os :=
  go_fold [A, OA.all (L.eraseIdx j)] (OA.all (L.set j A)) h (fun hp h q => by
    obtain ⟨g1, g2, a, b, c, d, g3, g4, a', b', c', d', _⟩ := q
    exact Sep.unrem (rem_set A hj) a (a'.tr b) (Heap.dj_le c (Heap.le_refl _) a') d d') g
theorem go_inn_out {α : Type} {T : Ty α} {e : Nat} {R : List (Rw α)} {rr : List OA} (j : Nat) {x : Rw α} (hj : R[j]? = some x) (h : Rem (inn T e R) Os rr) (g : Go C k E Ps (ol T e x.A x.c x.l :: OA.all ((R.map (olR T e)).eraseIdx j) :: rr)) : Go C k E Ps Os :=
  go_all_out j (by rw [List.getElem?_map, hj]; rfl) h g
theorem go_inn_in {α : Type} {T : Ty α} {e : Nat} {R : List (Rw α)} {rr : List OA} (x : Rw α) (j : Nat) (hj : j < R.length) (h : Takes Os [ol T e x.A x.c x.l, OA.all ((R.map (olR T e)).eraseIdx j)] rr) (g : Go C k E Ps (inn T e (R.set j x) :: rr)) : Go C k E Ps Os :=
  go_all_in (ol T e x.A x.c x.l) j (by simpa using hj) h (by rw [show ol T e x.A x.c x.l = olR T e x from rfl, ← List.map_set]; exact g)
theorem go_inn_nil {α : Type} (T : Ty α) (e : Nat) (g : Go C k E Ps (inn T e [] :: Os)) : Go C k E Ps Os :=
  fun a w hp ho hf hs hb => g a w hp ho hf ⟨hs.inp, hs.ino, hs.dj, hs.ps, Heap.nil, ho, Heap.nil_le _, Heap.le_refl _, Heap.nil_dj _, trivial, hs.os⟩ hb
theorem sep_nils {α : Type} {T : Ty α} {e : Nat} {hp h : Heap} (x : Rw α) (hx : x.c = 0 ∧ x.l = []) : ∀ n, Sep hp ((List.replicate n x).map (olR T e)) h
  | 0 => trivial
  | n + 1 => ⟨Heap.nil, h, Heap.nil_le _, Heap.le_refl _, Heap.nil_dj _, by obtain ⟨A, c, l⟩ := x; obtain ⟨h1, h2⟩ := hx; subst h1; subst h2; exact ol_nil T e A hp _, sep_nils x hx n⟩
theorem go_inn_reps {α : Type} (T : Ty α) (e n : Nat) (g : Go C k E Ps (inn T e (List.replicate n ⟨none, 0, []⟩) :: Os)) : Go C k E Ps Os :=
  fun a w hp ho hf hs hb => g a w hp ho hf ⟨hs.inp, hs.ino, hs.dj, hs.ps, Heap.nil, ho, Heap.nil_le _, Heap.le_refl _, Heap.nil_dj _, sep_nils _ ⟨rfl, rfl⟩ n, hs.os⟩ hb
theorem go_inn_app {α : Type} {T : Ty α} {e : Nat} {R : List (Rw α)} {rr : List OA} (x : Rw α) (h : Takes Os [ol T e x.A x.c x.l, inn T e R] rr) (g : Go C k E Ps (inn T e (R ++ [x]) :: rr)) : Go C k E Ps Os :=
  go_fold [ol T e x.A x.c x.l, inn T e R] (inn T e (R ++ [x])) h (fun hp h q => by
    obtain ⟨g1, g2, a, b, c, d, g3, g4, a', b', c', d', _⟩ := q
    show Sep hp ((R ++ [x]).map (olR T e)) h
    rw [List.map_append]
    exact Sep.app (a'.tr b) a (Heap.dj_le (Heap.dj_symm c) a' (Heap.le_refl _)) d' (sep_one d)) g
theorem inn_sls {α : Type} {T : Ty α} {e : Nat} {hp H : Heap} (hpl : hp.le H) : ∀ {R : List (Rw α)} {h : Heap}, h.le H → Sep hp (R.map (olR T e)) h → ∀ x ∈ R, Sl T H x.A x.c x.l
  | [], _, _, _, _, hx => nomatch hx
  | y :: R, h, hl, ⟨g1, g2, a, b, c, d, e'⟩, x, hx => by
    rcases List.mem_cons.1 hx with q | q
    · subst q; obtain ⟨cs, r, s⟩ := d; exact sl_of_row r (a.tr hl) (s.up hpl)
    · exact inn_sls hpl (b.tr hl) e' x q
theorem reps_rows {α : Type} {T : Ty α} {H h : Heap} : ∀ {R : List (Rw α)} {cs : List Value}, Reps (tRw α) h R cs → (∀ x ∈ R, Sl T H x.A x.c x.l) → Reps (tSl T) H (R.map (·.l)) cs
  | [], _, r, _ => r
  | x :: R, _, ⟨a, b, e, r, s⟩, hR => ⟨a, b, e, ⟨x.A, x.c, r, hR x (.head _)⟩, reps_rows s fun y hy => hR y (.tail _ hy)⟩
theorem go_freeze_oo {α : Type} {T : Ty α} {e1 e2 : Nat} {A : Option Addr} {c : Nat} {R : List (Rw α)} {rr : List OA} (h : Takes Os [ol (tRw α) e1 A c R, inn T e2 R] rr) (g : Go C k E (sl (tSl T) A c (R.map (·.l)) :: Ps) rr) : Go C k E Ps Os :=
  go_fold [ol (tRw α) e1 A c R, inn T e2 R] (OA.all [ol (tRw α) e1 A c R, inn T e2 R]) h (fun _ _ q => q) (go_freeze _ (sl (tSl T) A c (R.map (·.l))) .here (fun hp h1 H hl hl1 q => by
    obtain ⟨g1, g2, a, b, _, ⟨cs, hrow, hreps⟩, g3, g4, a', b', _, hin, _⟩ := q
    refine sl_of_row (e := e1) (cs := cs) (h1 := g1) ?_ (a.tr hl1) (reps_rows hreps (inn_sls hl ((a'.tr b).tr hl1) hin))
    rw [List.length_map]; exact hrow) g)
theorem go_ofRw {α : Type} {T : Ty α} {e : Nat} {A : Option Addr} {c : Nat} {R : List (Rw α)} {rr : List OA} (h : Rem (ol (tRw α) e A c R) Os rr) (hq : pas T R ∈ Ps) (g : Go C k E Ps (ol (tSl T) e A c (R.map (·.l)) :: rr)) : Go C k E Ps Os :=
  fun a w hp ho hf hs hb => by
  obtain ⟨g1, g2, la, lb, ldj, ⟨cs, lrow, lreps⟩, lsep⟩ := Sep.rem h hs.os
  refine g a w hp ho hf ⟨hs.inp, hs.ino, hs.dj, hs.ps, g1, g2, la, lb, ldj, ⟨cs, by rw [List.length_map]; exact lrow, reps_rows lreps fun x hx => hs.ps _ hq _ (List.mem_map.2 ⟨x, hx, rfl⟩)⟩, lsep⟩ hb
theorem go_pas_at {α : Type} {T : Ty α} {R : List (Rw α)} (h : pas T R ∈ Ps) (j : Nat) {x : Rw α} (hj : R[j]? = some x) (g : Go C k E (sl T x.A x.c x.l :: Ps) Os) : Go C k E Ps Os :=
  go_ent (sl T x.A x.c x.l) (fun hh a => a _ h _ (List.mem_map.2 ⟨x, List.mem_of_getElem? hj, rfl⟩)) g
theorem go_pas_nil {α : Type} (T : Ty α) (g : Go C k E (pas T [] :: Ps) Os) : Go C k E Ps Os := go_ent (pas T []) (fun _ _ p hp => nomatch hp) g
theorem go_pas_app {α : Type} {T : Ty α} {R : List (Rw α)} (x : Rw α) (h : pas T R ∈ Ps) (hx : sl T x.A x.c x.l ∈ Ps) (g : Go C k E (pas T (R ++ [x]) :: Ps) Os) : Go C k E Ps Os :=
  go_ent (pas T (R ++ [x])) (fun hh a p hp => by
    rw [List.map_append] at hp
    rcases List.mem_append.1 hp with q | q
    · exact a _ h _ q
    · rw [List.map_singleton, List.mem_singleton] at q; subst q; exact a _ hx) g
theorem go_elem_row {α : Type} {T : Ty α} {A : Option Addr} {c : Nat} {xss : List (List α)} (h : sl (tSl T) A c xss ∈ Ps) (j : Nat) {xs : List α} (hj : xss[j]? = some xs) (g : ∀ b o A' c', A = some ⟨b, o, none⟩ → Go C k E (cl b (o + j * 1) [.slice A' xs.length c'] :: sl T A' c' xs :: Ps) Os) : Go C k E Ps Os :=
  go_elem h j hj fun b o cs hA => fun a w hp ho hf hs hb => by
    obtain ⟨A', c', e, s⟩ := hs.ps _ (.tail _ (.head _))
    subst e
    exact g b o A' c' hA a w hp ho hf ⟨hs.inp, hs.ino, hs.dj, forall_cons (hs.ps _ (.head _)) (forall_cons s fun p hp => hs.ps p (.tail _ (.tail _ hp))), hs.os⟩ hb
end
theorem Reps.fd {α : Type} {T : Ty α} {h : Heap} : ∀ {xs : List α} {cs : List Value} {j n : Nat} {x y : α} {vs : List Value}, Reps T h xs cs → xs[j]? = some x → (∀ ds, T.rep h x ds → T.rep h y (putS n vs ds)) → n + vs.length ≤ T.size → Reps T h (xs.set j y) (putS (j * T.size + n) vs cs)
  | [], _, _, _, _, _, _, _, hj, _, _ => by simp at hj
  | x :: xs, _, 0, n, x', y, vs, ⟨a, b, e, r, s⟩, hj, ry, hn => by
    subst e
    simp at hj; subst hj
    refine ⟨putS n vs a, b, ?_, ry a r, s⟩
    have ha := T.len r
    rw [Nat.zero_mul, Nat.zero_add]
    unfold putS
    rw [List.take_append_of_le_length (by omega), List.drop_append_of_le_length (by omega), List.append_assoc, List.append_assoc]
  | x :: xs, _, j + 1, n, x', y, vs, ⟨a, b, e, r, s⟩, hj, ry, hn => by
    subst e
    refine ⟨a, putS (j * T.size + n) vs b, ?_, r, Reps.fd s (by simpa using hj) ry hn⟩
    have ha := T.len r
    unfold putS
    rw [show (j + 1) * T.size + n = a.length + (j * T.size + n) from by rw [ha, Nat.add_mul]; omega, List.take_append, List.take_of_length_le (by omega), Nat.add_sub_cancel_left, List.append_assoc, List.drop_append, List.drop_of_length_le (by omega), List.nil_append, show a.length + (j * T.size + n) + vs.length - a.length = j * T.size + n + vs.length by omega]
section
variable {C : Ctx} {k : List It} {E : Env} {Ps : List PA} {Os : List OA}
variable {o : Oper} {ops : Array Oper} {S : World → Prop} {r : Pl} {f : Bool}
theorem go_store_fd {α : Type} {T : Ty α} {tb : TB} (ht : TOk C.P tb) {t : TypeId} {x y : Operand} {i : TI} {e b j c : Nat} {v : Value} {xs : List α} (n : Nat) {x0 : α} (z : α) {rr : List OA} (ho : o.op = .store t x y) (hw : wants ops E o = some true)
    (hx : ev E x = some (.pointer (some ⟨b, 0 + j * T.size + n, none⟩))) (hy : ev E y = some v) (hi : lookT tb t = some i) (hd : okDst C.N o.dst = true) (hr : Rem (ol T e (some ⟨b, 0, none⟩) c xs) Os rr) (hj : xs[j]? = some x0)
    (hl : Nat.beq (cellsL v).length i.size = true) (h1 : oneCells (cellsL v) = true) (hn : n + (cellsL v).length ≤ T.size) (hm : ∀ h ds, T.rep h x0 ds → T.rep h z (putS n (cellsL v) ds))
    (hS : f = true → ∀ w hp ho, Sat w hp ho Ps (ol T e (some ⟨b, 0, none⟩) c (xs.set j z) :: rr) → S w)
    (g : Go C (.ops ops S r :: k) (setE o.dst undef E) Ps (ol T e (some ⟨b, 0, none⟩) c (xs.set j z) :: rr)) : Go C (.ops ops S (.one 0 f o r) :: k) E Ps Os :=
  go_effU Ps (ol T e (some ⟨b, 0, none⟩) c (xs.set j z) :: rr) hw hd (fun a w hp ho' hf hs hb => by
    obtain ⟨g1, g2, la, lb, ldj, ⟨cs, lrow, lreps⟩, lsep⟩ := Sep.rem hr hs.os
    obtain ⟨q1, q2, q3, q4⟩ := lrow
    have hjl : j < xs.length := (List.getElem?_eq_some_iff.1 hj).1
    rcases q4 with q | ⟨g, cur, q4, q5, q6, q7⟩
    · omega
    · cases q4
      have hbw : w.heap[b]? = _ := hs.ino _ _ (la _ _ q5)
      have hle := Nat.eq_of_beq_eq_true hl
      have hjs : j * T.size + T.size ≤ xs.length * T.size := by
        have := Nat.mul_le_mul_right T.size (show j + 1 ≤ xs.length from hjl)
        rwa [Nat.add_mul, Nat.one_mul] at this
      have hxc := Nat.mul_le_mul_right T.size q2
      obtain ⟨c', hrun, hc'⟩ := run_storeCells (P := C.P) (b := b) (ty := e) (o := 0 + j * T.size + n) (cellsL v) 0 cur w hbw (by rw [q6]; omega) h1
      simp only [Nat.zero_add, Nat.add_zero] at hrun hc'
      have hc2 : c' = (putS (j * T.size + n) (cellsL v) cur.toList).toArray := by
        apply Array.ext'
        rw [hc']; simp [putS]
      subst hc2
      have hs2 : Sat w hp ho' Ps (pt b e cur.toList :: rr) := ⟨hs.inp, hs.ino, hs.dj, hs.ps, g1, g2, la, lb, ldj, by show g1 b = _; rw [q5], lsep⟩
      obtain ⟨ho2, h2, h3⟩ := sat_store (C := C) (cs' := putS (j * T.size + n) (cellsL v) cur.toList) .here hs2 hb
      refine ⟨_, hp, ho2, ?_, ?_, h3⟩
      · have hsz := (ht _ _ hi).size
        simp [execOp, ho, hf.ev hx, hf.ev hy, Instr.storeAt, Instr.sureAddr, storeVar, hsz, cellsL_eq, hle, hrun]
      · obtain ⟨k1, k2, ka, kb, kdj, kpt, ksep⟩ := h2.os
        refine ⟨h2.inp, h2.ino, h2.dj, h2.ps, k1, k2, ka, kb, kdj, ⟨putS (j * T.size + n) (cellsL v) cs, ⟨?_, by simpa using q2, q3, .inr ⟨b, _, rfl, kpt, ?_, ?_⟩⟩, lreps.fd hj (hm hp) hn⟩, ksep⟩
        · rw [putS_len (by rw [q1]; omega), q1]; simp
        · simp only [List.size_toArray]; rw [putS_len (by simp [q6]; omega)]; simpa using q6
        · rw [← q7]
          simp only [List.length_set]
          exact putS_take_comm (by omega) (by rw [show cur.toList.length = cur.size from Array.length_toList, q6]; omega)) hS g
end
def ones (s : List Int) : List (Int × Value) := s.map fun x => (x, .int .i64 1)
theorem ones_idx (s : List Int) (n : Int) : (ones s).findIdx? (fun x => x.1 == n) = s.findIdx? (fun x => x == n) := by
  induction s with
  | nil => rfl
  | cons a s ih => show List.findIdx? _ ((a, _) :: ones s) = _; rw [List.findIdx?_cons, List.findIdx?_cons, ih]
theorem mget_ones (s : List Int) (n : Int) : mget (ones s) n = if n ∈ s then some (.int .i64 1) else none := by
  induction s with
  | nil => rfl
  | cons a s ih =>
    have e : (List.find? (fun x : Int × Value => x.1 == n) ((a, Value.int .i64 1) :: ones s)) = if a = n then some (a, .int .i64 1) else List.find? (fun x => x.1 == n) (ones s) := by
      rw [List.find?_cons]
      by_cases h : a = n
      · simp [h]
      · rw [if_neg h]; simp only [show (a == n) = false by simpa using h]
    show ((List.find? (fun x : Int × Value => x.1 == n) ((a, Value.int .i64 1) :: ones s)).map (·.2)) = _
    rw [e]
    by_cases h : a = n
    · subst h; simp
    · rw [if_neg h]
      have := ih
      unfold mget at this
      rw [this]; simp [Ne.symm h]
theorem mset_ones (s : List Int) (n : Int) : mset (ones s) n (.int .i64 1) = ones (if n ∈ s then s else s ++ [n]) := by
  unfold mset
  rw [ones_idx]
  cases e : s.findIdx? (fun x => x == n) with
  | none =>
    rw [List.findIdx?_eq_none_iff] at e
    rw [if_neg (fun h => by have := e n h; simp at this)]
    simp [ones]
  | some i =>
    rw [List.findIdx?_eq_some_iff_getElem] at e
    obtain ⟨hi, h1, _⟩ := e
    have hm : n ∈ s := by rw [beq_iff_eq] at h1; rw [← h1]; exact List.getElem_mem _
    rw [if_pos hm]
    simp only
    apply List.ext_getElem?
    intro j
    rw [List.getElem?_modify]
    cases hj : (ones s)[j]? with
    | none => rfl
    | some x =>
      show some (if i = j then (x.1, Value.int .i64 1) else x) = some x
      have : x.2 = .int .i64 1 := by
        simp only [ones, List.getElem?_map] at hj
        cases hs : s[j]? with
        | none => rw [hs] at hj; cases hj
        | some y => rw [hs] at hj; cases hj; rfl
      split
      · rw [← this]
      · rfl
structure Wt where
  b : Option Nat
  s : List Int
def tWt : Ty Wt := ⟨1, fun _ x cs => cs = [.map x.b], fun h => by subst h; rfl, fun h => by subst h; rfl, fun _ h => h⟩
def fcWt (x : Wt) : List Value := [.map x.b]
theorem tWt_fc (h : Heap) (x : Wt) (cs : List Value) (r : tWt.rep h x cs) : cs = fcWt x := r
theorem ent_Wt {Ps : List PA} {x : Wt} : Ent Ps (rp tWt x (fcWt x)) := fun _ _ => rfl
def wtO (x : Wt) : OA := ⟨fun hp h => match x.b with | none => x.s = [] | some b => (mapO b .i64 (ones x.s)).p hp h, fun {hp hp' h} hl q => by
  cases e : x.b with
  | none => rw [e] at q; exact q
  | some b => rw [e] at q; exact q⟩
def wts (R : List Wt) : OA := OA.all (R.map wtO)
section
variable {C : Ctx} {k : List It} {E : Env} {Ps : List PA} {Os : List OA}
variable {o : Oper} {ops : Array Oper} {S : World → Prop} {r : Pl} {f : Bool}
theorem sep_wts {hp h : Heap} : ∀ n, Sep hp ((List.replicate n (⟨none, []⟩ : Wt)).map wtO) h
  | 0 => trivial
  | n + 1 => ⟨Heap.nil, h, Heap.nil_le _, Heap.le_refl _, Heap.nil_dj _, rfl, sep_wts n⟩
theorem go_wts_reps (n : Nat) (g : Go C k E Ps (wts (List.replicate n ⟨none, []⟩) :: Os)) : Go C k E Ps Os :=
  fun a w hp ho hf hs hb => g a w hp ho hf ⟨hs.inp, hs.ino, hs.dj, hs.ps, Heap.nil, ho, Heap.nil_le _, Heap.le_refl _, Heap.nil_dj _, sep_wts n, hs.os⟩ hb
theorem go_wts_out {R : List Wt} {rr : List OA} (j : Nat) {x : Wt} (hj : R[j]? = some x) (h : Rem (wts R) Os rr) (g : Go C k E Ps (wtO x :: OA.all ((R.map wtO).eraseIdx j) :: rr)) : Go C k E Ps Os :=
  go_all_out j (by rw [List.getElem?_map, hj]; rfl) h g
theorem go_wts_in {R : List Wt} {rr : List OA} (x : Wt) (j : Nat) (hj : j < R.length) (h : Takes Os [wtO x, OA.all ((R.map wtO).eraseIdx j)] rr) (g : Go C k E Ps (wts (R.set j x) :: rr)) : Go C k E Ps Os :=
  go_all_in (wtO x) j (by simpa using hj) h (by rw [← List.map_set]; exact g)
theorem go_wt_some {b : Nat} {s : List Int} {rr : List OA} (h : Rem (wtO ⟨some b, s⟩) Os rr) (g : Go C k E Ps (mapO b .i64 (ones s) :: rr)) : Go C k E Ps Os := go_imp _ [_] h (fun _ _ q => sep_one q) g
theorem go_wt_mk {b : Nat} {s : List Int} {rr : List OA} (h : Rem (mapO b .i64 (ones s)) Os rr) (g : Go C k E Ps (wtO ⟨some b, s⟩ :: rr)) : Go C k E Ps Os := go_imp _ [wtO ⟨some b, s⟩] h (fun _ _ q => sep_one q) g
theorem go_wt_none {s : List Int} {rr : List OA} (h : Rem (wtO ⟨none, s⟩) Os rr) (g : s = [] → Go C k E Ps Os) : Go C k E Ps Os := go_ofact _ h (fun _ _ q => q) g
theorem len_wt {tb : TB} (ht : TOk C.P tb) {t kt et : TypeId} {y : Operand} {s1 : Nat} {a1 : Bool} {z1 : Value} {y1 : Nat} {x : Wt} {rr : List OA} (ho : o.op = .call ⟨.builtin .len, #[y], #[t]⟩) (hy : ev E y = some (.map x.b)) (hi : lookT tb t = some ⟨.map kt et, s1, a1, z1, y1⟩) (hr : Rem (wtO x) Os rr) :
    ∀ a w hp ho, Fits C.N E a → Sat w hp ho Ps Os → (execOp a.eval o).run C.P w = .ok (.value (.int .i64 (x.s.length : Int))) w := fun a w hp ho' hf hs => by
  obtain ⟨g1, la, hq⟩ := hr.sep hs.os
  have hu := run_und (ht _ _ hi).u w
  obtain ⟨b, s⟩ := x
  cases b with
  | none =>
    have : s = [] := hq
    subst this
    have hrun : (Builtin.len_ #[t] o.type #[.map none]).run C.P w = .ok (.int .i64 0) w := by simp [Builtin.len_, hu, goInt]
    have hy' : ev E y = some (.map none) := hy
    simp [execOp, ho, resolve, invoke, builtin, hf.ev hy', hrun]
  | some b =>
    have hy' : ev E y = some (.map (some b)) := hy
    obtain ⟨es, clock, hbb, hm⟩ := hq
    have hbw : w.heap[b]? = some (.map es clock) := hs.ino _ _ (la _ _ hbb)
    have hl : es.size = s.length := by have := congrArg List.length hm; simpa [ones] using this
    have hg := MapKept.run_getObj_map (P := C.P) hbw
    have hrun : (Builtin.len_ #[t] o.type #[.map (some b)]).run C.P w = .ok (.int .i64 (s.length : Int)) w := by simp [Builtin.len_, hu, hg, goInt, hl]
    simp [execOp, ho, resolve, invoke, builtin, hf.ev hy', hrun]
theorem lookup_none {tb : TB} (ht : TOk C.P tb) {t kt et : TypeId} {x y : Operand} {q kk : IntKind} {s1 : Nat} {a1 : Bool} {z1 : Value} {y1 : Nat} {s2 : Nat} {a2 : Bool} {z2 : Value} {y2 : Nat} {i : TI} {n : Int}
    (ho : o.op = .lookup t x y false) (hx : ev E x = some (.map none)) (hy : ev E y = some (.int kk n)) (h1 : lookT tb t = some ⟨.map kt et, s1, a1, z1, y1⟩) (h2 : lookT tb kt = some ⟨.int q, s2, a2, z2, y2⟩) (h3 : lookT tb et = some i) :
    ∀ a w hp ho, Fits C.N E a → Sat w hp ho Ps Os → (execOp a.eval o).run C.P w = .ok (.value i.zero) w := fun a w hp ho' hf hs => by
  have hu := run_und (ht _ _ h1).u w
  have hk := run_und (ht _ _ h2).u w
  have hz := (ht _ _ h3).zero w
  have hck : ∀ b, (Instr.checkKey b 10000 kt (.int kk n)).run C.P w = .ok () w := fun b => run_ckI w hk
  have hfk : (Instr.findKey kt (.int kk n) []).run C.P w = .ok none w := by simp [Instr.findKey, hk, Instr.findNow]
  have hrun : (Instr.lookup t (.map none) (.int kk n) false).run C.P w = .ok i.zero w := by
    simp [Instr.lookup, hu, hck, hfk, hz]
  simp [execOp, ho, hf.ev hx, hf.ev hy, hrun]
theorem lookup_wt {tb : TB} (ht : TOk C.P tb) {t kt et : TypeId} {x y : Operand} {q : IntKind} {s1 : Nat} {a1 : Bool} {z1 : Value} {y1 : Nat} {s2 : Nat} {a2 : Bool} {z2 : Value} {y2 : Nat} {u : TypeDesc} {s3 : Nat} {a3 : Bool} {y3 : Nat} {n : Int} {X : Wt} {rr : List OA}
    (ho : o.op = .lookup t x y false) (hx : ev E x = some (.map X.b)) (hy : ev E y = some (.int .i64 n)) (h1 : lookT tb t = some ⟨.map kt et, s1, a1, z1, y1⟩) (h2 : lookT tb kt = some ⟨.int q, s2, a2, z2, y2⟩) (h3 : lookT tb et = some ⟨u, s3, a3, .int .i64 0, y3⟩) (hr : Rem (wtO X) Os rr) :
    ∀ a w hp ho, Fits C.N E a → Sat w hp ho Ps Os → (execOp a.eval o).run C.P w = .ok (.value (.int .i64 (if n ∈ X.s then 1 else 0))) w := fun a w hp ho' hf hs => by
  obtain ⟨g1, la, hq⟩ := hr.sep hs.os
  obtain ⟨b, s⟩ := X
  cases b with
  | none =>
    have : s = [] := hq
    subst this
    exact lookup_none ht ho hx hy h1 h2 h3 a w hp ho' hf hs
  | some b =>
    obtain ⟨es, clock, hbb, hm⟩ := hq
    have hbw : w.heap[b]? = some (.map es clock) := hs.ino _ _ (la _ _ hbb)
    have := run_lookupI ht w (n := n) (c := false) h1 h2 h3 hbw hm
    simp only [Bool.false_eq_true, if_false, mget_ones] at this
    simp only [execOp, ho, hf.ev hx, hf.ev hy]
    have e : ((if n ∈ s then some (Value.int .i64 1) else none).getD (Value.int .i64 0)) = .int .i64 (if n ∈ s then 1 else 0) := by split <;> rfl
    rw [e] at this
    simp [this]
theorem eqnil_wt {t t2 : TypeId} {x y : Operand} {b : Option Nat} {tb : TB} (ht : TOk C.P tb) {kt et : TypeId} {s1 : Nat} {a1 : Bool} {z1 : Value} {y1 : Nat} (ho : o.op = .binOp .eql t x y t2) (hx : ev E x = some (.map b)) (hy : ev E y = some (.map none)) (hi : lookT tb t = some ⟨.map kt et, s1, a1, z1, y1⟩) :
    ∀ a w hp ho, Fits C.N E a → Sat w hp ho Ps Os → (execOp a.eval o).run C.P w = .ok (.value (.bool b.isNone)) w := fun a w hp ho' hf hs => by
  have hu := run_und (ht _ _ hi).u w
  have hg : (eqGuard .eql t x y (.map b) (.map none)).run C.P w = .ok () w := by cases b <;> simp [eqGuard]
  have he : ∀ d, (Op.equalIn (d + 1) t (.map b) (.map none)).run C.P w = .ok b.isNone w := fun d => by
    cases b <;> simp [Op.equalIn, hu]
  have hb : (binOp .eql t (.map b) (.map none)).run C.P w = .ok (.bool b.isNone) w := by simp only [binOp, equal_succ]; simp [he]
  simp [execOp, ho, hf.ev hx, hf.ev hy, hg, hb]
theorem map_erIdx {α β : Type} (f : α → β) : ∀ (l : List α) (i : Nat), (l.eraseIdx i).map f = (l.map f).eraseIdx i
  | [], _ => rfl
  | a :: l, 0 => rfl
  | a :: l, i + 1 => by simp [map_erIdx f l i]
theorem ones_erase (s : List Int) (n : Int) : (match s.findIdx? (fun x => x == n) with | none => s | some j => s.eraseIdx j) = s.erase n := by
  induction s with
  | nil => rfl
  | cons a s ih =>
    rw [List.findIdx?_cons, List.erase_cons]
    by_cases h : (a == n) = true
    · rw [h]; simp
    · rw [show (a == n) = false by simpa using h] 
      simp only [Bool.false_eq_true, if_false]
      rw [← ih]
      cases s.findIdx? (fun x => x == n) <;> simp
theorem go_mdel {tb : TB} (ht : TOk C.P tb) {t kt et : TypeId} {x y : Operand} {q : IntKind} {s1 : Nat} {a1 : Bool} {z1 : Value} {y1 : Nat} {s2 : Nat} {a2 : Bool} {z2 : Value} {y2 : Nat} {b : Nat} {s : List Int} {n : Int} {tk : TypeId} {rr : List OA}
    (ho : o.op = .call ⟨.builtin .delete, #[x, y], #[t, tk]⟩) (hw : wants ops E o = some true) (hx : ev E x = some (.map (some b))) (hy : ev E y = some (.int .i64 n)) (h1 : lookT tb t = some ⟨.map kt et, s1, a1, z1, y1⟩) (h2 : lookT tb kt = some ⟨.int q, s2, a2, z2, y2⟩) (hd : okDst C.N o.dst = true)
    (hr : Rem (wtO ⟨some b, s⟩) Os rr) (hS : f = true → ∀ w hp ho, Sat w hp ho Ps (wtO ⟨some b, s.erase n⟩ :: rr) → S w)
    (g : Go C (.ops ops S r :: k) (setE o.dst (.tuple #[]) E) Ps (wtO ⟨some b, s.erase n⟩ :: rr)) : Go C (.ops ops S (.one 0 f o r) :: k) E Ps Os :=
  go_eff (fun _ : Unit => .tuple #[]) (fun _ => Ps) (fun _ => wtO ⟨some b, s.erase n⟩ :: rr) hw hd (fun a w hp ho' hf hs hb => by
    obtain ⟨g1, la, es, clock, hbb, hm⟩ := hr.sep hs.os
    have hbw : w.heap[b]? = some (.map es clock) := hs.ino _ _ (la _ _ hbb)
    have hu := run_und (ht _ _ h1).u w
    have hk := run_und (ht _ _ h2).u w
    have hg := MapKept.run_getObj_map (P := C.P) hbw
    have hf' := find_now q .i64 n es.toList (ones s) 0 hm
    have hck : ∀ b', (Instr.checkKey b' 10000 kt (.int .i64 n)).run C.P w = .ok () w := fun b' => run_ckI w hk
    have hfk : (Instr.findKey kt (.int .i64 n) es.toList).run C.P w = .ok (match (ones s).findIdx? (fun x => x.1 == n) with | none => none | some j => some (0 + j, ((ones s)[j]?.map (·.2)).getD undef)) w := by
      cases e : (ones s).findIdx? (fun x => x.1 == n) <;> simp [Instr.findKey, hk, hf', e]
    have key : ∃ es', (Builtin.delete_ #[t, tk] o.type #[.map (some b), .int .i64 n]).run C.P w = .ok (.tuple #[]) { w with heap := w.heap.setIfInBounds b (.map es' clock) } ∧ MapIs .i64 es'.toList (ones (s.erase n)) := by
      rw [ones_idx] at hfk
      have he := ones_erase s n
      cases e : s.findIdx? (fun x => x == n) with
      | none =>
        rw [e] at hfk he
        refine ⟨es, ?_, by rw [← he]; exact hm⟩
        simp [Builtin.delete_, hu, hg, hck, hfk, MapKept.run_setObj_map _ hbw]
      | some j =>
        rw [e] at hfk he
        refine ⟨es.eraseIdxIfInBounds j, ?_, ?_⟩
        · simp [Builtin.delete_, hu, hg, hck, hfk, MapKept.run_setObj_map _ hbw]
        · simp only at he
          rw [← he]
          have hj : (es.eraseIdxIfInBounds j).toList = es.toList.eraseIdx j := by
            unfold Array.eraseIdxIfInBounds
            split
            · simp
            · rename_i hn
              rw [List.eraseIdx_of_length_le (by simpa using hn)]
          unfold MapIs at hm ⊢
          rw [hj, map_erIdx, hm]
          simp only [ones]
          rw [map_erIdx, map_erIdx]
    obtain ⟨es', hrun, hm'⟩ := key
    obtain ⟨ho2, q1, q2⟩ := sat_obj (C := C) (new := .map es' clock) (B := wtO ⟨some b, s.erase n⟩) hr (fun hp g ⟨es, clock, e, _⟩ => ⟨_, e⟩) (fun hp g e => ⟨es', clock, e, hm'⟩) hs hb
    exact ⟨(), _, hp, ho2, by simp [execOp, ho, resolve, invoke, builtin, hf.ev hx, hf.ev hy, hrun], q1, q2⟩) (fun hf' _ => hS hf') (fun _ => g)
end
end Go.Proofs.YtdconhalfanclaaGreat.SL
namespace Go.Proofs.YtdconhalfanclaaGreat.SL
open Go
abbrev tI : Ty Int := tInt .i64
theorem and_mask (n : Nat) (h : n < 4294967296) : IntKind.u64.wrap ((BitVec.ofInt 64 (n : Int) &&& BitVec.ofInt 64 4294967295).toNat : Int) = (n : Int) := by
  have h1 : (BitVec.ofInt 64 (n : Int)).toNat = n := by rw [BitVec.toNat_ofInt]; omega
  have h2 : (BitVec.ofInt 64 4294967295).toNat = 2 ^ 32 - 1 := by decide
  rw [BitVec.toNat_and, h1, h2, Nat.and_two_pow_sub_one_eq_mod, Nat.mod_eq_of_lt (by omega), wrap_u64 (by omega)]
theorem shr_32 (n : Nat) (h : n < 4294967296) : (n : Int).fdiv (2 ^ Nat.min 32 64) = 0 := by
  show (n : Int).fdiv 4294967296 = 0
  rw [Int.fdiv_eq_ediv_of_nonneg _ (by decide)]; omega
def ptI (b t e : Nat) (l : List Int) : OA := OA.ex fun A : Option Addr => OA.ex fun c : Nat => OA.all [pt b t [.slice A l.length c], ol tI e A c l]
theorem ptI_mk {b t e : Nat} {A : Option Addr} {c : Nat} {l : List Int} {hp h : Heap} (q : Sep hp [pt b t [.slice A l.length c], ol tI e A c l] h) : (ptI b t e l).p hp h := ⟨A, c, q⟩
theorem go_ptI {C : Ctx} {k : List It} {E : Env} {Ps : List PA} {Os : List OA} {b t e : Nat} {l : List Int} {rr : List OA} (h : Rem (ptI b t e l) Os rr) (g : ∀ (A : Option Addr) (c : Nat), Go C k E Ps ([pt b t [.slice A l.length c], ol tI e A c l] ++ rr)) : Go C k E Ps Os :=
  go_oex h fun A => go_oex .here fun c => go_oall .here (g A c)
theorem flat_one (n : Nat) (v : Value) : (List.replicate n [v]).flatten = List.replicate n v := by
  induction n with
  | zero => rfl
  | succ n ih => rw [List.replicate_succ, List.flatten_cons, ih, List.replicate_succ]; rfl
theorem reps_repl (h : Heap) (x : Int) (n : Nat) : Reps tI h (List.replicate n x) (List.replicate n (.int .i64 x)) := by
  have := reps_ints (kk := .i64) (h := h) (List.replicate n x)
  rwa [List.map_replicate] at this
theorem dbl_take {n k m : Nat} {cur : List Value} {v : Value} (hl : cur.length = n) (hk : cur.take k = List.replicate k v) (hkm : k + m ≤ n) : (putS (0 + k * 1) (List.replicate m v) cur).length = n ∧ (putS (0 + k * 1) (List.replicate m v) cur).take (k + m) = List.replicate (k + m) v := by
  have h1 : 0 + k * 1 + (List.replicate m v).length ≤ cur.length := by simp; omega
  refine ⟨by rw [putS_len h1, hl], ?_⟩
  rw [putS_take h1 (by simp), show 0 + k * 1 = k by omega, hk, List.replicate_append_replicate]
theorem mul64 (n : Nat) (h : n < 4294967296) :
    Spec Tryz.prog 178 #[.int .u64 1, .int .u64 (n : Int)] [] [] (fun v Ps' Os' => v = .tuple #[.int .u64 0, .int .u64 (n : Int)] ∧ Ps' = [] ∧ Os' = []) := by
 refine zSp _ Tryz.func178 Tryz.ntmps178 (fun _ _ _ => ?_)
 refine zR 9 ?_
 refine go_re 15 (.int .u64 1) (by rfl) ?_
 refine zR 6 ?_
 refine go_re 17 (.int .u64 0) (by rfl) ?_
 refine zR 6 ?_
 refine go_re 19 (.int .u64 (n : Int)) (by show some (Value.int _ _) = _; rw [show IntKind.u64.bits = 64 from rfl, and_mask n h]) ?_
 refine zR 6 ?_
 refine go_re 21 (.int .u64 0) (by show some (Value.int _ _) = _; rw [show IntKind.u64.bits = 64 from rfl, shr_32 n h]) ?_
 refine zR 7 ?_
 refine go_re 24 (.int .u64 (n : Int)) (by show some (Value.int _ _) = _; rw [Int.one_mul, wrap_u64 (by omega)]) ?_
 refine zE 2 [0, 1, 6, 7, 8, 9, 10] ?_
 refine zR 5 ?_
 refine go_re 27 (.int .u64 0) (by show some (Value.int _ _) = _; rw [Int.zero_mul, wrap_u64 (by omega)]) ?_
 refine zR 2 ?_
 refine go_re 29 (.int .u64 0) (by show some (Value.int _ _) = _; rw [show IntKind.u64.bits = 64 from rfl, shr_32 n h]) ?_
 refine zR 1 ?_
 refine go_re 30 (.int .u64 0) (by rfl) ?_
 refine zR 6 ?_
 refine go_re 32 (.int .u64 0) (by rfl) ?_
 refine zR 6 ?_
 refine go_re 34 (.int .u64 0) (by rfl) ?_
 refine zE 2 [0, 1, 6, 7, 9, 12, 13] ?_
 refine zR 6 ?_
 refine go_re 38 (.int .u64 0) (by rfl) ?_
 refine zR 1 ?_
 refine go_re 39 (.int .u64 0) (by rfl) ?_
 refine zR 7 ?_
 refine go_re 42 (.int .u64 0) (by rfl) ?_
 refine zR 2 ?_
 refine go_re 44 (.int .u64 0) (by rfl) ?_
 refine zR 2 ?_
 refine go_re 46 (.int .u64 0) (by rfl) ?_
 refine zR 1 ?_
 refine go_re 47 (.int .u64 0) (by rfl) ?_
 refine zE 2 [0, 1, 4] ?_
 refine zR 5 ?_
 refine go_re 50 (.int .u64 (n : Int)) (by show some (Value.int _ _) = _; rw [Int.one_mul, wrap_u64 (by omega)]) ?_
 refine zT 2 rfl ⟨rfl, rfl, rfl⟩
theorem mulU (n : Nat) (h : n < 4294967296) :
    Spec Tryz.prog 153 #[.int .u64 1, .int .u64 (n : Int)] [] [] (fun v Ps' Os' => v = .tuple #[.int .u64 0, .int .u64 (n : Int)] ∧ Ps' = [] ∧ Os' = []) := by
 refine zSp _ Tryz.func153 Tryz.ntmps153 (fun _ _ _ => ?_)
 refine zDf 6 ?_
 refine zC3 5 (mul64 n h) ?_
 refine zE 13 [4, 5] ?_
 refine zT 0 rfl ⟨rfl, rfl, rfl⟩
theorem repeatI (A1 : Option Addr) (c1 n : Nat) (x0 : Int) (hn : n ≤ 1000000) :
    Spec Tryz.prog 130 #[.slice A1 1 c1, .int .i64 (n : Int)] [sl tI A1 c1 [x0]] [] (fun v Ps' Os' => ∃ bN, v = .slice (some ⟨bN, 0, none⟩) n n ∧ Ps' = [] ∧ Os' = [ol tI 3 (some ⟨bN, 0, none⟩) n (List.replicate n x0)]) := by
 refine zSp _ Tryz.func130 Tryz.ntmps130 (fun _ _ _ => ?_)
 refine zD 10 ?_ ?_
 ·intro g0
  exfalso; omega
 intro g0
 refine zR 6 ?_
 refine go_re 15 (.int .u64 1) (by rfl) ?_
 refine zR 2 ?_
 refine go_re 17 (.int .u64 (n : Int)) (by show some (Value.int _ _) = _; rw [wrap_u64 (by omega)]) ?_
 refine zC3 0 (mulU n (by omega)) ?_
 refine zE 6 [0, 5, 6] ?_
 refine zR 5 ?_
 refine go_re 22 (.bool false) (by show some (Value.bool _) = _; rfl) ?_
 refine zR 3 ?_
 refine go_re 25 (.bool false) (by show some (Value.bool _) = _; rw [decide_eq_false (by omega)]) ?_
 refine zDf 2 ?_
 refine zR 5 ?_
 refine go_i64n 29 n rfl ?_
 refine go_make_pt n Tk rfl rfl rfl rfl rfl rfl rfl rfl rfl (by omega) zH ?_
 intro bN
 refine go_same (B := pt bN 3 (List.replicate n (.int .i64 0))) .here (congrArg (fun z => pt bN 3 z) (flat_one n (.int .i64 0))) ?_
 refine zR 3 ?_
 refine go_elem_int (xs := [x0]) zM (0) (List.getElem?_eq_getElem (by simp)) (fun b1 o1 hA => ?_); cases hA
 refine zR 3 ?_
 refine go_copy (b := bN) (news := List.replicate (Nat.min 1 n) (.int .i64 x0)) Tk rfl rfl rfl rfl rfl rfl rfl zM (Nat.min 1 n) rfl ⟨by show _ = Nat.min 1 n * 1; simp, fun w hp ho hs j v hj => by
   have h0 : j = 0 := by have := (List.getElem?_eq_some_iff.1 hj).1; simp at this; have h1 : Nat.min 1 n ≤ 1 := Nat.min_le_left _ _; omega
   subst h0
   have hv : v = .int .i64 x0 := by have := List.mem_of_getElem? hj; exact (List.mem_replicate.1 this).2
   subst hv
   exact cellH_world (cellH_le hs.inp ((hs.ps (cl b1 (o1 + 0 * 1) [.int .i64 x0]) (.head _)) 0 _ rfl))⟩ (oneCells_of fun v hv => by rw [(List.mem_replicate.1 hv).2]; rfl) (by have h1 : Nat.min 1 n ≤ n := Nat.min_le_right _ _; show 0 + Nat.min 1 n * 1 ≤ _; rw [List.length_replicate]; omega) zH ?_
 have hm1 : Nat.min 1 n ≤ n := Nat.min_le_right _ _
 have hm2 : 0 < n → Nat.min 1 n = 1 := fun h => Nat.min_eq_left h
 have hd0 := dbl_take (n := n) (k := 0) (m := Nat.min 1 n) (cur := List.replicate n (.int .i64 0)) (v := .int .i64 x0) (by simp) rfl (by omega)
 rw [show 0 + 0 * 1 = 0 from rfl, Nat.zero_add] at hd0
 refine zE 2 [7, 8] ?_
 refine zR 2 ?_
 refine go_loop' (X := Nat × List Value) (fun x => [(8, .int .i64 (x.1 : Int))]) [(7, _)] (fun x => [pt bN 3 (x.2)]) (fun x => x.1 ≤ n ∧ (0 < n → 1 ≤ x.1) ∧ x.2.length = n ∧ x.2.take x.1 = List.replicate x.1 (.int .i64 x0)) (fun x => n - x.1) ((Nat.min 1 n, _)) zA zM ⟨hm1, fun h => by show 1 ≤ Nat.min 1 n; rw [hm2 h]; exact Nat.le_refl _, hd0.1, hd0.2⟩ ?_
 intro ⟨k, cur⟩ ⟨hk, hk1, hcl, hct⟩
 simp only at hk hk1 hcl hct ⊢
 refine zD' 8 ?_ ?_
 ·intro g1
  refine zR 2 ?_
  have hkn : k = n := by omega
  subst hkn
  refine go_ent (rps tI (List.replicate k x0) (List.replicate k (.int .i64 x0))) (fun hh _ => reps_repl hh x0 k) ?_
  refine go_ol_close (T := tI) (c := k) (List.replicate k x0) zM zM (by rw [hcl]; exact (Nat.mul_one _).symm) (by rw [List.length_replicate, show k * tI.size = k from Nat.mul_one _]; exact hct) (by simp) (by unfold maxLen; omega) ?_
  refine zT 4 rfl ⟨bN, rfl, rfl, rfl⟩
 intro g1
 have hk2 := hk1 (by omega)
 obtain ⟨m, hme⟩ : ∃ m, m = Nat.min k (n - k) := ⟨_, rfl⟩
 have hmk : m ≤ k := by rw [hme]; exact Nat.min_le_left _ _
 have hmn : m ≤ n - k := by rw [hme]; exact Nat.min_le_right _ _
 have hmp : 0 < m := by rw [hme]; exact Nat.lt_min.2 ⟨by omega, by omega⟩
 refine zY 2 [1, 4, 7, 10, 13, 16, 19, 21, 25, 28] ?_
 refine zR 3 ?_
 refine go_val1 rfl (slice_val' Tk rfl rfl rfl rfl k n n (.slice (some ⟨bN, 0 + k * 1, none⟩) (n - k) (n - k)) (by first | rfl | exact ⟨_, rfl⟩ | exact ⟨rfl, rfl⟩) (by first | rfl | exact ⟨_, rfl⟩ | exact ⟨rfl, rfl⟩) (by first | rfl | exact ⟨_, rfl⟩ | exact ⟨rfl, rfl⟩) (by omega) (by omega) (by omega) (by rw [subN (by omega)]; rfl)) rfl ?_
 refine zR 2 ?_
 refine go_val1 rfl (slice_val' Tk rfl rfl rfl rfl 0 k n (.slice (some ⟨bN, 0, none⟩) k n) (by first | rfl | exact ⟨_, rfl⟩ | exact ⟨rfl, rfl⟩) (by first | rfl | exact ⟨_, rfl⟩ | exact ⟨rfl, rfl⟩) (by first | rfl | exact ⟨_, rfl⟩ | exact ⟨rfl, rfl⟩) (by omega) (by omega) (by omega) (by rw [sub0]; rfl)) rfl ?_
 refine go_copy (b := bN) (b2 := bN) (o2 := 0) (news := List.replicate m (.int .i64 x0)) Tk rfl rfl rfl rfl rfl rfl rfl zM m hme.symm (at_any zM (by show _ = m * 1; simp) (fun i v hv => by
   have hi := (List.getElem?_eq_some_iff.1 hv).1
   rw [List.length_replicate] at hi
   have h1 : (cur.take k)[i]? = some (.int .i64 x0) := by rw [hct, List.getElem?_replicate, if_pos (by omega)]
   rw [List.getElem?_take, if_pos (by omega)] at h1
   rw [Nat.zero_add, h1, (List.mem_replicate.1 (List.mem_of_getElem? hv)).2])) (oneCells_of fun v hv => by rw [(List.mem_replicate.1 hv).2]; rfl) (by show 0 + k * 1 + m * 1 ≤ _; omega) zQ ?_
 refine zR 1 ?_
 refine go_i64n 46 (k + m) rfl ?_
 refine zE 2 [7, 8] ?_
 refine zR 1 ?_
 have hdk := dbl_take (m := m) hcl hct (by omega)
 refine go_back (k + m, _) zA zM zM ⟨by show k + m ≤ n; omega, fun h => by show 1 ≤ k + m; have := hk1 h; omega, hdk.1, hdk.2⟩ (by show n - (k + m) < n - k; omega)
theorem indexI (A : Option Addr) (c : Nat) (l : List Int) (x : Int) :
    Spec Tryz.prog 179 #[.slice A l.length c, .int .i64 x] [sl tI A c l] [] (fun v Ps' Os' => v = .int .i64 (idxP (fun y => decide (x = y)) l) ∧ Ps' = [] ∧ Os' = []) := by
 refine zSp _ Tryz.func179 Tryz.ntmps179 (fun _ _ _ => ?_)
 refine zR 6 ?_
 refine go_len (xs := l) zM (fun l0 m0 => ?_)
 refine zR 6 ?_
 refine zO (X := Nat) (fun k => [(8, .int .i64 (k : Int))]) [0, 1, 7] (fun _ => []) (fun k => k ≤ l.length ∧ ∀ y ∈ l.take k, (fun y => decide (x = y)) y = false) (fun k => l.length - k) 0 ⟨by omega, by simp⟩ ?_
 intro k ⟨hk, hz⟩
 refine zD' 5 ?_ ?_
 ·intro hq1
  refine zT 5 rfl ⟨by rw [idxP_none (by omega) hz], rfl, rfl⟩
 intro hq1
 refine zR 9 ?_
 refine go_elem_int (xs := l) zM (k) (List.getElem?_eq_getElem (by omega)) (fun b0 o0 hA => ?_); cases hA
 refine zI 4 ?_
 refine zL 0 ?_
 refine zD 2 ?_ ?_
 ·intro g1
  refine zE 5 [4] ?_
  refine zT 0 rfl ⟨by rw [idxP_hit (p := fun y => decide (x = y)) (by omega) hz (by simp [g1])], rfl, rfl⟩
 intro g1
 refine zR 6 ?_
 refine zi 8 ?_
 refine zz (k + 1) (⟨by omega, mem_take_next' (by omega) hz (by simp [g1])⟩) (by omega)
theorem values1 (ly : Nat) (R : List Int → OA) (hY : Yld Tryz.prog ly (fun x : Int => Value.int .i64 x) (fun pre _ => [PA.and (pre.length ≤ 1000000) PA.tt]) R) (bV : Nat) (A : Option Addr) (c : Nat) (l : List Int) (hn : l.length ≤ 1000000) :
    Spec Tryz.prog 195 #[.func (.yield ly) #[] #[], .pointer (some ⟨bV, 0, none⟩)] [cl bV 0 [.slice A l.length c], sl tI A c l] [R []] (fun v Ps' Os' => v = .tuple #[] ∧ Ps' = [] ∧ Os' = [R l]) := by
 refine zSp _ Tryz.func195 Tryz.ntmps195 (fun _ _ _ => ?_)
 refine zL 2 ?_
 refine zR 3 ?_
 refine go_len (xs := l) zM (fun l0 m0 => ?_)
 refine zR 1 ?_
 refine zO (X := Nat) (fun k => [(7, .int .i64 (k : Int))]) [0, 5, 6] (fun k => [R (l.take k)]) (fun k => k ≤ l.length) (fun k => l.length - k) 0 (by omega) ?_
 intro k hk
 refine zD' 5 ?_ ?_
 ·intro g1
  refine go_same (A := R (l.take k)) (B := R l) .here (by rw [List.take_of_length_le (show l.length ≤ k by omega)]) ?_
  refine zT 1 rfl ⟨rfl, rfl, rfl⟩
 intro g1
 refine go_ent (PA.and ((l.take k).length ≤ 1000000) PA.tt) (fun hh a => ⟨by rw [List.length_take]; omega, trivial⟩) ?_
 refine zR 4 ?_
 refine go_elem_int (xs := l) zM (k) (List.getElem?_eq_getElem (by omega)) (fun b0 o0 hA => ?_); cases hA
 refine zI 1 ?_
 refine zL 0 ?_
 refine zR 3 ?_
 refine go_regionY [false, false, true] rfl ?_
 refine zR 2 ?_
 refine go_yield hY (l.take k) (l[k]) rfl rfl rfl rfl rfl zM zM ?_
 refine zR 1 ?_
 refine go_re 14 (.bool false) (by show some (Value.bool _) = _; rfl) ?_
 refine zDf 1 ?_
 refine zR 6 ?_
 refine zi 7 ?_
 refine go_same (B := R (l.take (k + 1))) .here (by rw [List.take_succ_eq_append_getElem (show k < l.length by omega)]) ?_
 refine zz (k + 1) (by omega) (by omega)
theorem valuesI (A : Option Addr) (n c : Nat) :
    Spec Tryz.prog 181 #[.slice A n c] [] [] (fun v Ps' Os' => ∃ bV, v = .func (.func 195) #[] #[.pointer (some ⟨bV, 0, none⟩)] ∧ Ps' = [cl bV 0 [.slice A n c]] ∧ Os' = []) := by
 refine zSp _ Tryz.func181 Tryz.ntmps181 (fun _ _ _ => ?_)
 refine zX 2 ?_
 intro bV
 refine zR 2 ?_
 refine go_freeze_pt (b := bV) zM ?_
 refine zT 5 rfl ⟨bV, rfl, rfl, rfl⟩
theorem appendSeq (bV : Nat) (A : Option Addr) (c : Nat) (l : List Int) (hn : l.length ≤ 1000000) :
    Spec Tryz.prog 200 #[.slice none 0 0, .func (.func 195) #[] #[.pointer (some ⟨bV, 0, none⟩)]] [cl bV 0 [.slice A l.length c], sl tI A c l] [] (fun v Ps' Os' => ∃ A' c', v = .slice A' l.length c' ∧ Ps' = [] ∧ Os' = [ol tI 3 A' c' l]) := by
 refine zSp _ Tryz.func200 Tryz.ntmps200 (fun _ _ _ => ?_)
 refine zX 2 ?_
 intro br
 refine zR 4 ?_
 refine go_own_nil tI 3 none ?_
 refine go_fold [pt br 41 [.slice none 0 0], ol tI 3 none 0 []] (ptI br 41 3 []) zM (fun _ _ q => ⟨none, 0, q⟩) ?_
 refine zR 4 ?_
 refine go_range (α := Int) (enc := fun x : Int => Value.int .i64 x) (Px := fun pre _ => [PA.and (pre.length ≤ 1000000) PA.tt]) rfl rfl rfl (fun D => [ptI br 41 3 D]) ([]) ([]) zM zM ([cl bV 0 [.slice A l.length c], sl tI A c l]) zM (fun xs => xs = l) (fun ly R hY => (values1 ly R hY bV A c l hn).imp fun v P' O' ⟨h1, h2, h3⟩ => ⟨l, rfl, h2, h3⟩) (X := Int) (fun y => [(5, .int .i64 y)]) [(2, .pointer (some ⟨br, 0, none⟩))] (fun pre x y => [ptI br 41 3 pre]) (fun _ x y => y = x) (fun ly pre x w0' hp0' hf0' => ?_) (fun ly pre x y hyx w0' hp0' hf0' => ?_) (fun D xs hdj hxs => ?_)
 ·skip
  refine zR 3 ?_
  refine zz x rfl (by decide)
 ·skip
  subst hyx
  refine go_pand (fun hpl => ?_)
  refine go_ptI (b := br) zM (fun A1 c1 => ?_)
  refine zL 2 ?_
  refine zV 1 ?_
  intro b1
  refine go_append1 (T := tI) (xs := pre) Tk (y) rfl rfl rfl rfl rfl rfl rfl rfl rfl zM zM rfl ent_int (by omega) zH ?_
  intro A2 c2
  refine zS 0 ?_
  refine zR 1 ?_
  refine go_fold [pt br 41 [.slice A2 (pre ++ [y]).length c2], ol tI 3 A2 c2 (pre ++ [y])] (ptI br 41 3 (pre ++ [y])) zM (fun _ _ q => ptI_mk q) ?_
  refine zR 1 ?_
  refine go_back () trivial zM zM trivial (by decide)
 refine zR 2 ?_
 rw [hxs]
 refine go_ptI (b := br) zM (fun A1 c1 => ?_)
 refine zL 1 ?_
 refine zR 2 ?_
 refine go_retR ⟨rfl, rfl⟩ hdj _ _ (res1 (by rfl) (.tmp rfl)) ⟨A1, c1, rfl, rfl, rfl⟩ zM zM
theorem collectI (bV : Nat) (A : Option Addr) (c : Nat) (l : List Int) (hn : l.length ≤ 1000000) :
    Spec Tryz.prog 193 #[.func (.func 195) #[] #[.pointer (some ⟨bV, 0, none⟩)]] [cl bV 0 [.slice A l.length c], sl tI A c l] [] (fun v Ps' Os' => ∃ A' c', v = .slice A' l.length c' ∧ Ps' = [] ∧ Os' = [ol tI 3 A' c' l]) := by
 refine zSp _ Tryz.func193 Tryz.ntmps193 (fun _ _ _ => ?_)
 refine zC 7 (appendSeq bV A c l hn) ?_
 rintro _ _ _ ⟨A', c', rfl, rfl, rfl⟩
 refine zT 2 rfl ⟨A', c', rfl, rfl, rfl⟩
theorem sortedI (bV : Nat) (A : Option Addr) (c : Nat) (l : List Int) (hn : l.length ≤ 1000000) :
    Spec Tryz.prog 180 #[.func (.func 195) #[] #[.pointer (some ⟨bV, 0, none⟩)]] [cl bV 0 [.slice A l.length c], sl tI A c l] [] (fun v Ps' Os' => ∃ A' c' m, m.Perm l ∧ v = .slice A' m.length c' ∧ Ps' = [] ∧ Os' = [ol tI 3 A' c' m]) := by
 refine zSp _ Tryz.func180 Tryz.ntmps180 (fun _ _ _ => ?_)
 refine zC 7 (collectI bV A c l hn) ?_
 rintro _ _ _ ⟨A', c', rfl, rfl, rfl⟩
 refine zC 5 (sortIf A' c' l (by omega)) ?_
 rintro _ _ _ ⟨m, hm, rfl, rfl, rfl⟩
 rw [← hm.length_eq]
 refine zT 6 rfl ⟨A', c', m, hm, rfl, rfl, rfl⟩
end Go.Proofs.YtdconhalfanclaaGreat.SL
namespace Go.Proofs.YtdconhalfanclaaGreat.SL
namespace Tj
inductive Rch (E : Nat → List Nat) (u : Nat) : Nat → Prop
  | refl : Rch E u u
  | step {v w : Nat} : Rch E u v → w ∈ E v → Rch E u w
theorem Rch.trans {E : Nat → List Nat} {u v w : Nat} (h : Rch E u v) (k : Rch E v w) : Rch E u w := by
  induction k with
  | refl => exact h
  | step _ e ih => exact .step ih e
theorem Rch.one {E : Nat → List Nat} {u v : Nat} (h : v ∈ E u) : Rch E u v := .step .refl h
structure St where
  ord : Nat → Nat
  low : Nat → Nat
  of : Nat → Int
  held : List Nat
  cnt : Nat
  order : Nat
  todo : List (Nat × Nat)
def St.g (s : St) : List Nat := s.todo.map Prod.fst
def upd (f : Nat → Nat) (t a : Nat) : Nat → Nat := fun u => if u = t then a else f u
theorem upd_same (f : Nat → Nat) (t a : Nat) : upd f t a t = a := by simp [upd]
theorem upd_ne (f : Nat → Nat) {t u : Nat} (a : Nat) (h : u ≠ t) : upd f t a u = f u := by simp [upd, h]
def Fine (s : St) (x t : Nat) : Prop := 0 < s.ord t ∧ (0 ≤ s.of x → 0 ≤ s.of t ∧ s.of t ≤ s.of x) ∧ (s.of x < 0 → 0 ≤ s.of t ∨ s.low x ≤ s.ord t)
structure Inv (E : Nat → List Nat) (s : St) : Prop where
  hOrd : ∀ v ∈ s.held, 0 < s.ord v ∧ s.of v < 0
  hSort : s.held.Pairwise (fun u v => s.ord u < s.ord v)
  ordLe : ∀ v, s.ord v ≤ s.order
  opn : ∀ v, 0 < s.ord v → s.of v < 0 → v ∈ s.held
  unseen : ∀ v, s.ord v = 0 → s.of v < 0
  ofLt : ∀ v, 0 ≤ s.of v → s.of v < s.cnt
  lowW : ∀ v ∈ s.held, s.low v ≤ s.ord v ∧ ∃ w ∈ s.held, s.ord w = s.low v ∧ Rch E v w
  gHeld : ∀ x ∈ s.g, x ∈ s.held
  gSort : s.g.Pairwise (fun p q => s.ord q < s.ord p)
  reach : ∀ p ∈ s.g, ∀ x ∈ s.held, s.ord p ≤ s.ord x → Rch E p x
  fin : ∀ x ∈ s.held, x ∉ s.g → s.low x < s.ord x ∧ ∃ p ∈ s.g, s.ord p < s.ord x ∧ s.low p ≤ s.low x ∧ ∀ q ∈ s.g, s.ord q < s.ord x → s.ord q ≤ s.ord p
  edge : ∀ x, 0 < s.ord x → x ∉ s.g → ∀ t ∈ E x, Fine s x t
  edgeG : ∀ p ∈ s.todo, ∀ t ∈ (E p.1).take p.2, Fine s p.1 t
  both : ∀ x y, 0 ≤ s.of x → s.of x = s.of y → Rch E x y
theorem inv_none (E : Nat → List Nat) : Inv E ⟨fun _ => 0, fun _ => 0, fun _ => -1, [], 0, 0, []⟩ := by
  constructor <;> simp [St.g]
theorem inv_enter {E : Nat → List Nat} {s : St} (I : Inv E s) {t : Nat} (h0 : s.ord t = 0) {td : List (Nat × Nat)} (hm : td.map Prod.fst = s.g)
    (hr : ∀ p ∈ s.g, Rch E p t) (he : ∀ p ∈ td, ∀ u ∈ (E p.1).take p.2, Fine s p.1 u ∨ u = t) :
    Inv E { s with ord := upd s.ord t (s.order + 1), low := upd s.low t (s.order + 1), held := s.held ++ [t], order := s.order + 1, todo := (t, 0) :: td } := by
  have ne : ∀ v ∈ s.held, v ≠ t := fun v hv e => by have := (I.hOrd v hv).1; subst e; omega
  have gne : ∀ v ∈ s.g, v ≠ t := fun v hv => ne v (I.gHeld v hv)
  have o : ∀ v, v ≠ t → upd s.ord t (s.order + 1) v = s.ord v := fun v h => upd_ne _ _ h
  have l : ∀ v, v ≠ t → upd s.low t (s.order + 1) v = s.low v := fun v h => upd_ne _ _ h
  have o1 : upd s.ord t (s.order + 1) t = s.order + 1 := upd_same _ _ _
  have l1 : upd s.low t (s.order + 1) t = s.order + 1 := upd_same _ _ _
  have tof : s.of t < 0 := I.unseen t h0
  have le := I.ordLe
  have fine : ∀ x u, Fine s x u → x ≠ t → Fine { s with ord := upd s.ord t (s.order + 1), low := upd s.low t (s.order + 1), held := s.held ++ [t], order := s.order + 1, todo := (t, 0) :: td } x u := by
    intro x u ⟨f1, f2, f3⟩ hx
    have hu : u ≠ t := fun e => by subst e; omega
    refine ⟨?_, f2, fun h => ?_⟩
    · show 0 < upd s.ord t (s.order + 1) u
      rw [o u hu]; exact f1
    · show _ ∨ upd s.low t (s.order + 1) x ≤ upd s.ord t (s.order + 1) u
      rw [o u hu, l x hx]; exact f3 h
  have hg : ∀ x, x ∈ (St.g { s with ord := upd s.ord t (s.order + 1), low := upd s.low t (s.order + 1), held := s.held ++ [t], order := s.order + 1, todo := (t, 0) :: td }) ↔ x = t ∨ x ∈ s.g := by
    intro x; simp only [St.g, List.map_cons, List.mem_cons]; rw [hm]; exact Iff.rfl
  constructor
  · intro v hv
    rcases List.mem_append.1 hv with h | h
    · show 0 < upd s.ord t (s.order + 1) v ∧ _
      rw [o v (ne v h)]; exact I.hOrd v h
    · rw [List.mem_singleton] at h; subst h
      exact ⟨by show 0 < upd s.ord v (s.order + 1) v; omega, tof⟩
  · refine List.pairwise_append.2 ⟨I.hSort.imp_of_mem fun {a b} ha hb h => ?_, List.pairwise_singleton _ _, fun a ha b hb => ?_⟩
    · show upd s.ord t (s.order + 1) a < upd s.ord t (s.order + 1) b
      rw [o a (ne a ha), o b (ne b hb)]; exact h
    · rw [List.mem_singleton] at hb; subst hb
      show upd s.ord b (s.order + 1) a < upd s.ord b (s.order + 1) b
      rw [o a (ne a ha), o1]; have := le a; omega
  · intro v
    show upd s.ord t (s.order + 1) v ≤ s.order + 1
    by_cases h : v = t
    · subst h; omega
    · rw [o v h]; have := le v; omega
  · intro v h1 h2
    by_cases h : v = t
    · subst h; exact List.mem_append_right _ (List.mem_singleton.2 rfl)
    · refine List.mem_append_left _ (I.opn v ?_ h2)
      have h1' : 0 < upd s.ord t (s.order + 1) v := h1
      rw [o v h] at h1'; exact h1'
  · intro v h1
    have h1' : upd s.ord t (s.order + 1) v = 0 := h1
    by_cases h : v = t
    · subst h; exact tof
    · rw [o v h] at h1'; exact I.unseen v h1'
  · exact I.ofLt
  · intro v hv
    rcases List.mem_append.1 hv with h | h
    · obtain ⟨h1, w, hw, h2, h3⟩ := I.lowW v h
      show upd s.low t (s.order + 1) v ≤ upd s.ord t (s.order + 1) v ∧ ∃ w ∈ s.held ++ [t], upd s.ord t (s.order + 1) w = upd s.low t (s.order + 1) v ∧ Rch E v w
      rw [o v (ne v h), l v (ne v h)]
      exact ⟨h1, w, List.mem_append_left _ hw, by rw [o w (ne w hw)]; exact h2, h3⟩
    · rw [List.mem_singleton] at h; subst h
      exact ⟨by show upd s.low v (s.order + 1) v ≤ upd s.ord v (s.order + 1) v; omega, v, List.mem_append_right _ (List.mem_singleton.2 rfl), by show upd s.ord v (s.order + 1) v = upd s.low v (s.order + 1) v; omega, .refl⟩
  · intro x hx
    rcases (hg x).1 hx with h | h
    · subst h; exact List.mem_append_right _ (List.mem_singleton.2 rfl)
    · exact List.mem_append_left _ (I.gHeld x h)
  · show List.Pairwise _ (List.map Prod.fst ((t, 0) :: td))
    rw [List.map_cons, hm]
    refine List.pairwise_cons.2 ⟨fun a ha => ?_, I.gSort.imp_of_mem fun {a b} ha hb h => ?_⟩
    · show upd s.ord t (s.order + 1) a < upd s.ord t (s.order + 1) t
      rw [o a (gne a ha), o1]; have := le a; omega
    · show upd s.ord t (s.order + 1) b < upd s.ord t (s.order + 1) a
      rw [o a (gne a ha), o b (gne b hb)]; exact h
  · intro p hp x hx h
    have h' : upd s.ord t (s.order + 1) p ≤ upd s.ord t (s.order + 1) x := h
    rcases (hg p).1 hp with e | e <;> rcases List.mem_append.1 hx with f | f
    · subst e; rw [o x (ne x f), o1] at h'; have := le x; omega
    · rw [List.mem_singleton] at f; rw [e, f]; exact .refl
    · rw [o x (ne x f), o p (gne p e)] at h'; exact I.reach p e x f h'
    · rw [List.mem_singleton] at f; rw [f]; exact hr p e
  · intro x hx hn
    have hn' : ¬ (x = t ∨ x ∈ s.g) := fun h => hn ((hg x).2 h)
    have hxt : x ≠ t := fun e => hn' (.inl e)
    have hx' : x ∈ s.held := by
      rcases List.mem_append.1 hx with h | h
      · exact h
      · exact absurd (List.mem_singleton.1 h) hxt
    obtain ⟨h1, p, hp, h2, h3, h4⟩ := I.fin x hx' (fun h => hn' (.inr h))
    show upd s.low t (s.order + 1) x < upd s.ord t (s.order + 1) x ∧ ∃ p ∈ _, upd s.ord t (s.order + 1) p < upd s.ord t (s.order + 1) x ∧ upd s.low t (s.order + 1) p ≤ upd s.low t (s.order + 1) x ∧ ∀ q ∈ _, upd s.ord t (s.order + 1) q < upd s.ord t (s.order + 1) x → upd s.ord t (s.order + 1) q ≤ upd s.ord t (s.order + 1) p
    rw [o x hxt, l x hxt]
    refine ⟨h1, p, (hg p).2 (.inr hp), by rw [o p (gne p hp)]; exact h2, by rw [l p (gne p hp)]; exact h3, fun q hq hq' => ?_⟩
    rw [o p (gne p hp)]
    rcases (hg q).1 hq with e | e
    · subst e; rw [o1] at hq'; have := le x; omega
    · rw [o q (gne q e)] at hq' ⊢; exact h4 q e hq'
  · intro x h1 hn u hu
    have hn' : ¬ (x = t ∨ x ∈ s.g) := fun h => hn ((hg x).2 h)
    have hxt : x ≠ t := fun e => hn' (.inl e)
    have h1' : 0 < upd s.ord t (s.order + 1) x := h1
    rw [o x hxt] at h1'
    exact fine x u (I.edge x h1' (fun h => hn' (.inr h)) u hu) hxt
  · intro p hp u hu
    rcases List.mem_cons.1 hp with e | hp
    · subst e; simp at hu
    · have hpg : p.1 ∈ s.g := by rw [← hm]; exact List.mem_map_of_mem hp
      have hpt := gne _ hpg
      rcases he p hp u hu with f | e
      · exact fine _ _ f hpt
      · subst e
        have hh := I.gHeld _ hpg
        refine ⟨by show 0 < upd s.ord u (s.order + 1) u; omega, fun h => ?_, fun _ => .inr ?_⟩
        · have h' : 0 ≤ s.of p.1 := h
          have := (I.hOrd _ hh).2; omega
        · show upd s.low u (s.order + 1) p.1 ≤ upd s.ord u (s.order + 1) u
          rw [o1, l _ hpt]; have := (I.lowW _ hh).1; have := le p.1; omega
  · exact I.both
theorem inv_todo {E : Nat → List Nat} {s : St} (I : Inv E s) {td : List (Nat × Nat)} (hm : td.map Prod.fst = s.g) (he : ∀ p ∈ td, ∀ u ∈ (E p.1).take p.2, Fine s p.1 u) : Inv E { s with todo := td } := by
  have hg : St.g { s with todo := td } = s.g := hm
  constructor
  · exact I.hOrd
  · exact I.hSort
  · exact I.ordLe
  · exact I.opn
  · exact I.unseen
  · exact I.ofLt
  · exact I.lowW
  · rw [hg]; exact I.gHeld
  · rw [hg]; exact I.gSort
  · rw [hg]; exact I.reach
  · rw [hg]; exact I.fin
  · rw [hg]; exact I.edge
  · exact he
  · exact I.both
theorem inv_lower {E : Nat → List Nat} {s : St} (I : Inv E s) {x b : Nat} (hx : x ∈ s.g) (hw : ∃ w ∈ s.held, s.ord w = b ∧ Rch E x w) : Inv E { s with low := upd s.low x (min (s.low x) b) } := by
  have l : ∀ v, v ≠ x → upd s.low x (min (s.low x) b) v = s.low v := fun v h => upd_ne _ _ h
  have l1 : upd s.low x (min (s.low x) b) x = min (s.low x) b := upd_same _ _ _
  have le : ∀ v, upd s.low x (min (s.low x) b) v ≤ s.low v := fun v => by
    by_cases h : v = x
    · subst h; omega
    · rw [l v h]; omega
  have fine : ∀ y u, Fine s y u → Fine { s with low := upd s.low x (min (s.low x) b) } y u := by
    intro y u ⟨f1, f2, f3⟩
    refine ⟨f1, f2, fun h => ?_⟩
    show _ ∨ upd s.low x (min (s.low x) b) y ≤ s.ord u
    rcases f3 h with h | h
    · exact .inl h
    · exact .inr (Nat.le_trans (le y) h)
  constructor
  · exact I.hOrd
  · exact I.hSort
  · exact I.ordLe
  · exact I.opn
  · exact I.unseen
  · exact I.ofLt
  · intro v hv
    obtain ⟨h1, w, h2, h3, h4⟩ := I.lowW v hv
    show upd s.low x (min (s.low x) b) v ≤ s.ord v ∧ ∃ w ∈ s.held, s.ord w = upd s.low x (min (s.low x) b) v ∧ Rch E v w
    refine ⟨Nat.le_trans (le v) h1, ?_⟩
    by_cases h : v = x
    · rw [h, l1]
      by_cases k : s.low x ≤ b
      · exact ⟨w, h2, by rw [h3, h]; omega, h ▸ h4⟩
      · obtain ⟨z, z1, z2, z3⟩ := hw
        exact ⟨z, z1, by omega, z3⟩
    · rw [l v h]; exact ⟨w, h2, h3, h4⟩
  · exact I.gHeld
  · exact I.gSort
  · exact I.reach
  · intro y hy hn
    obtain ⟨h1, p, hp, h2, h3, h4⟩ := I.fin y hy hn
    have hyx : y ≠ x := fun e => hn (e ▸ hx)
    show upd s.low x (min (s.low x) b) y < s.ord y ∧ ∃ p ∈ s.g, s.ord p < s.ord y ∧ upd s.low x (min (s.low x) b) p ≤ upd s.low x (min (s.low x) b) y ∧ _
    rw [l y hyx]
    exact ⟨h1, p, hp, h2, Nat.le_trans (le p) h3, h4⟩
  · exact fun y h1 hn u hu => fine y u (I.edge y h1 hn u hu)
  · exact fun p hp u hu => fine _ u (I.edgeG p hp u hu)
  · exact I.both
theorem inv_pop {E : Nat → List Nat} {s : St} (I : Inv E s) {v n x m : Nat} {rest : List (Nat × Nat)} (ht : s.todo = (v, n) :: (x, m) :: rest) (hn : (E v).length ≤ n) (hl : s.low v < s.ord v) (hx : s.low x ≤ s.low v) :
    Inv E { s with todo := (x, m) :: rest } := by
  have hg : s.g = v :: x :: rest.map Prod.fst := by simp [St.g, ht]
  have hg' : St.g { s with todo := (x, m) :: rest } = x :: rest.map Prod.fst := rfl
  have gs := I.gSort
  rw [hg] at gs
  obtain ⟨g1, g2⟩ := List.pairwise_cons.1 gs
  obtain ⟨g3, g4⟩ := List.pairwise_cons.1 g2
  have top : ∀ q ∈ x :: rest.map Prod.fst, s.ord q ≤ s.ord x := by
    intro q hq
    rcases List.mem_cons.1 hq with e | e
    · rw [e]; exact Nat.le_refl _
    · exact Nat.le_of_lt (g3 q e)
  have hxv : s.ord x < s.ord v := g1 x (List.mem_cons_self ..)
  have sub : ∀ q ∈ x :: rest.map Prod.fst, q ∈ s.g := fun q hq => by rw [hg]; exact List.mem_cons_of_mem _ hq
  constructor
  · exact I.hOrd
  · exact I.hSort
  · exact I.ordLe
  · exact I.opn
  · exact I.unseen
  · exact I.ofLt
  · exact I.lowW
  · rw [hg']; exact fun q hq => I.gHeld q (sub q hq)
  · rw [hg']; exact g2
  · rw [hg']; exact fun q hq => I.reach q (sub q hq)
  · rw [hg']
    intro y hy hny
    show s.low y < s.ord y ∧ ∃ p ∈ x :: rest.map Prod.fst, s.ord p < s.ord y ∧ s.low p ≤ s.low y ∧ ∀ q ∈ x :: rest.map Prod.fst, s.ord q < s.ord y → s.ord q ≤ s.ord p
    by_cases e : y = v
    · subst e
      exact ⟨hl, x, List.mem_cons_self .., hxv, hx, fun q hq _ => top q hq⟩
    · have hyg : y ∉ s.g := by rw [hg]; intro h; rcases List.mem_cons.1 h with h | h; exact e h; exact hny h
      obtain ⟨h1, p, hp, h2, h3, h4⟩ := I.fin y hy hyg
      rw [hg] at hp
      rcases List.mem_cons.1 hp with k | k
      · subst k
        exact ⟨h1, x, List.mem_cons_self .., Nat.lt_trans hxv h2, Nat.le_trans hx h3, fun q hq _ => top q hq⟩
      · exact ⟨h1, p, k, h2, h3, fun q hq hq' => h4 q (sub q hq) hq'⟩
  · rw [hg']
    intro y h1 hny u hu
    by_cases e : y = v
    · subst e
      exact I.edgeG (y, n) (by rw [ht]; exact List.mem_cons_self ..) u (by show u ∈ (E y).take n; rw [List.take_of_length_le hn]; exact hu)
    · exact I.edge y h1 (by rw [hg]; intro h; rcases List.mem_cons.1 h with h | h; exact e h; exact hny h) u hu
  · exact fun p hp => I.edgeG p (by rw [ht]; exact List.mem_cons_of_mem _ hp)
  · exact I.both
theorem inv_leave {E : Nat → List Nat} {s : St} (I : Inv E s) {v n : Nat} {rest : List (Nat × Nat)} {h1 h2 : List Nat} (ht : s.todo = (v, n) :: rest) (hn : (E v).length ≤ n) (hl : s.low v = s.ord v) (hh : s.held = h1 ++ v :: h2) :
    Inv E { s with todo := rest, held := h1, of := fun u => if u ∈ v :: h2 then (s.cnt : Int) else s.of u, cnt := s.cnt + 1 } := by
  have hg : s.g = v :: rest.map Prod.fst := by simp [St.g, ht]
  have gs := I.gSort
  rw [hg] at gs
  obtain ⟨g1, g2⟩ := List.pairwise_cons.1 gs
  have hs := I.hSort
  rw [hh] at hs
  obtain ⟨s1, s2, s3⟩ := List.pairwise_append.1 hs
  obtain ⟨s4, s5⟩ := List.pairwise_cons.1 s2
  have held : ∀ y, y ∈ s.held ↔ y ∈ h1 ∨ y ∈ v :: h2 := fun y => by rw [hh, List.mem_append]
  have lo : ∀ y ∈ h1, s.ord y < s.ord v := fun y hy => s3 y hy v (List.mem_cons_self ..)
  have hi : ∀ y ∈ v :: h2, s.ord v ≤ s.ord y := fun y hy => by
    rcases List.mem_cons.1 hy with e | e
    · rw [e]; exact Nat.le_refl _
    · exact Nat.le_of_lt (s4 y e)
  have inP : ∀ y ∈ s.held, s.ord v ≤ s.ord y → y ∈ v :: h2 := fun y hy h => by
    rcases (held y).1 hy with k | k
    · have := lo y k; omega
    · exact k
  have inH : ∀ y ∈ s.held, s.ord y < s.ord v → y ∈ h1 := fun y hy h => by
    rcases (held y).1 hy with k | k
    · exact k
    · have := hi y k; omega
  have notP : ∀ y, y ∈ h1 → y ∉ v :: h2 := fun y hy k => by have := lo y hy; have := hi y k; omega
  have vg : v ∈ s.g := by rw [hg]; exact List.mem_cons_self ..
  have vh : v ∈ s.held := I.gHeld v vg
  have restO : ∀ q ∈ rest.map Prod.fst, s.ord q < s.ord v := g1
  have subg : ∀ q ∈ rest.map Prod.fst, q ∈ s.g := fun q hq => by rw [hg]; exact List.mem_cons_of_mem _ hq
  have restH : ∀ q ∈ rest.map Prod.fst, q ∈ h1 := fun q hq => inH q (I.gHeld q (subg q hq)) (restO q hq)
  -- how far those of the part lead back
  have lowP : ∀ y ∈ v :: h2, s.ord v ≤ s.low y ∧ (y = v ∨ s.low y < s.ord y) := by
    intro y hy
    rcases List.mem_cons.1 hy with e | e
    · subst e; exact ⟨by omega, .inl rfl⟩
    · have hyv := s4 y e
      have hyn : y ∉ s.g := by
        rw [hg]; intro k
        rcases List.mem_cons.1 k with k | k
        · subst k; omega
        · have := restO y k; omega
      obtain ⟨k1, p, hp, k2, k3, k4⟩ := I.fin y ((held y).2 (.inr hy)) hyn
      have k5 := k4 v vg hyv
      rw [hg] at hp
      rcases List.mem_cons.1 hp with k | k
      · subst k; exact ⟨by omega, .inr k1⟩
      · have := restO p k; omega
  have back : ∀ m y, s.ord y ≤ m → y ∈ v :: h2 → Rch E y v := by
    intro m
    induction m with
    | zero => intro y h hy; have := (I.hOrd y ((held y).2 (.inr hy))).1; omega
    | succ m ih =>
      intro y h hy
      obtain ⟨k1, k2⟩ := lowP y hy
      rcases k2 with e | k2
      · rw [e]; exact .refl
      · obtain ⟨_, w, w1, w2, w3⟩ := I.lowW y ((held y).2 (.inr hy))
        exact w3.trans (ih w (by omega) (inP w w1 (by omega)))
  have part : ∀ x ∈ v :: h2, ∀ y ∈ v :: h2, Rch E x y := fun x hx y hy => (back _ x (Nat.le_refl _) hx).trans (I.reach v vg y ((held y).2 (.inr hy)) (hi y hy))
  have ofP : ∀ y ∈ v :: h2, (if y ∈ v :: h2 then (s.cnt : Int) else s.of y) = s.cnt := fun y hy => if_pos hy
  have ofN : ∀ y, y ∉ v :: h2 → (if y ∈ v :: h2 then (s.cnt : Int) else s.of y) = s.of y := fun y hy => if_neg hy
  have oldP : ∀ y ∈ v :: h2, s.of y < 0 := fun y hy => (I.hOrd y ((held y).2 (.inr hy))).2
  have fineN : ∀ x u, x ∉ v :: h2 → Fine s x u → Fine { s with todo := rest, held := h1, of := fun u => if u ∈ v :: h2 then (s.cnt : Int) else s.of u, cnt := s.cnt + 1 } x u := by
    intro x u hx ⟨f1, f2, f3⟩
    refine ⟨f1, ?_, ?_⟩
    · show 0 ≤ (if x ∈ v :: h2 then (s.cnt : Int) else s.of x) → 0 ≤ (if u ∈ v :: h2 then (s.cnt : Int) else s.of u) ∧ (if u ∈ v :: h2 then (s.cnt : Int) else s.of u) ≤ (if x ∈ v :: h2 then (s.cnt : Int) else s.of x)
      rw [ofN x hx]
      intro h
      have h' := f2 h
      have hu : u ∉ v :: h2 := fun k => by have := oldP u k; omega
      rw [ofN u hu]; exact h'
    · show (if x ∈ v :: h2 then (s.cnt : Int) else s.of x) < 0 → 0 ≤ (if u ∈ v :: h2 then (s.cnt : Int) else s.of u) ∨ s.low x ≤ s.ord u
      rw [ofN x hx]
      intro h
      by_cases hu : u ∈ v :: h2
      · rw [ofP u hu]; exact .inl (by omega)
      · rw [ofN u hu]; exact f3 h
  constructor
  · intro y hy
    have hyh := (held y).2 (.inl hy)
    exact ⟨(I.hOrd y hyh).1, by show (if y ∈ v :: h2 then (s.cnt : Int) else s.of y) < 0; rw [ofN y (notP y hy)]; exact (I.hOrd y hyh).2⟩
  · exact s1
  · exact I.ordLe
  · intro y k1 k2
    have k2' : (if y ∈ v :: h2 then (s.cnt : Int) else s.of y) < 0 := k2
    by_cases h : y ∈ v :: h2
    · rw [ofP y h] at k2'; omega
    · rw [ofN y h] at k2'
      rcases (held y).1 (I.opn y k1 k2') with k | k
      · exact k
      · exact absurd k h
  · intro y k1
    show (if y ∈ v :: h2 then (s.cnt : Int) else s.of y) < 0
    have : y ∉ v :: h2 := fun k => by have := (I.hOrd y ((held y).2 (.inr k))).1; have k1' : s.ord y = 0 := k1; omega
    rw [ofN y this]; exact I.unseen y k1
  · intro y k
    have k' : 0 ≤ (if y ∈ v :: h2 then (s.cnt : Int) else s.of y) := k
    show (if y ∈ v :: h2 then (s.cnt : Int) else s.of y) < ((s.cnt + 1 : Nat) : Int)
    by_cases h : y ∈ v :: h2
    · rw [ofP y h]; omega
    · rw [ofN y h] at k' ⊢; have := I.ofLt y k'; omega
  · intro y hy
    have hyh := (held y).2 (.inl hy)
    obtain ⟨k1, w, k2, k3, k4⟩ := I.lowW y hyh
    exact ⟨k1, w, inH w k2 (by have := lo y hy; omega), k3, k4⟩
  · exact restH
  · exact g2
  · exact fun p hp y hy => I.reach p (subg p hp) y ((held y).2 (.inl hy))
  · intro y hy hny
    have hyh := (held y).2 (.inl hy)
    have hyv := lo y hy
    have hyg : y ∉ s.g := by
      rw [hg]; intro k
      rcases List.mem_cons.1 k with k | k
      · subst k; omega
      · exact hny k
    obtain ⟨k1, p, hp, k2, k3, k4⟩ := I.fin y hyh hyg
    rw [hg] at hp
    rcases List.mem_cons.1 hp with k | k
    · subst k; omega
    · exact ⟨k1, p, k, k2, k3, fun q hq => k4 q (subg q hq)⟩
  · intro x k1 hnx u hu
    have F : Fine s x u := by
      by_cases e : x = v
      · subst e
        exact I.edgeG (x, n) (by rw [ht]; exact List.mem_cons_self ..) u (by show u ∈ (E x).take n; rw [List.take_of_length_le hn]; exact hu)
      · exact I.edge x k1 (by rw [hg]; intro h; rcases List.mem_cons.1 h with h | h; exact e h; exact hnx h) u hu
    by_cases hx : x ∈ v :: h2
    · obtain ⟨f1, f2, f3⟩ := F
      refine ⟨f1, ?_, ?_⟩
      · show 0 ≤ (if x ∈ v :: h2 then (s.cnt : Int) else s.of x) → 0 ≤ (if u ∈ v :: h2 then (s.cnt : Int) else s.of u) ∧ (if u ∈ v :: h2 then (s.cnt : Int) else s.of u) ≤ (if x ∈ v :: h2 then (s.cnt : Int) else s.of x)
        rw [ofP x hx]
        intro _
        by_cases hu' : u ∈ v :: h2
        · rw [ofP u hu']; omega
        · rw [ofN u hu']
          by_cases k : 0 ≤ s.of u
          · have := I.ofLt u k; omega
          · have uh := I.opn u f1 (by omega)
            have u1 := f3 (oldP x hx)
            have u2 := (lowP x hx).1
            exact absurd (inP u uh (by omega)) hu'
      · show (if x ∈ v :: h2 then (s.cnt : Int) else s.of x) < 0 → _
        rw [ofP x hx]; intro h; omega
    · exact fineN x u hx F
  · intro p hp u hu
    have hpr : p.1 ∈ rest.map Prod.fst := List.mem_map_of_mem hp
    exact fineN _ u (notP _ (restH _ hpr)) (I.edgeG p (by rw [ht]; exact List.mem_cons_of_mem _ hp) u hu)
  · intro x y k1 k2
    have k1' : 0 ≤ (if x ∈ v :: h2 then (s.cnt : Int) else s.of x) := k1
    have k2' : (if x ∈ v :: h2 then (s.cnt : Int) else s.of x) = (if y ∈ v :: h2 then (s.cnt : Int) else s.of y) := k2
    by_cases hx : x ∈ v :: h2 <;> by_cases hy : y ∈ v :: h2
    · exact part x hx y hy
    · rw [ofP x hx, ofN y hy] at k2'; have := I.ofLt y (by omega); omega
    · rw [ofN x hx, ofP y hy] at k2'; rw [ofN x hx] at k1'; have := I.ofLt x k1'; omega
    · rw [ofN x hx] at k1'; rw [ofN x hx, ofN y hy] at k2'; exact I.both x y k1' k2'
theorem held_nil {E : Nat → List Nat} {s : St} (I : Inv E s) (h : s.todo = []) : s.held = [] := by
  rcases hh : s.held with _ | ⟨x, r⟩
  · rfl
  · have hg : s.g = [] := by simp [St.g, h]
    obtain ⟨_, p, hp, _⟩ := I.fin x (by rw [hh]; exact List.mem_cons_self ..) (by rw [hg]; exact List.not_mem_nil)
    rw [hg] at hp; exact absurd hp List.not_mem_nil
theorem rest_ne {E : Nat → List Nat} {s : St} (I : Inv E s) {v n : Nat} {rest : List (Nat × Nat)} (ht : s.todo = (v, n) :: rest) (hl : s.low v ≠ s.ord v) : s.low v < s.ord v ∧ ∃ x m r, rest = (x, m) :: r := by
  have hg : s.g = v :: rest.map Prod.fst := by simp [St.g, ht]
  have vh : v ∈ s.held := I.gHeld v (by rw [hg]; exact List.mem_cons_self ..)
  obtain ⟨k1, w, k2, k3, _⟩ := I.lowW v vh
  have k4 : s.low v < s.ord v := by omega
  refine ⟨k4, ?_⟩
  rcases rest with _ | ⟨⟨x, m⟩, r⟩
  · exfalso
    have hwg : w ∉ s.g := by rw [hg]; simp; intro e; subst e; omega
    obtain ⟨_, p, hp, h2, _⟩ := I.fin w k2 hwg
    rw [hg] at hp; simp at hp; subst hp; omega
  · exact ⟨x, m, r, rfl⟩
theorem done {E : Nat → List Nat} {s : St} (I : Inv E s) (h : s.todo = []) (x : Nat) (hx : 0 < s.ord x) : 0 ≤ s.of x ∧ ∀ t ∈ E x, 0 < s.ord t ∧ 0 ≤ s.of t ∧ s.of t ≤ s.of x := by
  have hg : s.g = [] := by simp [St.g, h]
  have h0 : 0 ≤ s.of x := by
    rcases Int.lt_or_le (s.of x) 0 with k | k
    · have := I.opn x hx k; rw [held_nil I h] at this; exact absurd this List.not_mem_nil
    · exact k
  refine ⟨h0, fun t ht => ?_⟩
  obtain ⟨f1, f2, _⟩ := I.edge x hx (by rw [hg]; exact List.not_mem_nil) t ht
  exact ⟨f1, f2 h0⟩
end Tj
namespace Lv
open Tj
def outs (es : List (Nat × Nat × Bool)) (v : Nat) : List Nat := (es.filter fun e => e.1 == v).map fun e => e.2.1
theorem mem_outs {es : List (Nat × Nat × Bool)} {v t : Nat} : t ∈ outs es v ↔ ∃ e ∈ es, e.1 = v ∧ e.2.1 = t := by
  simp [outs]
def Sol (es : List (Nat × Nat × Bool)) (L : Nat → Nat) : Prop := ∀ e ∈ es, L e.2.1 + e.2.2.toNat ≤ L e.1
theorem sol_rch {es : List (Nat × Nat × Bool)} {L : Nat → Nat} (h : Sol es L) {u v : Nat} (r : Rch (outs es) u v) : L v ≤ L u := by
  induction r with
  | refl => exact Nat.le_refl _
  | step _ e ih =>
    obtain ⟨x, hx, h1, h2⟩ := mem_outs.1 e
    have := h x hx
    rw [h1, h2] at this; omega
structure I (es : List (Nat × Nat × Bool)) (done : List Nat) (lv : Nat → Nat) : Prop where
  a : ∀ e ∈ es, e.1 ∈ done → e.2.1 ∈ done ∧ lv e.2.1 + e.2.2.toNat ≤ lv e.1
  b : ∀ L, Sol es L → ∀ v ∈ done, lv v ≤ L v
  c : ∀ v ∈ done, lv v < done.length
  d : ∀ v, v ∉ done → lv v = 0
theorem nil (es : List (Nat × Nat × Bool)) : I es [] fun _ => 0 := by constructor <;> simp
theorem toNat_le (b : Bool) : b.toNat ≤ 1 := by cases b <;> decide
theorem step {es : List (Nat × Nat × Bool)} {done : List Nat} {lv : Nat → Nat} (h : I es done lv) {p : List Nat} (hp : p ≠ []) (hd : ∀ v ∈ p, v ∉ done)
    (hE : ∀ e ∈ es, e.1 ∈ p → e.2.1 ∈ done ∨ e.2.1 ∈ p) (hb : ∀ u ∈ p, ∀ v ∈ p, Rch (outs es) u v) (hno : ∀ e ∈ es, e.1 ∈ p → e.2.1 ∈ p → e.2.2 = false)
    {top : Nat} (h1 : ∀ e ∈ es, e.1 ∈ p → lv e.2.1 + e.2.2.toNat ≤ top) (h2 : top = 0 ∨ ∃ e ∈ es, e.1 ∈ p ∧ top = lv e.2.1 + e.2.2.toNat) :
    I es (done ++ p) (fun u => if u ∈ p then top else lv u) := by
  have pl : 0 < p.length := List.length_pos_iff.2 hp
  constructor
  · intro e he k
    show _ ∧ (if e.2.1 ∈ p then top else lv e.2.1) + e.2.2.toNat ≤ (if e.1 ∈ p then top else lv e.1)
    rcases List.mem_append.1 k with k | k
    · obtain ⟨a1, a2⟩ := h.a e he k
      rw [if_neg (fun q => hd _ q a1), if_neg (fun q => hd _ q k)]
      exact ⟨List.mem_append_left _ a1, a2⟩
    · rw [if_pos k]
      refine ⟨List.mem_append.2 (hE e he k), ?_⟩
      by_cases q : e.2.1 ∈ p
      · rw [if_pos q, hno e he k q]; exact Nat.le_refl _
      · rw [if_neg q]; exact h1 e he k
  · intro L hL v k
    show (if v ∈ p then top else lv v) ≤ L v
    by_cases q : v ∈ p
    · rw [if_pos q]
      rcases h2 with z | ⟨e, he, k1, z⟩
      · omega
      · have r := sol_rch hL (hb v q e.1 k1)
        have s := hL e he
        rw [z]
        rcases hE e he k1 with k2 | k2
        · have := h.b L hL _ k2; omega
        · have w := h.d _ (hd _ k2)
          rw [hno e he k1 k2] at s ⊢
          have : (false : Bool).toNat = 0 := rfl
          omega
    · rw [if_neg q]
      rcases List.mem_append.1 k with k | k
      · exact h.b L hL v k
      · exact absurd k q
  · intro v k
    show (if v ∈ p then top else lv v) < (done ++ p).length
    rw [List.length_append]
    by_cases q : v ∈ p
    · rw [if_pos q]
      rcases h2 with z | ⟨e, he, k1, z⟩
      · omega
      · have t := toNat_le e.2.2
        rcases hE e he k1 with k2 | k2
        · have := h.c _ k2; omega
        · have w := h.d _ (hd _ k2)
          rw [hno e he k1 k2] at z
          have : (false : Bool).toNat = 0 := rfl
          omega
    · rw [if_neg q]
      rcases List.mem_append.1 k with k | k
      · have := h.c v k; omega
      · exact absurd k q
  · intro v k
    show (if v ∈ p then top else lv v) = 0
    have k1 : v ∉ p := fun q => k (List.mem_append_right _ q)
    rw [if_neg k1]
    exact h.d v fun q => k (List.mem_append_left _ q)
theorem none_ {es : List (Nat × Nat × Bool)} {e : Nat × Nat × Bool} (he : e ∈ es) (hn : e.2.2 = true) (hr : Rch (outs es) e.2.1 e.1) (L : Nat → Nat) : ¬ Sol es L := by
  intro h
  have h1 := h e he
  have h2 := sol_rch h hr
  rw [hn] at h1
  have : (true : Bool).toNat = 1 := rfl
  omega
theorem sol {es : List (Nat × Nat × Bool)} {done : List Nat} {lv : Nat → Nat} (h : I es done lv) (hall : ∀ e ∈ es, e.1 ∈ done) : Sol es lv ∧ (∀ L, Sol es L → ∀ v, lv v ≤ L v) ∧ ∀ v, done ≠ [] → lv v < done.length := by
  refine ⟨fun e he => (h.a e he (hall e he)).2, fun L hL v => ?_, fun v hd => ?_⟩
  · by_cases k : v ∈ done
    · exact h.b L hL v k
    · rw [h.d v k]; exact Nat.zero_le _
  · by_cases k : v ∈ done
    · exact h.c v k
    · rw [h.d v k]; exact List.length_pos_iff.2 hd
structure Ord (W : Nat → List Nat) (cnt : Nat) (out ready : List Nat) : Prop where
  nd : (out ++ ready).Nodup
  lt : ∀ a ∈ out ++ ready, a < cnt
  free : ∀ a ∈ out ++ ready, ∀ b ∈ W a, b ∈ out
  all : ∀ a, a < cnt → (∀ b ∈ W a, b ∈ out) → a ∈ out ++ ready
  set : ∀ l a r, out = l ++ a :: r → ∀ b ∈ W a, b ∈ l
theorem Ord.next {W : Nat → List Nat} {cnt k : Nat} {out ready come : List Nat} (h : Ord W cnt out (k :: ready)) (hn : come.Nodup)
    (hc : ∀ a, a ∈ come ↔ a < cnt ∧ k ∈ W a ∧ ∀ b ∈ W a, b ∈ out ++ [k]) {ready' : List Nat} (hp : ready'.Perm (ready ++ come)) : Ord W cnt (out ++ [k]) ready' := by
  have P : (out ++ [k] ++ ready').Perm (out ++ (k :: ready) ++ come) := by
    have : out ++ (k :: ready) ++ come = out ++ [k] ++ (ready ++ come) := by simp
    rw [this]; exact List.Perm.append_left _ hp
  have kn : k ∉ out := by
    have := List.nodup_append.1 h.nd
    intro q; exact this.2.2 k q k (List.mem_cons_self ..) rfl
  have M : ∀ a, a ∈ out ++ [k] ++ ready' ↔ a ∈ out ++ (k :: ready) ∨ a ∈ come := fun a => by rw [P.mem_iff, List.mem_append]
  have fr : ∀ a ∈ out ++ [k] ++ ready', ∀ b ∈ W a, b ∈ out ++ [k] := by
    intro a ha b hb
    rcases (M a).1 ha with q | q
    · exact List.mem_append_left _ (h.free a q b hb)
    · exact ((hc a).1 q).2.2 b hb
  constructor
  · rw [P.nodup_iff]
    refine List.nodup_append.2 ⟨h.nd, hn, fun a ha b hb e => ?_⟩
    subst e
    exact kn (h.free a ha k ((hc a).1 hb).2.1)
  · intro a ha
    rcases (M a).1 ha with q | q
    · exact h.lt a q
    · exact ((hc a).1 q).1
  · exact fr
  · intro a ha hb
    refine (M a).2 ?_
    by_cases q : k ∈ W a
    · exact .inr ((hc a).2 ⟨ha, q, hb⟩)
    · refine .inl (h.all a ha fun b hb' => ?_)
      rcases List.mem_append.1 (hb b hb') with r | r
      · exact r
      · rw [List.mem_singleton] at r; subst r; exact absurd hb' q
  · intro l a r e b hb
    rcases List.eq_nil_or_concat r with z | ⟨r', x, z⟩
    · subst z
      have e' : out ++ [k] = l ++ [a] := e
      obtain ⟨e1, e2⟩ := List.append_inj' e' rfl
      cases e2
      rw [← e1]
      exact h.free k (List.mem_append_right _ (List.mem_cons_self ..)) b hb
    · subst z
      have e' : out ++ [k] = (l ++ a :: r') ++ [x] := by rw [e]; simp
      exact h.set l a r' (List.append_inj' e' rfl).1 b hb
theorem Ord.whole {W : Nat → List Nat} {cnt : Nat} {out : List Nat} (h : Ord W cnt out []) (hW : ∀ a, a < cnt → ∀ b ∈ W a, b < a) (a : Nat) (ha : a < cnt) : a ∈ out := by
  induction a using Nat.strongRecOn with
  | _ a ih =>
    have := h.all a ha fun b hb => ih b (hW a ha b hb) (by have := hW a ha b hb; omega)
    rwa [List.append_nil] at this
end Lv
def cs (l : List Nat) : List Int := l.map fun n : Nat => (n : Int)
theorem cs_len (l : List Nat) : (cs l).length = l.length := by simp [cs]
theorem cs_get {l : List Nat} {j x : Nat} (h : l[j]? = some x) : (cs l)[j]? = some (x : Int) := by simp [cs, h]
theorem mem_cs {l : List Nat} {x : Int} : x ∈ cs l ↔ ∃ n ∈ l, (n : Int) = x := by simp [cs]
theorem cs_app (a b : List Nat) : cs (a ++ b) = cs a ++ cs b := by simp [cs]
def tSn : Ty (Nat × Nat) := tIso (tPair (tInt .i64) (tInt .i64)) (fun x => ((x.1 : Int), (x.2 : Int)))
def fcSn (x : Nat × Nat) : List Value := [.int .i64 (x.1 : Int), .int .i64 (x.2 : Int)]
theorem tSn_fc (h : Heap) (x : Nat × Nat) (cs : List Value) (r : tSn.rep h x cs) : cs = fcSn x := by
  obtain ⟨a, b, e, h1, h2⟩ := r
  have h1' : a = [.int .i64 (x.1 : Int)] := h1
  have h2' : b = [.int .i64 (x.2 : Int)] := h2
  subst h1'; subst h2'; subst e; rfl
theorem tSn_mk (h : Heap) (x : Nat × Nat) : tSn.rep h x (fcSn x) := ⟨_, _, rfl, rfl, rfl⟩
theorem ent_Sn {Ps : List PA} {x : Nat × Nat} : Ent Ps (rp tSn x (fcSn x)) := fun hh _ => tSn_mk hh x
theorem Sn_fd1 {x : Nat × Nat} {v : Nat} : ∀ h ds, tSn.rep h x ds → tSn.rep h (x.1, v) (putS 1 [.int .i64 (v : Int)] ds) := fun h ds r => by
  have := tSn_fc h x ds r; subst this; exact tSn_mk h (x.1, v)
structure GS where
  seen : List (Nat × Nat)
  held : List Nat
  of : List Int
  R : List (Rw Int)
  order : Nat
structure GA where
  hA : Option Addr
  hc : Nat
  ofA : Option Addr
  ofc : Nat
  pA : Option Addr
  pc : Nat
def fcells (bS : Nat) (outA : Option Addr) (outc n : Nat) (a : GA) (g : GS) : List Value := [.slice outA n outc, .slice (some ⟨bS, 0, none⟩) n n, .slice a.hA (cs g.held).length a.hc, .slice a.ofA n a.ofc, .slice a.pA g.R.length a.pc, .int .i64 (g.order : Int)]
def fparts (tf te ti tp bF bS : Nat) (outA : Option Addr) (outc n : Nat) (a : GA) (g : GS) : List OA :=
  [pt bF tf (fcells bS outA outc n a g), ol tSn te (some ⟨bS, 0, none⟩) n g.seen, ol (tInt .i64) ti a.hA a.hc (cs g.held), ol (tInt .i64) ti a.ofA a.ofc g.of, ol (tRw Int) tp a.pA a.pc g.R]
def fin (tf te ti tp bF bS : Nat) (outA : Option Addr) (outc n : Nat) (g : GS) : OA := OA.ex fun a : GA => OA.pa (pas (tInt .i64) g.R) (OA.all (fparts tf te ti tp bF bS outA outc n a g))
section
variable {C : Ctx} {k : List It} {E : Env} {Ps : List PA} {Os : List OA} {tf te ti tp bF bS : Nat} {outA : Option Addr} {outc n : Nat} {g : GS} {rr : List OA}
theorem go_fin_ (h : Rem (fin tf te ti tp bF bS outA outc n g) Os rr) (q : ∀ (hA : Option Addr) (hc : Nat) (ofA : Option Addr) (ofc : Nat) (pA : Option Addr) (pc : Nat), Go C k E (pas (tInt .i64) g.R :: Ps) ([pt bF tf [.slice outA n outc, .slice (some ⟨bS, 0, none⟩) n n, .slice hA (cs g.held).length hc, .slice ofA n ofc, .slice pA g.R.length pc, .int .i64 (g.order : Int)], ol tSn te (some ⟨bS, 0, none⟩) n g.seen, ol (tInt .i64) ti hA hc (cs g.held), ol (tInt .i64) ti ofA ofc g.of, ol (tRw Int) tp pA pc g.R] ++ rr)) : Go C k E Ps Os :=
  go_oex h fun ⟨c, d, e, f, i, j⟩ => go_opa .here (go_oall .here (q c d e f i j))
theorem go_fin_mk (a : GA) (g : GS) (h : Takes Os (fparts tf te ti tp bF bS outA outc n a g) rr) (hp : pas (tInt .i64) g.R ∈ Ps) (q : Go C k E Ps (fin tf te ti tp bF bS outA outc n g :: rr)) : Go C k E Ps Os :=
  go_foldp [pas (tInt .i64) g.R] (fparts tf te ti tp bF bS outA outc n a g) (fin tf te ti tp bF bS outA outc n g) (.cons hp .nil) h (fun hp' h' hq s => ⟨a, hq _ (.head _), s⟩) q
end
theorem go_ol_take {C : Ctx} {k : List It} {E : Env} {Ps : List PA} {Os : List OA} {α : Type} {T : Ty α} {e : Nat} {A : Option Addr} {c : Nat} {xs : List α} {rr : List OA} (m : Nat) (hm : m ≤ xs.length) (h : Rem (ol T e A c xs) Os rr) (g : Go C k E Ps (ol T e A c (xs.take m) :: rr)) : Go C k E Ps Os :=
  go_imp _ [ol T e A c (xs.take m)] h (fun hp h' ⟨cs, ⟨q1, q2, q3, q4⟩, r⟩ => sep_one ⟨cs.take (m * T.size), ⟨by
    have hmt := Nat.mul_le_mul_right T.size hm
    rw [List.length_take, q1, List.length_take, Nat.min_eq_left hmt, Nat.min_eq_left hm], by rw [List.length_take]; omega, q3, q4.elim (fun ⟨a, b⟩ => .inl ⟨by rw [List.length_take]; omega, b⟩) (fun ⟨gg, cur, a, b, cc, d⟩ => .inr ⟨gg, cur, a, b, cc, by
      have hmt := Nat.mul_le_mul_right T.size hm
      rw [List.length_take, Nat.min_eq_left hm, ← d, List.take_take, Nat.min_eq_left hmt]⟩)⟩, r.head hm⟩) g
def enterG (g : GS) (v : Nat) : GS := { g with seen := g.seen.set v (g.order + 1, g.order + 1), held := g.held ++ [v], order := g.order + 1 }
def lowerG (g : GS) (v to : Nat) : GS := match g.seen[v]? with | some x => { g with seen := g.seen.set v (x.1, min x.2 to) } | none => g
def setAll (cnt : Int) (of : List Int) (m : List Int) : List Int := m.foldl (fun o u => o.set u.toNat cnt) of
inductive LeaveR (g : GS) (v : Nat) : GS → Prop
  | no {x : Nat × Nat} : g.seen[v]? = some x → x.2 ≠ x.1 → LeaveR g v g
  | yes {x : Nat × Nat} {h1 h2 : List Nat} {A : Option Addr} {c : Nat} {m : List Int} : g.seen[v]? = some x → x.2 = x.1 → g.held = h1 ++ v :: h2 → m.Perm (cs (v :: h2)) → LeaveR g v { g with held := h1, of := setAll g.R.length g.of m, R := g.R ++ [⟨A, c, m⟩] }
theorem setAll_len (cnt : Int) : ∀ (m of : List Int), (setAll cnt of m).length = of.length
  | [], _ => rfl
  | u :: m, of => by rw [setAll, List.foldl_cons]; exact (setAll_len cnt m _).trans (List.length_set ..)
theorem setAll_snoc (cnt : Int) (of m : List Int) (u : Int) : setAll cnt of (m ++ [u]) = (setAll cnt of m).set u.toNat cnt := by simp [setAll]
theorem setAll_get (cnt : Int) : ∀ (m of : List Int) (i : Nat), i < of.length → (setAll cnt of m)[i]? = if (∃ u ∈ m, u.toNat = i) then some cnt else of[i]?
  | [], of, i, h => by simp [setAll]
  | u :: m, of, i, h => by
    have := setAll_get cnt m (of.set u.toNat cnt) i (by simpa using h)
    rw [show setAll cnt of (u :: m) = setAll cnt (of.set u.toNat cnt) m from rfl, this]
    by_cases h1 : ∃ x ∈ m, x.toNat = i
    · rw [if_pos h1, if_pos (by obtain ⟨x, hx, e⟩ := h1; exact ⟨x, .tail _ hx, e⟩)]
    · rw [if_neg h1, set_at]
      by_cases h2 : u.toNat = i
      · rw [if_pos ⟨h2, by omega⟩, if_pos ⟨u, .head _, h2⟩]
      · rw [if_neg (fun q => h2 q.1), if_neg (fun ⟨x, hx, e⟩ => (List.mem_cons.1 hx).elim (fun q => h2 (q ▸ e)) (fun q => h1 ⟨x, q, e⟩))]
theorem idx_held {held h1 h2 : List Nat} {v : Nat} (e : held = h1 ++ v :: h2) (hn : ¬ v ∈ h1) : idxP (fun y => decide ((v : Int) = y)) (cs held) = (h1.length : Int) := by
  have hl : h1.length < (cs held).length := by rw [cs_len, e]; simp
  refine idxP_hit (l := cs held) hl (fun y hy => ?_) ?_
  · subst e
    rw [cs_app, show h1.length = (cs h1).length from (cs_len _).symm, List.take_left] at hy
    obtain ⟨n, hn', rfl⟩ := mem_cs.1 hy
    simp only [decide_eq_false_iff_not]
    intro q
    exact hn (by rw [show v = n by omega]; exact hn')
  · subst e
    have : (cs (h1 ++ v :: h2))[h1.length]? = some (v : Int) := cs_get (by simp)
    rw [List.getElem?_eq_getElem hl] at this
    simp [Option.some.inj this]
theorem split_first {held : List Nat} {v : Nat} (h : v ∈ held) : ∃ h1 h2, held = h1 ++ v :: h2 ∧ ¬ v ∈ h1 := by
  induction held with
  | nil => cases h
  | cons a l ih =>
    by_cases e : a = v
    · subst e; exact ⟨[], l, rfl, by simp⟩
    · obtain ⟨h1, h2, rfl, h3⟩ := ih ((List.mem_cons.1 h).elim (fun q => absurd q.symm e) id)
      exact ⟨a :: h1, h2, rfl, by simp [h3, Ne.symm e]⟩
def ordOf (g : GS) (v : Nat) : Nat := ((g.seen[v]?).getD (0, 0)).1
def lowOf (g : GS) (v : Nat) : Nat := ((g.seen[v]?).getD (0, 0)).2
def ofOf (g : GS) (v : Nat) : Int := (g.of[v]?).getD (-1)
def toSt (g : GS) (td : List (Nat × Nat)) : Tj.St := ⟨ordOf g, lowOf g, ofOf g, g.held, g.R.length, g.order, td⟩
theorem enter_ord {g : GS} {v : Nat} (h : v < g.seen.length) : ordOf (enterG g v) = Tj.upd (ordOf g) v (g.order + 1) := by
  funext u; simp only [ordOf, enterG, Tj.upd, set_at]
  by_cases e : u = v
  · subst e; simp [h]
  · rw [if_neg (fun q => e q.1.symm), if_neg e]
theorem enter_low {g : GS} {v : Nat} (h : v < g.seen.length) : lowOf (enterG g v) = Tj.upd (lowOf g) v (g.order + 1) := by
  funext u; simp only [lowOf, enterG, Tj.upd, set_at]
  by_cases e : u = v
  · subst e; simp [h]
  · rw [if_neg (fun q => e q.1.symm), if_neg e]
theorem enter_st {g : GS} {v : Nat} {td : List (Nat × Nat)} (h : v < g.seen.length) : toSt (enterG g v) td = { toSt g td with ord := Tj.upd (ordOf g) v (g.order + 1), low := Tj.upd (lowOf g) v (g.order + 1), held := g.held ++ [v], order := g.order + 1 } := by
  unfold toSt; rw [enter_ord h, enter_low h]; rfl
theorem lower_st {g : GS} {v b : Nat} {td : List (Nat × Nat)} (h : v < g.seen.length) : toSt (lowerG g v b) td = { toSt g td with low := Tj.upd (lowOf g) v (min (lowOf g v) b) } := by
  have hx : g.seen[v]? = some g.seen[v] := List.getElem?_eq_getElem h
  unfold toSt lowerG
  rw [hx]
  simp only
  congr 1
  · funext u; simp only [ordOf, set_at]
    by_cases e : u = v
    · subst e; simp [h, hx]
    · rw [if_neg (fun q => e q.1.symm)]
  · funext u; simp only [lowOf, set_at, Tj.upd]
    by_cases e : u = v
    · subst e; simp [h, hx]
    · rw [if_neg (fun q => e q.1.symm), if_neg e]
theorem leave_st {g : GS} {v : Nat} {td : List (Nat × Nat)} {h1 h2 : List Nat} {A : Option Addr} {c : Nat} {m : List Int} (hm : m.Perm (cs (v :: h2))) (hn : ∀ x ∈ v :: h2, x < g.of.length) :
    toSt { g with held := h1, of := setAll g.R.length g.of m, R := g.R ++ [⟨A, c, m⟩] } td = { toSt g td with held := h1, of := fun u => if u ∈ v :: h2 then ((toSt g td).cnt : Int) else (toSt g td).of u, cnt := (toSt g td).cnt + 1 } := by
  have hmem : ∀ i, (∃ u ∈ m, u.toNat = i) ↔ i ∈ v :: h2 := fun i => by
    constructor
    · rintro ⟨u, hu, rfl⟩
      obtain ⟨n, hn', rfl⟩ := mem_cs.1 (hm.mem_iff.1 hu)
      simpa using hn'
    · intro h; exact ⟨(i : Int), hm.mem_iff.2 (mem_cs.2 ⟨i, h, rfl⟩), by simp⟩
  unfold toSt
  simp only [Tj.St.mk.injEq, true_and, List.length_append, List.length_singleton]
  refine ⟨rfl, rfl, ?_, trivial⟩
  funext u
  simp only [ofOf]
  by_cases hu : u < g.of.length
  · rw [setAll_get _ _ _ _ hu]
    by_cases h : u ∈ v :: h2
    · rw [if_pos ((hmem u).2 h), if_pos h]; rfl
    · rw [if_neg (fun q => h ((hmem u).1 q)), if_neg h]
  · rw [List.getElem?_eq_none (by rw [setAll_len]; omega), if_neg (fun q => hu (hn _ q)), List.getElem?_eq_none (by omega)]
end Go.Proofs.YtdconhalfanclaaGreat.SL
namespace Go.Proofs.YtdconhalfanclaaGreat.SL
open Go
theorem fEnter (bF bS : Nat) (outA : Option Addr) (outc n : Nat) (g : GS) (hsn : g.seen.length = n) (hon : g.of.length = n) (hn : n ≤ 100000) (v : Nat) (hv : v < n) (ho : g.order ≤ 100000) (hh : g.held.length ≤ 100000) :
    Spec Tryz.prog 154 #[.pointer (some ⟨bF, 0, none⟩), .int .i64 (v : Int)] [] [fin 202 204 3 41 bF bS outA outc n (g)] (fun v' Ps' Os' => v' = .agg #[.int .i64 (v : Int), .int .i64 0] ∧ Ps' = [] ∧ Os' = [fin 202 204 3 41 bF bS outA outc n (enterG g v)]) := by
 refine zSp _ Tryz.func154 Tryz.ntmps154 (fun _ _ _ => ?_)
 refine zW 2 ?_
 intro b4
 refine zR 1 ?_
 refine go_fin_ (bF := bF) zM (fun hA hc ofA ofc pA pc => ?_)
 refine zL 5 ?_
 refine zR 1 ?_
 refine go_i64n 9 (g.order + 1) rfl ?_
 refine zS 2 ?_
 refine zY 2 [1, 4, 7, 13, 16, 19, 22, 28, 31, 34, 11, 26, 38, 40, 43, 45] ?_
 refine zK 10 ?_
 refine zK 0 ?_
 refine zK 0 ?_
 refine go_val1 rfl (fun a w hp ho hf hs => build_val Tk rfl rfl rfl (by rfl) a w hf) rfl ?_
 refine zI 0 ?_
 refine zSE 0 tSn g.seen v (g.order + 1, g.order + 1) ent_Sn ?_
 refine zE 1 [0, 1, 4] ?_
 refine zL 6 ?_
 refine zV 1 ?_
 intro b1
 have hcl := cs_len g.held
 refine go_append1 (T := (tInt .i64)) (xs := cs g.held) Tk ((v : Int)) rfl rfl rfl rfl rfl rfl rfl rfl rfl zM zM rfl ent_int (by omega) zH ?_
 intro A3 c3
 rw [show cs g.held ++ [(v : Int)] = cs (g.held ++ [v]) by rw [cs_app]; rfl]
 refine zS 2 ?_
 refine zq 4 ?_
 refine zS 0 ?_
 refine zR 1 ?_
 refine go_fin_mk (outA := outA) (outc := outc) (n := n) (bF := bF) (bS := bS) ⟨A3, c3, ofA, ofc, pA, pc⟩ (enterG g v) zM zM ?_
 refine zE 0 [4] ?_
 refine go_ret ⟨rfl, rfl⟩ _ _ (res1 (by rfl) (.cell rfl (rdv Tk rfl))) ⟨rfl, rfl, rfl⟩ zM zM
theorem fLower (bF bS : Nat) (outA : Option Addr) (outc n : Nat) (g : GS) (hsn : g.seen.length = n) (hon : g.of.length = n) (hn : n ≤ 100000) (v to : Nat) (hv : v < n) :
    Spec Tryz.prog 155 #[.pointer (some ⟨bF, 0, none⟩), .int .i64 (v : Int), .int .i64 (to : Int)] [] [fin 202 204 3 41 bF bS outA outc n (g)] (fun v' Ps' Os' => v' = .tuple #[] ∧ Ps' = [] ∧ Os' = [fin 202 204 3 41 bF bS outA outc n (lowerG g v to)]) := by
 refine zSp _ Tryz.func155 Tryz.ntmps155 (fun _ _ _ => ?_)
 refine go_fin_ (bF := bF) zM (fun hA hc ofA ofc pA pc => ?_)
 obtain ⟨x0, hx0⟩ : ∃ x0, g.seen[v]? = some x0 := ⟨_, List.getElem?_eq_getElem (by omega)⟩
 have hlo : lowerG g v to = { g with seen := g.seen.set v (x0.1, min x0.2 to) } := by unfold lowerG; rw [hx0]
 refine zY 0 [1, 4, 7, 13, 16, 19, 22, 28, 40, 11, 26, 31, 34, 38, 43, 46, 49, 51] ?_
 refine zK 9 ?_
 refine zK 0 ?_
 refine zI 0 ?_
 refine zR 1 ?_
 refine go_val2a rfl (load_val (cs := [.int .i64 (x0.2 : Int)]) Tk rfl rfl rfl (at_ol fcSn tSn_fc 1 (xs := g.seen) zM hx0 rfl) rfl) rfl ?_
 refine go_val1 rfl (min_val rfl rfl rfl) rfl ?_
 refine go_re 20 (.int .i64 ((min x0.2 to : Nat) : Int)) (by show some (Value.int _ (if (to : Int) < (x0.2 : Int) then (to : Int) else (x0.2 : Int))) = _; exact congrArg (fun z : Int => some (Value.int IntKind.i64 z)) (by split <;> omega)) ?_
 refine zI 0 ?_
 refine zR 1 ?_
 refine go_store_fd (T := tSn) (xs := g.seen) (j := v) Tk 1 (x0.1, min x0.2 to) rfl rfl rfl rfl rfl rfl zM hx0 rfl rfl (show 2 ≤ 2 from Nat.le_refl 2) Sn_fd1 zQ ?_
 refine zR 1 ?_
 rw [hlo]
 refine go_fin_mk (outA := outA) (outc := outc) (n := n) (bF := bF) (bS := bS) ⟨hA, hc, ofA, ofc, pA, pc⟩ ({ g with seen := g.seen.set v (x0.1, min x0.2 to) }) zM zM ?_
 refine zT 0 rfl ⟨rfl, rfl, rfl⟩
theorem fLeave (bF bS : Nat) (outA : Option Addr) (outc n : Nat) (g : GS) (hsn : g.seen.length = n) (hon : g.of.length = n) (hn : n ≤ 100000) (v : Nat) (hv : v < n) (hvh : v ∈ g.held) (hlt : ∀ x ∈ g.held, x < n) (hh : g.held.length ≤ 100000) (hR : g.R.length ≤ 100000) :
    Spec Tryz.prog 156 #[.pointer (some ⟨bF, 0, none⟩), .int .i64 (v : Int)] [] [fin 202 204 3 41 bF bS outA outc n (g)] (fun v' Ps' Os' => ∃ g', LeaveR g v g' ∧ v' = .tuple #[] ∧ Ps' = [] ∧ Os' = [fin 202 204 3 41 bF bS outA outc n (g')]) := by
 refine zSp _ Tryz.func156 Tryz.ntmps156 (fun _ _ _ => ?_)
 refine zR 2 ?_
 refine go_fin_ (bF := bF) zM (fun hA hc ofA ofc pA pc => ?_)
 obtain ⟨x0, hx0⟩ : ∃ x0, g.seen[v]? = some x0 := ⟨_, List.getElem?_eq_getElem (by omega)⟩
 refine zY 0 [1, 4, 7, 13, 25, 28, 31, 37, 11, 16, 19, 23, 35, 40, 43, 47, 49] ?_
 refine zK 8 ?_
 refine zI 0 ?_
 refine zR 1 ?_
 refine go_val2a rfl (load_val (cs := [.int .i64 (x0.2 : Int)]) Tk rfl rfl rfl (at_ol fcSn tSn_fc 1 (xs := g.seen) zM hx0 rfl) rfl) rfl ?_
 refine zK 0 ?_
 refine zI 0 ?_
 refine zR 1 ?_
 refine go_val2a rfl (load_val (cs := [.int .i64 (x0.1 : Int)]) Tk rfl rfl rfl (at_ol fcSn tSn_fc 0 (xs := g.seen) zM hx0 rfl) rfl) rfl ?_
 refine zE 2 [0, 1, 24] ?_
 refine zN 0 ?_ ?_
 ·intro e1
  refine go_fin_mk (outA := outA) (outc := outc) (n := n) (bF := bF) (bS := bS) ⟨hA, hc, ofA, ofc, pA, pc⟩ (g) zM zM ?_
  refine zT 0 rfl ⟨g, .no hx0 (fun q => e1 (by omega)), rfl, rfl, rfl⟩
 intro e1
 have e2 : x0.2 = x0.1 := by omega
 obtain ⟨h1, h2, hsp, hnot⟩ := split_first hvh
 have hcl := cs_len g.held
 have hhl : g.held.length = h1.length + (h2.length + 1) := by rw [hsp]; simp
 have hdr : (cs g.held).drop h1.length = cs (v :: h2) := by rw [hsp, cs_app, show h1.length = (cs h1).length from (cs_len h1).symm, List.drop_left]
 refine go_len_ol (xs := cs g.held) zM (fun l0 m0 => ?_)
 refine zL 6 ?_
 refine zC3 1 ((indexI hA hc (cs g.held) (v : Int)).ownl (e := 3)) ?_
 rw [idx_held hsp hnot]
 refine zL 7 ?_
 refine zR 1 ?_
 refine go_val0 rfl (slice_val' Tk rfl rfl rfl rfl h1.length (cs g.held).length hc (.slice (if hc = h1.length then hA else hA.map (·.add (h1.length * (tInt .i64).size))) (cs (v :: h2)).length (hc - h1.length)) (by first | rfl | exact ⟨_, rfl⟩ | exact ⟨rfl, rfl⟩) (by first | rfl | exact ⟨_, rfl⟩ | exact ⟨rfl, rfl⟩) (by first | rfl | exact ⟨_, rfl⟩ | exact ⟨rfl, rfl⟩) (by omega) (by omega) (by omega) (by rw [cs_len, cs_len, hhl, List.length_cons, Nat.add_sub_cancel_left]; rfl)) rfl ?_
 refine zC 0 (valuesI (if hc = h1.length then hA else hA.map (·.add (h1.length * (tInt .i64).size))) (cs (v :: h2)).length (hc - h1.length)) ?_
 rintro _ _ _ ⟨bV, rfl, rfl, rfl⟩
 refine zC 0 ((Spec.lend ((sortedI bV (if hc = h1.length then hA else hA.map (·.add (h1.length * (tInt .i64).size))) (hc - h1.length) (cs (v :: h2)) (by rw [cs_len]; simp at hhl ⊢; omega)).less (Ps' := [sl tI (if hc = h1.length then hA else hA.map (·.add (h1.length * (tInt .i64).size))) (hc - h1.length) (cs (v :: h2)), cl bV 0 [.slice (if hc = h1.length then hA else hA.map (·.add (h1.length * (tInt .i64).size))) (cs (v :: h2)).length (hc - h1.length)]]) (fun p hp => by simp only [List.mem_cons, List.not_mem_nil, or_false] at hp ⊢; exact hp.elim .inr .inl)) (ol (tInt .i64) 3 hA hc (cs g.held)) (fun hp ha H b1 b2 b3 => by have := Sl.suf (lend_ol hp ha H b1 b2 b3) (n := h1.length) (by omega); rw [hdr] at this; exact this) (fun v P' O' h => by obtain ⟨A', c', m, _, _, e3, e4⟩ := h; subst e4; exact ⟨e3, fun B hB => by rw [List.mem_singleton.1 hB]; exact free_ol (fun _ _ _ _ x => x)⟩))) ?_
 rintro _ _ _ ⟨_, ⟨Am, cm, m, hm, rfl, _, rfl⟩, rfl, rfl⟩
 refine go_freeze_ol (xs := m) zM ?_
 have hml : m.length = h2.length + 1 := by rw [hm.length_eq, cs_len]; rfl
 refine zE 2 [0, 4, 5] ?_
 refine zR 1 ?_
 refine go_ol_take (xs := cs g.held) h1.length (by omega) zM ?_
 have hct : (cs g.held).take h1.length = cs h1 := by rw [hsp, cs_app, show h1.length = (cs h1).length from (cs_len h1).symm, List.take_left]
 rw [hct]
 have hc1 := cs_len h1
 refine zL 5 ?_
 refine zR 1 ?_
 refine go_val0 rfl (slice_val' Tk rfl rfl rfl rfl 0 h1.length hc (.slice hA (cs h1).length hc) (by first | rfl | exact ⟨_, rfl⟩ | exact ⟨rfl, rfl⟩) (by first | rfl | exact ⟨_, rfl⟩ | exact ⟨rfl, rfl⟩) (by first | rfl | exact ⟨_, rfl⟩ | exact ⟨rfl, rfl⟩) (by omega) (by omega) (by omega) (by rw [sub0, hc1]; rfl)) rfl ?_
 refine zS 2 ?_
 refine zR 8 ?_
 refine go_len (xs := m) zM (fun l1 m1 => ?_)
 refine go_ol_addr (xs := g.of) zM (by omega) (fun bO hO => ?_); subst hO
 refine go_same (A := ol (tInt .i64) 3 (some ⟨bO, 0, none⟩) ofc (g.of)) (B := ol (tInt .i64) 3 (some ⟨bO, 0, none⟩) ofc (setAll (g.R.length : Int) g.of (m.take (0)))) zM rfl ?_
 refine zR 1 ?_
 refine zO (X := Nat) (fun j => [(50, .int .i64 (j : Int))]) [0, 5, 48, 49] (fun j => [ol (tInt .i64) 3 (some ⟨bO, 0, none⟩) ofc (setAll (g.R.length : Int) g.of (m.take (j)))]) (fun j => j ≤ m.length) (fun j => m.length - j) 0 (by omega) ?_
 intro j hj
 have hsl := setAll_len (g.R.length : Int) (m.take j) g.of
 refine zD' 5 ?_ ?_
 ·intro hq1
  refine zR 1 ?_
  refine go_same (A := ol (tInt .i64) 3 (some ⟨bO, 0, none⟩) ofc (setAll (g.R.length : Int) g.of (m.take (j)))) (B := ol (tInt .i64) 3 (some ⟨bO, 0, none⟩) ofc (setAll (g.R.length : Int) g.of m)) zM (by rw [List.take_of_length_le (show m.length ≤ j by omega)]) ?_
  refine go_pas_app (R := g.R) ⟨Am, cm, m⟩ zM zM ?_
  refine zL 5 ?_
  refine zV 1 ?_
  intro b1
  refine go_append1 (T := (tRw Int)) (xs := g.R) Tk ((⟨Am, cm, m⟩ : Rw Int)) rfl rfl rfl rfl rfl rfl rfl rfl rfl zM zM rfl ent_Rw (by omega) zH ?_
  intro A3 c3
  refine zS 2 ?_
  refine zR 1 ?_
  refine go_fin_mk (outA := outA) (outc := outc) (n := n) (bF := bF) (bS := bS) ⟨hA, hc, some ⟨bO, 0, none⟩, ofc, A3, c3⟩ ({ g with held := h1, of := setAll (g.R.length : Int) g.of m, R := g.R ++ [⟨Am, cm, m⟩] }) zM zM ?_
  refine zT 0 rfl ⟨_, .yes hx0 e2 hsp hm, rfl, rfl, rfl⟩
 intro hq1
 refine zR 4 ?_
 obtain ⟨u, hum, hue⟩ := mem_cs.1 (hm.mem_iff.1 (List.getElem_mem (show j < m.length by omega)))
 replace hue := hue.symm
 have hun : u < n := hlt u (by rw [hsp]; exact List.mem_append_right _ hum)
 refine go_elem_int (xs := m) zM (j) (List.getElem?_eq_getElem (by omega)) (fun b0 o0 hA => ?_); cases hA
 refine zI 1 ?_
 refine zL 0 ?_
 refine zR 2 ?_
 refine go_re 7 (.int .i64 (u : Int)) (by rw [← hue]; rfl) ?_
 refine zY 0 [1, 4, 7, 13, 16, 19, 22, 11, 26, 28, 31, 33] ?_
 refine zK 7 ?_
 refine zK 0 ?_
 refine zI 1 ?_
 refine zSE 0 (tInt .i64) (setAll (g.R.length : Int) g.of (m.take (j))) u (g.R.length : Int) ent_int ?_
 refine zE 1 [0, 5, 48, 49, 50] ?_
 refine zR 5 ?_
 refine zi 50 ?_
 refine go_same (A := ol (tInt .i64) 3 (some ⟨bO, 0, none⟩) ofc ((setAll (g.R.length : Int) g.of (m.take (j))).set u (g.R.length : Int))) (B := ol (tInt .i64) 3 (some ⟨bO, 0, none⟩) ofc (setAll (g.R.length : Int) g.of (m.take (j + 1)))) zM (by rw [List.take_succ_eq_append_getElem (show j < m.length by omega), setAll_snoc, hue, Int.toNat_natCast]) ?_
 refine zz (j + 1) (by omega) (by omega)
end Go.Proofs.YtdconhalfanclaaGreat.SL
namespace Go.Proofs.YtdconhalfanclaaGreat.SL
open Tj
def zs (l : List (Nat × Nat)) : Nat := (l.filter fun x => x.1 == 0).length
theorem zs_set : ∀ {l : List (Nat × Nat)} {i : Nat} {x y : Nat × Nat}, l[i]? = some x → zs (l.set i y) + (if x.1 = 0 then 1 else 0) = zs l + (if y.1 = 0 then 1 else 0)
  | [], _, _, _, h => by simp at h
  | a :: l, 0, x, y, h => by
    simp at h; subst h
    simp only [zs, List.set_cons_zero, List.filter_cons]
    by_cases h1 : a.1 = 0 <;> by_cases h2 : y.1 = 0 <;> simp [h1, h2]
  | a :: l, i + 1, x, y, h => by
    have := zs_set (l := l) (i := i) (x := x) (y := y) (by simpa using h)
    simp only [zs, List.set_cons_succ, List.filter_cons] at this ⊢
    by_cases h1 : a.1 = 0 <;> simp [h1] <;> omega
structure FI (E : Nat → List Nat) (n : Nat) (g : GS) (td : List (Nat × Nat)) : Prop where
  sl : g.seen.length = n
  ol : g.of.length = n
  hn : ∀ x ∈ g.held, x < n
  cnt : g.order + zs g.seen = n
  rh : g.R.length + g.held.length ≤ g.order
  z : ∀ v, ordOf g v = 0 → lowOf g v = 0
  inv : Inv E (toSt g td)
  pr : ∀ (k : Nat) (x : Rw Int), g.R[k]? = some x → x.l ≠ [] ∧ x.l.Nodup ∧ (∀ u : Nat, (u : Int) ∈ x.l ↔ ofOf g u = (k : Int)) ∧ ∀ y ∈ x.l, ∃ u : Nat, y = (u : Int) ∧ u < n
theorem seen_at {g : GS} {v : Nat} (h : v < g.seen.length) : g.seen[v]? = some (ordOf g v, lowOf g v) := by
  unfold ordOf lowOf; rw [List.getElem?_eq_getElem h]; rfl
def mono (g g' : GS) : Prop := ∀ u, 0 < ordOf g u → 0 < ordOf g' u
theorem mono.refl (g : GS) : mono g g := fun _ h => h
theorem mono.trans {a b c : GS} (h : mono a b) (k : mono b c) : mono a c := fun u q => k u (h u q)
theorem mono_enter {g : GS} {v : Nat} (h : v < g.seen.length) : mono g (enterG g v) := fun u q => by
  rw [enter_ord h]; unfold Tj.upd; split <;> omega
theorem ord_lower {g : GS} {v b : Nat} (h : v < g.seen.length) : ordOf (lowerG g v b) = ordOf g := by
  have := congrArg Tj.St.ord (lower_st (g := g) (v := v) (b := b) (td := []) h); exact this
theorem mono_lower {g : GS} {v b : Nat} (h : v < g.seen.length) : mono g (lowerG g v b) := fun u q => by rw [ord_lower h]; exact q
theorem mono_leave {g g' : GS} {v : Nat} (h : LeaveR g v g') : mono g g' := by
  cases h with
  | no _ _ => exact mono.refl g
  | yes _ _ _ _ => exact fun u q => q
theorem zs_enter {g : GS} {v : Nat} (h : v < g.seen.length) (h0 : ordOf g v = 0) : zs (enterG g v).seen + 1 = zs g.seen := by
  have := zs_set (y := (g.order + 1, g.order + 1)) (seen_at h)
  rw [h0] at this
  simpa [enterG] using this
theorem zs_lower {g : GS} {v b : Nat} (h : v < g.seen.length) : zs (lowerG g v b).seen = zs g.seen := by
  have h1 := seen_at h
  unfold lowerG
  rw [h1]
  have := zs_set (y := (ordOf g v, min (lowOf g v) b)) h1
  simp only at this ⊢
  omega
section
variable {E : Nat → List Nat} {n : Nat} {g : GS}
theorem pr_enter {td : List (Nat × Nat)} (I : FI E n g td) (v : Nat) : ∀ (k : Nat) (x : Rw Int), (enterG g v).R[k]? = some x → x.l ≠ [] ∧ x.l.Nodup ∧ (∀ u : Nat, (u : Int) ∈ x.l ↔ ofOf (enterG g v) u = (k : Int)) ∧ ∀ y ∈ x.l, ∃ u : Nat, y = (u : Int) ∧ u < n := I.pr
theorem z_enter {td : List (Nat × Nat)} (I : FI E n g td) {v : Nat} (h : v < g.seen.length) : ∀ u, ordOf (enterG g v) u = 0 → lowOf (enterG g v) u = 0 := fun u q => by
  rw [enter_ord h] at q; rw [enter_low h]
  unfold Tj.upd at q ⊢
  split at q
  · omega
  · rename_i c; rw [if_neg c]; exact I.z u q
theorem FI.mkEnter {td td' : List (Nat × Nat)} (I : FI E n g td) {v : Nat} (h : v < n) (h0 : ordOf g v = 0) (J : Inv E (toSt (enterG g v) td')) : FI E n (enterG g v) td' := by
  have hs : v < g.seen.length := by rw [I.sl]; exact h
  have hz := zs_enter hs h0
  have hc := I.cnt
  have hr := I.rh
  refine ⟨by show (g.seen.set _ _).length = n; rw [List.length_set, I.sl], I.ol, fun x hx => ?_, ?_, ?_, z_enter I hs, J, pr_enter I v⟩
  · rcases List.mem_append.1 hx with q | q
    · exact I.hn x q
    · rw [List.mem_singleton.1 q]; exact h
  · show g.order + 1 + zs (enterG g v).seen = n; omega
  · show g.R.length + (g.held ++ [v]).length ≤ g.order + 1; simp; omega
theorem FI.enter0 (I : FI E n g []) {v : Nat} (h : v < n) (h0 : ordOf g v = 0) : FI E n (enterG g v) [(v, 0)] := by
  have hs : v < g.seen.length := by rw [I.sl]; exact h
  refine I.mkEnter h h0 ?_
  rw [enter_st hs]
  exact inv_enter I.inv (td := []) h0 rfl (fun p hp => nomatch hp) (fun p hp => nomatch hp)
theorem FI.top {v nx : Nat} {rest : List (Nat × Nat)} (I : FI E n g ((v, nx) :: rest)) : v ∈ g.held ∧ 0 < ordOf g v ∧ ofOf g v < 0 ∧ v < n ∧ ∀ p ∈ (toSt g ((v, nx) :: rest)).g, Rch E p v ∧ ordOf g p ≤ ordOf g v := by
  have hv : v ∈ g.held := I.inv.gHeld v (.head _)
  have h1 := I.inv.hOrd v hv
  refine ⟨hv, h1.1, h1.2, I.hn v hv, fun p hp => ?_⟩
  have hle : ordOf g p ≤ ordOf g v := by
    have hs := I.inv.gSort
    have hp' : p ∈ v :: rest.map Prod.fst := hp
    rcases List.mem_cons.1 hp' with q | q
    · subst q; exact Nat.le_refl _
    · have hs' : List.Pairwise (fun p q => ordOf g q < ordOf g p) (v :: rest.map Prod.fst) := hs
      exact Nat.le_of_lt ((List.pairwise_cons.1 hs').1 p q)
  exact ⟨I.inv.reach p hp v hv hle, hle⟩
theorem tk_next {l : List Nat} {i t : Nat} (h : l[i]? = some t) : l.take (i + 1) = l.take i ++ [t] := by
  obtain ⟨hi, e⟩ := List.getElem?_eq_some_iff.1 h
  rw [List.take_succ_eq_append_getElem hi, e]
theorem FI.enter {v nx t : Nat} {rest : List (Nat × Nat)} (I : FI E n g ((v, nx) :: rest)) (ht : (E v)[nx]? = some t) (htn : t < n) (h0 : ordOf g t = 0) : FI E n (enterG g t) ((t, 0) :: (v, nx + 1) :: rest) := by
  have hs : t < g.seen.length := by rw [I.sl]; exact htn
  refine I.mkEnter htn h0 ?_
  rw [enter_st hs]
  refine inv_enter I.inv (td := (v, nx + 1) :: rest) h0 rfl (fun p hp => ((I.top).2.2.2.2 p hp).1.step (List.mem_of_getElem? ht)) (fun p hp u hu => ?_)
  rcases List.mem_cons.1 hp with q | q
  · subst q
    rw [tk_next ht] at hu
    rcases List.mem_append.1 hu with r | r
    · exact .inl (I.inv.edgeG (v, nx) (.head _) u r)
    · exact .inr (List.mem_singleton.1 r)
  · exact .inl (I.inv.edgeG p (.tail _ q) u hu)
theorem FI.todo {td td' : List (Nat × Nat)} (I : FI E n g td) (J : Inv E (toSt g td')) : FI E n g td' := ⟨I.sl, I.ol, I.hn, I.cnt, I.rh, I.z, J, I.pr⟩
theorem FI.passed {v nx t : Nat} {rest : List (Nat × Nat)} (I : FI E n g ((v, nx) :: rest)) (ht : (E v)[nx]? = some t) (hf : Tj.Fine (toSt g ((v, nx) :: rest)) v t) : FI E n g ((v, nx + 1) :: rest) := by
  refine I.todo ?_
  refine inv_todo I.inv (td := (v, nx + 1) :: rest) rfl (fun p hp u hu => ?_)
  rcases List.mem_cons.1 hp with q | q
  · subst q
    rw [tk_next ht] at hu
    rcases List.mem_append.1 hu with r | r
    · exact I.inv.edgeG (v, nx) (.head _) u r
    · rw [List.mem_singleton.1 r]; exact hf
  · exact I.inv.edgeG p (.tail _ q) u hu
theorem FI.pass {v nx t : Nat} {rest : List (Nat × Nat)} (I : FI E n g ((v, nx) :: rest)) (ht : (E v)[nx]? = some t) (h1 : 0 < ordOf g t) (h2 : 0 ≤ ofOf g t) : FI E n g ((v, nx + 1) :: rest) :=
  I.passed ht ⟨h1, fun q => absurd I.top.2.2.1 (Int.not_lt.2 q), fun _ => .inl h2⟩
theorem FI.lowered {td : List (Nat × Nat)} (I : FI E n g td) {x b : Nat} (hx : x ∈ (toSt g td).g) (hw : ∃ w ∈ g.held, ordOf g w = b ∧ Rch E x w) : FI E n (lowerG g x b) td := by
  have hxh : x ∈ g.held := I.inv.gHeld x hx
  have hs : x < g.seen.length := by rw [I.sl]; exact I.hn x hxh
  have he := lower_st (g := g) (v := x) (b := b) (td := td) hs
  have hsn : (lowerG g x b).seen.length = n := by unfold lowerG; rw [seen_at hs]; show (g.seen.set _ _).length = n; rw [List.length_set, I.sl]
  have ho : (lowerG g x b).of = g.of := by unfold lowerG; rw [seen_at hs]
  have hR : (lowerG g x b).R = g.R := by unfold lowerG; rw [seen_at hs]
  have hh : (lowerG g x b).held = g.held := by unfold lowerG; rw [seen_at hs]
  have hr : (lowerG g x b).order = g.order := by unfold lowerG; rw [seen_at hs]
  have hl : lowOf (lowerG g x b) = Tj.upd (lowOf g) x (min (lowOf g x) b) := congrArg Tj.St.low he
  have hpos := (I.inv.hOrd x hxh).1
  refine ⟨hsn, by rw [ho]; exact I.ol, by rw [hh]; exact I.hn, by rw [hr, zs_lower hs]; exact I.cnt, by rw [hR, hh, hr]; exact I.rh, fun u q => ?_, ?_, fun k y hy => ?_⟩
  · rw [ord_lower hs] at q
    rw [hl]; unfold Tj.upd
    split
    · rename_i e; subst e; have := I.z u q; omega
    · exact I.z u q
  · rw [he]; exact inv_lower I.inv hx hw
  · rw [hR] at hy
    have hof : ∀ u, ofOf (lowerG g x b) u = ofOf g u := fun u => by unfold ofOf; rw [ho]
    simp only [hof]
    exact I.pr k y hy
theorem FI.low {v nx t : Nat} {rest : List (Nat × Nat)} (I : FI E n g ((v, nx) :: rest)) (ht : (E v)[nx]? = some t) (h1 : 0 < ordOf g t) (h2 : ofOf g t < 0) : FI E n (lowerG g v (ordOf g t)) ((v, nx + 1) :: rest) := by
  have hs : v < g.seen.length := by rw [I.sl]; exact I.top.2.2.2.1
  have hth : t ∈ g.held := I.inv.opn t h1 h2
  have J := I.lowered (x := v) (b := ordOf g t) (.head _) ⟨t, hth, rfl, .one (List.mem_of_getElem? ht)⟩
  refine J.passed ht ⟨?_, fun q => absurd J.top.2.2.1 (Int.not_lt.2 q), fun _ => .inr ?_⟩
  · show 0 < ordOf (lowerG g v (ordOf g t)) t; rw [ord_lower hs]; exact h1
  · show lowOf (lowerG g v (ordOf g t)) v ≤ ordOf (lowerG g v (ordOf g t)) t
    have hl : lowOf (lowerG g v (ordOf g t)) = Tj.upd (lowOf g) v (min (lowOf g v) (ordOf g t)) := congrArg Tj.St.low (lower_st (td := []) hs)
    rw [ord_lower hs, hl, Tj.upd_same]
    exact Nat.min_le_right _ _
theorem FI.nodup {td : List (Nat × Nat)} (I : FI E n g td) : g.held.Nodup := I.inv.hSort.imp fun {a b} h e => by subst e; exact absurd h (Nat.lt_irrefl _)
theorem FI.left {v nx : Nat} {rest : List (Nat × Nat)} {h1 h2 : List Nat} {A : Option Addr} {c : Nat} {m : List Int} (I : FI E n g ((v, nx) :: rest)) (hn : (E v).length ≤ nx) (hl : lowOf g v = ordOf g v) (hh : g.held = h1 ++ v :: h2) (hm : m.Perm (cs (v :: h2))) :
    FI E n { g with held := h1, of := setAll g.R.length g.of m, R := g.R ++ [⟨A, c, m⟩] } rest ∧ 0 ≤ ofOf { g with held := h1, of := setAll g.R.length g.of m, R := g.R ++ [⟨A, c, m⟩] } v := by
  have hlt : ∀ x ∈ v :: h2, x < g.of.length := fun x hx => by rw [I.ol]; exact I.hn x (by rw [hh]; exact List.mem_append_right _ hx)
  have hst := leave_st (g := g) (v := v) (td := rest) (h1 := h1) (h2 := h2) (A := A) (c := c) hm hlt
  have J := inv_leave I.inv (v := v) (n := nx) (rest := rest) rfl hn hl hh
  have hof : ∀ u, ofOf { g with held := h1, of := setAll g.R.length g.of m, R := g.R ++ [⟨A, c, m⟩] } u = if u ∈ v :: h2 then (g.R.length : Int) else ofOf g u := fun u => congrFun (congrArg Tj.St.of hst) u
  have hrh := I.rh
  have hhl : g.held.length = h1.length + (h2.length + 1) := by rw [hh]; simp
  refine ⟨⟨I.sl, by show (setAll _ _ _).length = n; rw [setAll_len, I.ol], fun x hx => I.hn x (by rw [hh]; exact List.mem_append_left _ hx), I.cnt, ?_, I.z, ?_, fun k y hy => ?_⟩, ?_⟩
  · show (g.R ++ [_]).length + h1.length ≤ g.order; simp; omega
  · rw [hst]; exact J
  · have hy' : (g.R ++ [(⟨A, c, m⟩ : Rw Int)])[k]? = some y := hy
    simp only [hof]
    rcases Nat.lt_trichotomy k g.R.length with q | q | q
    · rw [List.getElem?_append_left q] at hy'
      obtain ⟨p1, p2, p3, p4⟩ := I.pr k y hy'
      refine ⟨p1, p2, fun u => ?_, p4⟩
      rw [p3 u]
      by_cases hu : u ∈ v :: h2
      · rw [if_pos hu]
        have := (I.inv.hOrd u (by show u ∈ g.held; rw [hh]; exact List.mem_append_right _ hu)).2
        have this' : ofOf g u < 0 := this
        constructor <;> intro e <;> omega
      · rw [if_neg hu]
    · subst q
      rw [List.getElem?_append_right (Nat.le_refl _), Nat.sub_self] at hy'
      cases hy'
      refine ⟨fun e => ?_, ?_, fun u => ?_, fun y hy => ?_⟩
      · have e' : m = [] := e
        have := hm.length_eq; rw [e', cs_len] at this; simp at this
      · refine hm.symm.nodup ?_
        have hnd := I.nodup
        rw [hh] at hnd
        have h3 := (List.nodup_append.1 hnd).2.1
        unfold cs
        exact List.Pairwise.map _ (fun a b (hab : a ≠ b) e => hab (by omega)) h3
      · rw [hm.mem_iff, mem_cs]
        by_cases hu : u ∈ v :: h2
        · rw [if_pos hu]; exact ⟨fun _ => rfl, fun _ => ⟨u, hu, rfl⟩⟩
        · rw [if_neg hu]
          constructor
          · rintro ⟨w, hw, e⟩; exact absurd (by rw [show u = w by omega]; exact hw) hu
          · intro e
            have := I.inv.ofLt u (by show 0 ≤ ofOf g u; omega)
            have this' : ofOf g u < (g.R.length : Int) := this
            omega
      · obtain ⟨w, hw, rfl⟩ := mem_cs.1 (hm.mem_iff.1 hy)
        exact ⟨w, rfl, by rw [← I.ol]; exact hlt w hw⟩
    · rw [List.getElem?_eq_none (by simp; omega)] at hy'; cases hy'
  · rw [hof, if_pos (.head _)]; omega
theorem FI.leave {v nx : Nat} {rest : List (Nat × Nat)} {g' : GS} (I : FI E n g ((v, nx) :: rest)) (hn : (E v).length ≤ nx) (h : LeaveR g v g') :
    (FI E n g' rest ∧ 0 ≤ ofOf g' v) ∨ (g' = g ∧ ofOf g v < 0 ∧ ∃ x m r, rest = (x, m) :: r ∧ x < n ∧ FI E n (lowerG g x (lowOf g v)) rest) := by
  have hs : v < g.seen.length := by rw [I.sl]; exact I.top.2.2.2.1
  cases h with
  | no h1 h2 =>
    rw [seen_at hs] at h1; cases h1
    right
    obtain ⟨q1, x, m, r, hr⟩ := rest_ne I.inv (v := v) (n := nx) (rest := rest) rfl h2
    subst hr
    have hxg : x ∈ (toSt g ((v, nx) :: (x, m) :: r)).g := .tail _ (.head _)
    have hxh := I.inv.gHeld x hxg
    obtain ⟨_, w, hw, e1, e2⟩ := I.inv.lowW v I.top.1
    have J := I.lowered (x := x) (b := lowOf g v) hxg ⟨w, hw, e1, (I.top.2.2.2.2 x hxg).1.trans e2⟩
    have hxs : x < g.seen.length := by rw [I.sl]; exact I.hn x hxh
    have hl : lowOf (lowerG g x (lowOf g v)) = Tj.upd (lowOf g) x (min (lowOf g x) (lowOf g v)) := congrArg Tj.St.low (lower_st (td := []) hxs)
    have hvx : v ≠ x := by
      have hsrt : List.Pairwise (fun p q => ordOf g q < ordOf g p) (v :: x :: r.map Prod.fst) := I.inv.gSort
      have := (List.pairwise_cons.1 hsrt).1 x (.head _)
      intro e; subst e; omega
    refine ⟨rfl, I.top.2.2.1, x, m, r, rfl, I.hn x hxh, J.todo ?_⟩
    refine inv_pop J.inv (v := v) (n := nx) (x := x) (m := m) (rest := r) rfl hn ?_ ?_
    · show lowOf (lowerG g x (lowOf g v)) v < ordOf (lowerG g x (lowOf g v)) v
      rw [hl, ord_lower hxs, Tj.upd_ne _ _ hvx]; exact q1
    · show lowOf (lowerG g x (lowOf g v)) x ≤ lowOf (lowerG g x (lowOf g v)) v
      rw [hl, Tj.upd_ne _ _ hvx, Tj.upd_same]; exact Nat.min_le_right _ _
  | yes h1 h2 h3 h4 =>
    rw [seen_at hs] at h1; cases h1
    exact .inl (I.left hn h2 h3 h4)
end
def Eo (out : List (List Nat)) (v : Nat) : List Nat := (out[v]?).getD []
theorem Eo_at {out : List (List Nat)} {v : Nat} (h : v < out.length) : (out.map cs)[v]? = some (cs (Eo out v)) := by
  unfold Eo; rw [List.getElem?_map, List.getElem?_eq_getElem h]; rfl
theorem Eo_mem {out : List (List Nat)} {v : Nat} (h : v < out.length) : Eo out v ∈ out := by
  unfold Eo; rw [List.getElem?_eq_getElem h]; exact List.getElem_mem _
theorem of_at {g : GS} {v : Nat} (h : v < g.of.length) : g.of[v]? = some (ofOf g v) := by unfold ofOf; rw [List.getElem?_eq_getElem h]; rfl
theorem snoc_of {α : Type} (l : List α) (h : 0 < l.length) : ∃ pre x, l = pre ++ [x] := ⟨l.dropLast, l.getLast (List.length_pos_iff.1 h), (List.dropLast_concat_getLast (List.length_pos_iff.1 h)).symm⟩
theorem nodup_lenN : ∀ {a b : List Nat}, a.Nodup → (∀ x ∈ a, x ∈ b) → a.length ≤ b.length
  | [], b, _, _ => Nat.zero_le _
  | x :: a, b, hn, hs => by
    have hx := hs x (.head _)
    have h1 := nodup_lenN (a := a) (b := b.erase x) (List.nodup_cons.1 hn).2 (fun y hy => (List.mem_erase_of_ne (show y ≠ x from fun e => (List.nodup_cons.1 hn).1 (by subst e; exact hy))).2 (hs y (.tail _ hy)))
    have h2 := List.length_erase_of_mem hx
    have := List.length_pos_of_mem hx
    simp only [List.length_cons]; omega
theorem FI.td_len {E : Nat → List Nat} {n : Nat} {g : GS} {td : List (Nat × Nat)} (I : FI E n g td) : td.length ≤ n ∧ g.order ≤ n ∧ g.held.length ≤ n ∧ g.R.length ≤ n := by
  have h1 : (td.map Prod.fst).Nodup := I.inv.gSort.imp fun {a b} h e => by subst e; exact absurd h (Nat.lt_irrefl _)
  have h3 := nodup_lenN h1 I.inv.gHeld
  have h4 : (toSt g td).held = g.held := rfl
  have h5 := I.rh
  have h6 := I.cnt
  rw [h4, List.length_map] at h3
  omega
theorem FI.leave2 {E : Nat → List Nat} {n : Nat} {g g' : GS} {v nx : Nat} {pre : List (Nat × Nat)} (I : FI E n g ((v, nx) :: pre.reverse)) (hn : (E v).length ≤ nx) (h : LeaveR g v g') :
    (FI E n g' pre.reverse ∧ 0 ≤ ofOf g' v) ∨ (ofOf g' v < 0 ∧ g' = g ∧ ∃ pre' x m, pre = pre' ++ [(x, m)] ∧ x < n ∧ FI E n (lowerG g' x (lowOf g' v)) pre.reverse) := by
  rcases I.leave hn h with h1 | ⟨rfl, h2, x, m, r, h3, h4, h5⟩
  · exact .inl h1
  · refine .inr ⟨h2, rfl, r.reverse, x, m, ?_, h4, h5⟩
    rw [← List.reverse_reverse pre, h3]; simp
theorem zs_leave {g g' : GS} {v : Nat} (h : LeaveR g v g') : zs g'.seen = zs g.seen ∧ g'.seen.length = g.seen.length ∧ g'.of.length = g.of.length := by
  cases h with
  | no _ _ => exact ⟨rfl, rfl, rfl⟩
  | yes _ _ _ _ => exact ⟨rfl, rfl, setAll_len _ _ _⟩
end Go.Proofs.YtdconhalfanclaaGreat.SL
namespace Go.Proofs.YtdconhalfanclaaGreat.SL
open Go
set_option maxHeartbeats 8000000 in
theorem fFrom (bF bS bo outc n : Nat) (out : List (List Nat)) (hol : out.length = n) (hot : ∀ l ∈ out, ∀ t ∈ l, t < n) (hln : ∀ l ∈ out, l.length ≤ 100000) (hn : n ≤ 100000) (g : GS) (I : FI (Eo out) n g []) (root : Nat) (hr : root < n) (h0 : ordOf g root = 0) :
    Spec Tryz.prog 131 #[.pointer (some ⟨bF, 0, none⟩), .int .i64 (root : Int)] [sl (tSl (tInt .i64)) (some ⟨bo, 0, none⟩) outc (out.map cs)] [fin 202 204 3 41 bF bS (some ⟨bo, 0, none⟩) outc n (g)] (fun v' Ps' Os' => ∃ g', FI (Eo out) n g' [] ∧ mono g g' ∧ 0 < ordOf g' root ∧ v' = .tuple #[] ∧ Ps' = [] ∧ Os' = [fin 202 204 3 41 bF bS (some ⟨bo, 0, none⟩) outc n (g')]) := by
 refine zSp _ Tryz.func131 Tryz.ntmps131 (fun _ _ _ => ?_)
 refine go_scope rfl (fun _ _ _ h => h) ?_
 refine zR 1 ?_
 have hsl0 := I.sl
 have hol0 := I.ol
 have htl0 := I.td_len
 refine zC3 3 (fEnter bF bS (some ⟨bo, 0, none⟩) outc n g hsl0 hol0 hn root hr (by omega) (by omega)) ?_
 refine zV 0 ?_
 intro bN
 refine go_lit_ol (b := bN) tSn [(root, 0)] zM (fun hp _ => ⟨_, _, rfl, tSn_mk hp (root, 0), rfl⟩) (by simp) ?_
 refine zR 5 ?_
 refine go_loop' (X := List (Nat × Nat) × GS × Option Addr × Nat) (fun x => [(4, .slice x.2.2.1 x.1.length x.2.2.2)]) [(0, _)] (fun x => [fin 202 204 3 41 bF bS (some ⟨bo, 0, none⟩) outc n (x.2.1), ol tSn 229 x.2.2.1 x.2.2.2 (x.1)]) (fun x => FI (Eo out) n x.2.1 x.1.reverse ∧ mono g x.2.1 ∧ 0 < ordOf x.2.1 root ∧ ∀ p ∈ x.1, p.2 ≤ (Eo out p.1).length) (fun x => 2 * zs x.2.1.seen + x.1.length) (([(root, 0)], enterG g root, _, _)) zA zM ⟨I.enter0 hr h0, mono_enter (by omega), by show 0 < ordOf (enterG g root) root; rw [enter_ord (by omega), Tj.upd_same]; omega, fun p hp => by rw [List.mem_singleton.1 hp]; exact Nat.zero_le _⟩ ?_
 intro ⟨tds, g1, A1, c1⟩ ⟨I1, hm1, hr1, hp1⟩
 simp only at I1 hm1 hr1 hp1 ⊢
 refine zD' 7 ?_ ?_
 ·intro g0
  have htn0 : tds = [] := List.eq_nil_of_length_eq_zero (by omega)
  subst htn0
  refine zT 1 rfl ⟨g1, I1, hm1, hr1, rfl, rfl, rfl⟩
 intro g0
 obtain ⟨pre, ⟨v, nx⟩, rfl⟩ := snoc_of tds (by omega)
 have hpl : (pre ++ [(v, nx)]).length = pre.length + 1 := by simp
 have I1' : FI (Eo out) n g1 ((v, nx) :: pre.reverse) := by simpa using I1
 have hv := I1'.top.2.2.2.1
 have htl1 := I1'.td_len
 refine go_ol_addr (xs := pre ++ [(v, nx)]) zM (by omega) (fun bT hT => ?_); subst hT
 refine go_re 4 (.slice (some ⟨bT, 0, none⟩) (pre.length + 1) c1) (by rw [← hpl]; rfl) ?_
 have hcv := cs_len (Eo out v)
 have hlv := hln _ (Eo_mem (show v < out.length by omega))
 have hpre : pre.length ≤ 100000 := by simp at htl1; omega
 refine zR 8 ?_
 refine go_i64n 18 pre.length rfl ?_
 refine zI 0 ?_
 refine go_re 19 (.pointer (some ⟨bT, 0 + pre.length * 2, none⟩)) rfl ?_
 refine zR 4 ?_
 refine zO (X := Nat × GS) (fun _ => []) [0, 4, 5] (fun x => [fin 202 204 3 41 bF bS (some ⟨bo, 0, none⟩) outc n (x.2), ol tSn 229 (some ⟨bT, 0, none⟩) c1 (pre ++ [(v, x.1)])]) (fun x => FI (Eo out) n x.2 ((v, x.1) :: pre.reverse) ∧ x.1 ≤ (Eo out v).length ∧ zs x.2.seen = zs g1.seen ∧ mono g x.2 ∧ 0 < ordOf x.2 root) (fun x => (Eo out v).length - x.1) (nx, g1) ⟨I1', hp1 (v, nx) (List.mem_append_right _ (.head _)), rfl, hm1, hr1⟩ ?_
 intro ⟨i, g2⟩ ⟨I2, hi, hz2, hm2, hr2⟩
 simp only at I2 hi hz2 hm2 hr2 ⊢
 have hsl2 := I2.sl
 have hol2 := I2.ol
 have htl2 := I2.td_len
 refine zR 2 ?_
 refine go_fin_ (bF := bF) zM (fun hA hc ofA ofc pA pc => ?_)
 refine go_elem_row (T := tInt .i64) (xss := out.map cs) zM v (Eo_at (show v < out.length by omega)) (fun b1 o1 A1 c5 hA1 => ?_); cases hA1
 refine zY 0 [1, 4, 7, 13, 16, 19, 25, 28, 31, 11, 23, 35, 37, 41, 43, 46] ?_
 refine zR 9 ?_
 refine go_val2a rfl (load_val (cs := [.int .i64 (i : Int)]) Tk rfl rfl rfl (at_ol fcSn tSn_fc 1 (xs := pre ++ [(v, i)]) (j := pre.length) (x := (v, i)) zM (by simp) rfl) rfl) rfl ?_
 refine zK 0 ?_
 refine go_val2a rfl (load_val (cs := [.int .i64 (v : Int)]) Tk rfl rfl rfl (at_ol fcSn tSn_fc 0 (xs := pre ++ [(v, i)]) (j := pre.length) (x := (v, i)) zM (by simp) rfl) rfl) rfl ?_
 refine zI 0 ?_
 refine zK 0 ?_
 refine zR 3 ?_
 refine go_fin_mk (outA := (some ⟨bo, 0, none⟩)) (outc := outc) (n := n) (bF := bF) (bS := bS) ⟨hA, hc, ofA, ofc, pA, pc⟩ (g2) zM zM ?_
 refine zE 0 [0, 4, 5, 35] ?_
 refine zD' 0 ?_ ?_
 ·intro g3
  have hge : (Eo out v).length ≤ i := by omega
  refine zR 6 ?_
  refine go_val0 rfl (load_val (cs := [.int .i64 (v : Int)]) Tk rfl rfl rfl (at_ol fcSn tSn_fc 0 (xs := pre ++ [(v, i)]) (j := pre.length) (x := (v, i)) zM (by simp) rfl) rfl) rfl ?_
  refine zC 6 (fLeave bF bS (some ⟨bo, 0, none⟩) outc n g2 hsl2 hol2 hn v hv I2.top.1 I2.hn (by omega) (by omega)) ?_
  rintro _ _ _ ⟨g3, hL, rfl, rfl, rfl⟩
  have hcase := I2.leave2 hge hL
  have hzL := zs_leave hL
  have hm3 := hm2.trans (mono_leave hL)
  have hr3 := mono_leave hL root hr2
  have hsl3 : g3.seen.length = n := by omega
  have hol3 : g3.of.length = n := by omega
  refine zR 2 ?_
  refine go_len_ol (xs := pre ++ [(v, i)]) zM (fun l8 m8 => ?_)
  have l8' : pre.length + 1 ≤ c1 := by simpa using l8
  refine go_ol_take (xs := pre ++ [(v, i)]) pre.length (by simp) zM ?_
  refine go_same (B := ol tSn 229 (some ⟨bT, 0, none⟩) c1 (pre)) .here (by rw [List.take_left]) ?_
  refine zR 5 ?_
  refine go_i64n 108 pre.length rfl ?_
  refine go_val0 rfl (slice_val' Tk rfl rfl rfl rfl 0 pre.length c1 (.slice (some ⟨bT, 0, none⟩) pre.length c1) (by first | rfl | exact ⟨_, rfl⟩ | exact ⟨rfl, rfl⟩) (by first | rfl | exact ⟨_, rfl⟩ | exact ⟨rfl, rfl⟩) (by first | rfl | exact ⟨_, rfl⟩ | exact ⟨rfl, rfl⟩) (by omega) (by omega) (by omega) (by rw [sub0]; rfl)) rfl ?_
  refine zE 2 [0, 4, 7] ?_
  refine zR 1 ?_
  refine go_len_ol (xs := pre) zM (fun l9 m9 => ?_)
  refine go_fin_ (bF := bF) zM (fun hA hc ofA ofc pA pc => ?_)
  refine go_ol_addr (xs := g3.of) zM (by omega) (fun bq hS => ?_); subst hS
  refine zG' 5 113 ?_ ?_
  ·intro g8
   (try simp only [dcs, ne_eq] at g8)
   have hp0 : pre = [] := List.eq_nil_of_length_eq_zero (by omega)
   have hI3 := (hcase.resolve_right (fun ⟨_, _, pre', x, m, hpx, _⟩ => by rw [hp0] at hpx; simp at hpx)).1
   refine zR 10 ?_
   refine go_fin_mk (outA := (some ⟨bo, 0, none⟩)) (outc := outc) (n := n) (bF := bF) (bS := bS) ⟨hA, hc, (some ⟨bq, 0, none⟩), ofc, pA, pc⟩ (g3) zM zM ?_
   refine zDf 0 ?_
   refine zR 2 ?_
   refine go_back (pre, g3, _, _) zA zM zM (⟨hI3, hm3, hr3, fun p hp => hp1 p (List.mem_append_left _ hp)⟩) (by
     show 2 * zs g3.seen + pre.length < 2 * zs g1.seen + (pre ++ [(v, nx)]).length
     simp only [List.length_append, List.length_singleton]; omega)
  intro g8
  (try simp only [dcs, ne_eq] at g8)
  refine zL 3 ?_
  refine zI 1 ?_
  refine go_val0 rfl (load_val (cs := [.int .i64 (ofOf g3 v)]) Tk rfl rfl rfl (at_ol (fun y : Int => [.int .i64 y]) fc_int 0 (xs := g3.of) (j := v) zM (of_at (show v < g3.of.length by omega)) rfl) rfl) rfl ?_
  refine zR 3 ?_
  refine go_fin_mk (outA := (some ⟨bo, 0, none⟩)) (outc := outc) (n := n) (bF := bF) (bS := bS) ⟨hA, hc, (some ⟨bq, 0, none⟩), ofc, pA, pc⟩ (g3) zM zM ?_
  refine zB' 0 ?_ ?_
  ·intro g9
   (try simp only [dcs, ne_eq] at g9)
   have hI3 := (hcase.resolve_right (fun q => by omega)).1
   refine zR 2 ?_
   refine go_back (pre, g3, _, _) zA zM zM (⟨hI3, hm3, hr3, fun p hp => hp1 p (List.mem_append_left _ hp)⟩) (by
     show 2 * zs g3.seen + pre.length < 2 * zs g1.seen + (pre ++ [(v, nx)]).length
     simp only [List.length_append, List.length_singleton]; omega)
  intro g9
  (try simp only [dcs, ne_eq] at g9)
  obtain ⟨_, _, pre', x, m, hpx, hxn, hI3⟩ := hcase.resolve_left (fun q => by omega)
  subst hpx
  have hpl' : (pre' ++ [(x, m)]).length = pre'.length + 1 := by simp
  refine go_fin_ (bF := bF) zM (fun hA hc ofA ofc pA pc => ?_)
  skip
  refine zY 0 [1, 4, 7, 10, 13, 16, 19, 25, 28, 31, 37, 23, 35, 40, 43, 47, 48] ?_
  refine zR 5 ?_
  refine go_i64n 127 pre'.length rfl ?_
  refine zI 0 ?_
  refine zR 5 ?_
  refine go_val2a rfl (load_val (cs := [.int .i64 (x : Int)]) Tk rfl rfl rfl (at_ol fcSn tSn_fc 0 (xs := pre' ++ [(x, m)]) (j := pre'.length) (x := (x, m)) zM (by simp) rfl) rfl) rfl ?_
  refine zK 0 ?_
  refine zI 0 ?_
  refine zR 1 ?_
  refine go_val2a rfl (load_val (cs := [.int .i64 (lowOf g3 v : Int)]) Tk rfl rfl rfl (at_ol fcSn tSn_fc 1 (xs := g3.seen) (j := v) zM (seen_at (show v < g3.seen.length by omega)) rfl) rfl) rfl ?_
  refine go_fin_mk (outA := (some ⟨bo, 0, none⟩)) (outc := outc) (n := n) (bF := bF) (bS := bS) ⟨hA, hc, ofA, ofc, pA, pc⟩ (g3) zM zM ?_
  refine zC3 0 (fLower bF bS (some ⟨bo, 0, none⟩) outc n g3 hsl3 hol3 hn x (lowOf g3 v) hxn) ?_
  refine zE 1 [0, 4, 114, 115, 116, 117, 118, 119, 120, 121] ?_
  refine zR 1 ?_
  refine go_back (pre' ++ [(x, m)], lowerG g3 x (lowOf g3 v), _, _) zA zM zM (⟨hI3, hm3.trans (mono_lower (by omega)), mono_lower (by omega) root hr3, fun p hp => hp1 p (List.mem_append_left _ hp)⟩) (by
    have hzl := zs_lower (g := g3) (v := x) (b := lowOf g3 v) (by omega)
    show 2 * zs (lowerG g3 x (lowOf g3 v)).seen + (pre' ++ [(x, m)]).length < 2 * zs g1.seen + (pre' ++ [(x, m)] ++ [(v, nx)]).length
    simp only [List.length_append, List.length_singleton]; omega)
 intro g3
 have hlt : i < (Eo out v).length := by omega
 obtain ⟨t, ht⟩ : ∃ t, (Eo out v)[i]? = some t := ⟨_, List.getElem?_eq_getElem hlt⟩
 have htn : t < n := hot _ (Eo_mem (show v < out.length by omega)) t (List.mem_of_getElem? ht)
 refine zR 3 ?_
 refine go_fin_ (bF := bF) zM (fun hA hc ofA ofc pA pc => ?_)
 refine go_elem_row (T := tInt .i64) (xss := out.map cs) zM v (Eo_at (show v < out.length by omega)) (fun b1 o1 A1 c5 hA1 => ?_); cases hA1
 refine go_elem_int (xs := cs (Eo out v)) zM i (cs_get ht) (fun b2 o2 hA2 => ?_); cases hA2
 refine zY 0 [1, 4, 7, 13, 16, 19, 31, 34, 37, 11, 23, 25, 29, 41, 43, 47, 49] ?_
 refine zK 9 ?_
 refine go_val2a rfl (load_val (cs := [.int .i64 (v : Int)]) Tk rfl rfl rfl (at_ol fcSn tSn_fc 0 (xs := pre ++ [(v, i)]) (j := pre.length) (x := (v, i)) zM (by simp) rfl) rfl) rfl ?_
 refine zI 0 ?_
 refine zK 0 ?_
 refine go_val2a rfl (load_val (cs := [.int .i64 (i : Int)]) Tk rfl rfl rfl (at_ol fcSn tSn_fc 1 (xs := pre ++ [(v, i)]) (j := pre.length) (x := (v, i)) zM (by simp) rfl) rfl) rfl ?_
 refine zI 0 ?_
 refine zK 0 ?_
 refine zR 2 ?_
 refine go_fin_mk (outA := (some ⟨bo, 0, none⟩)) (outc := outc) (n := n) (bF := bF) (bS := bS) ⟨hA, hc, ofA, ofc, pA, pc⟩ (g2) zM zM ?_
 refine zE 0 [0, 4, 5, 6] ?_
 refine zR 5 ?_
 refine go_val0 rfl (load_val (cs := [.int .i64 (i : Int)]) Tk rfl rfl rfl (at_ol fcSn tSn_fc 1 (xs := pre ++ [(v, i)]) (j := pre.length) (x := (v, i)) zM (by simp) rfl) rfl) rfl ?_
 refine zR 1 ?_
 refine go_i64n 56 (i + 1) rfl ?_
 refine zR 2 ?_
 refine go_store_fd (T := tSn) (xs := pre ++ [(v, i)]) (j := pre.length) (x0 := (v, i)) Tk 1 (v, i + 1) rfl rfl rfl rfl rfl rfl zM (by simp) rfl rfl (show 2 ≤ 2 from Nat.le_refl 2) Sn_fd1 zF ?_
 refine go_same (B := ol tSn 229 (some ⟨bT, 0, none⟩) c1 (pre ++ [(v, i + 1)])) .here (by rw [show (pre ++ [(v, i)]).set pre.length (v, i + 1) = pre ++ [(v, i + 1)] by simp]) ?_
 refine zR 3 ?_
 refine go_fin_ (bF := bF) zM (fun hA hc ofA ofc pA pc => ?_)
 skip
 refine zL 4 ?_
 refine zI 1 ?_
 refine go_val0 rfl (load_val (cs := fcSn (ordOf g2 t, lowOf g2 t)) Tk rfl rfl rfl (at_ol fcSn tSn_fc 0 (xs := g2.seen) (j := t) zM (seen_at (show t < g2.seen.length by omega)) rfl) rfl) rfl ?_
 refine zq 0 ?_
 refine go_val0 rfl (seq_val Tk rfl rfl rfl rfl (by rfl) rfl (by kernel_rfl) (by kernel_rfl)) rfl ?_
 refine zR 2 ?_
 refine go_fin_mk (outA := (some ⟨bo, 0, none⟩)) (outc := outc) (n := n) (bF := bF) (bS := bS) ⟨hA, hc, ofA, ofc, pA, pc⟩ (g2) zM zM ?_
 refine zE 0 [0, 4, 5, 6, 59] ?_
 refine zB 0 ?_ ?_
 ·intro g6
  have h0' : ordOf g2 t = 0 := by simp only [Bool.and_eq_true, decide_eq_true_eq] at g6; omega
  refine zR 3 ?_
  refine go_re 69 (.slice (some ⟨bT, 0, none⟩) (pre ++ [(v, i + 1)]).length c1) (by rw [show (pre ++ [(v, i + 1)]).length = pre.length + 1 by simp]; rfl) ?_
  refine zC3 2 (fEnter bF bS (some ⟨bo, 0, none⟩) outc n g2 hsl2 hol2 hn t htn (by omega) (by omega)) ?_
  refine zV 0 ?_
  intro b1
  refine go_append1 (T := tSn) (xs := pre ++ [(v, i + 1)]) Tk ((t, 0)) rfl rfl rfl rfl rfl rfl rfl rfl rfl zM zM rfl ent_Sn (by simp; omega) zH ?_
  intro A3 c3
  refine zR 3 ?_
  refine zz (pre ++ [(v, i + 1)] ++ [(t, 0)], enterG g2 t, A3, c3) (⟨by simpa using I2.enter ht htn h0', hm2.trans (mono_enter (by omega)), mono_enter (by omega) root hr2, fun p hp => by
    simp only [List.mem_append, List.mem_singleton] at hp
    rcases hp with (h | h) | h
    · exact hp1 p (List.mem_append_left _ h)
    · rw [h]; exact hlt
    · rw [h]; exact Nat.zero_le _⟩) (by
    have hze := zs_enter (g := g2) (v := t) (by omega) h0'
    show 2 * zs (enterG g2 t).seen + (pre ++ [(v, i + 1)] ++ [(t, 0)]).length < 2 * zs g1.seen + (pre ++ [(v, nx)]).length
    simp only [List.length_append, List.length_singleton]; omega)
 intro g6
 have h0' : 0 < ordOf g2 t := Nat.pos_of_ne_zero (fun q => by have := I2.z t q; rw [q, this] at g6; exact absurd g6 (by decide))
 refine zR 1 ?_
 refine go_fin_ (bF := bF) zM (fun hA hc ofA ofc pA pc => ?_)
 refine go_ol_addr (xs := g2.of) zM (by omega) (fun bq hS => ?_); subst hS
 refine zL 4 ?_
 refine zI 1 ?_
 refine go_val0 rfl (load_val (cs := [.int .i64 (ofOf g2 t)]) Tk rfl rfl rfl (at_ol (fun y : Int => [.int .i64 y]) fc_int 0 (xs := g2.of) (j := t) zM (of_at (show t < g2.of.length by omega)) rfl) rfl) rfl ?_
 refine zR 3 ?_
 refine go_fin_mk (outA := (some ⟨bo, 0, none⟩)) (outc := outc) (n := n) (bF := bF) (bS := bS) ⟨hA, hc, (some ⟨bq, 0, none⟩), ofc, pA, pc⟩ (g2) zM zM ?_
 refine zB' 0 ?_ ?_
 ·intro g7
  (try simp only [dcs, ne_eq] at g7)
  refine zR 3 ?_
  refine zz (i + 1, g2) (⟨I2.pass ht h0' (by omega), by show i + 1 ≤ _; omega, hz2, hm2, hr2⟩) (by show _ - (i + 1) < _ - i; omega)
 intro g7
 (try simp only [dcs, ne_eq] at g7)
 refine go_fin_ (bF := bF) zM (fun hA hc ofA ofc pA pc => ?_)
 skip
 refine zY 0 [1, 4, 7, 10, 16, 19, 22, 28, 14, 26, 31, 34, 38, 39] ?_
 refine zR 8 ?_
 refine go_val2a rfl (load_val (cs := [.int .i64 (v : Int)]) Tk rfl rfl rfl (at_ol fcSn tSn_fc 0 (xs := pre ++ [(v, i + 1)]) (j := pre.length) (x := (v, i + 1)) zM (by simp) rfl) rfl) rfl ?_
 refine zK 0 ?_
 refine zI 0 ?_
 refine zR 1 ?_
 refine go_val2a rfl (load_val (cs := [.int .i64 (ordOf g2 t : Int)]) Tk rfl rfl rfl (at_ol fcSn tSn_fc 0 (xs := g2.seen) (j := t) zM (seen_at (show t < g2.seen.length by omega)) rfl) rfl) rfl ?_
 refine go_fin_mk (outA := (some ⟨bo, 0, none⟩)) (outc := outc) (n := n) (bF := bF) (bS := bS) ⟨hA, hc, ofA, ofc, pA, pc⟩ (g2) zM zM ?_
 refine zC3 0 (fLower bF bS (some ⟨bo, 0, none⟩) outc n g2 hsl2 hol2 hn v (ordOf g2 t) hv) ?_
 refine zE 1 [0, 4, 5] ?_
 refine zR 2 ?_
 refine zz (i + 1, lowerG g2 v (ordOf g2 t)) (⟨I2.low ht h0' g7, by show i + 1 ≤ _; omega, by show zs (lowerG g2 v (ordOf g2 t)).seen = _; rw [zs_lower (by omega)]; exact hz2, hm2.trans (mono_lower (by omega)), mono_lower (by omega) root hr2⟩) (by show _ - (i + 1) < _ - i; omega)
end Go.Proofs.YtdconhalfanclaaGreat.SL
namespace Go.Proofs.YtdconhalfanclaaGreat.SL
def ints (xs : List Int) : List Value := xs.map (.int .i64)
theorem ints_len (xs : List Int) : (ints xs).length = xs.length := by simp [ints]
theorem ints_one (xs : List Int) : oneCells (ints xs) = true := oneCells_of fun v hv => by obtain ⟨x, _, rfl⟩ := List.mem_map.1 hv; rfl
def Win (e : Nat) (A : Option Addr) (c : Nat) (xs : List Int) (h : Heap) : Prop :=
  xs.length ≤ c ∧ c ≤ maxLen ∧ ((xs = [] ∧ c = 0) ∨ ∃ b oo cur, A = some ⟨b, oo, none⟩ ∧ h b = some (.cells cur e (0, 0)) ∧ cur.size = oo + c ∧ (cur.toList.drop oo).take xs.length = ints xs)
def olw (e : Nat) (A : Option Addr) (c : Nat) (xs : List Int) : OA := ⟨fun _ h => Win e A c xs h, fun _ h => h⟩
theorem win_of_ol {e : Nat} {A : Option Addr} {c : Nat} {xs : List Int} {hp h : Heap} (q : (ol (tInt .i64) e A c xs).p hp h) : (olw e A c xs).p hp h := by
  obtain ⟨cs, ⟨q1, q2, q3, q4⟩, r⟩ := q
  have hc : cs = ints xs := by
    have : ∀ {xs : List Int} {cs : List Value}, Reps (tInt .i64) hp xs cs → cs = ints xs := by
      intro xs
      induction xs with
      | nil => intro cs r; exact r
      | cons x xs ih => intro cs ⟨a, b, e, r1, r2⟩; have h1 : a = [.int .i64 x] := r1; rw [e, h1, ih r2]; rfl
    exact this r
  refine ⟨q2, q3, ?_⟩
  rcases q4 with ⟨a, b⟩ | ⟨g, cur, a, b, c', d⟩
  · exact .inl ⟨List.eq_nil_of_length_eq_zero a, b⟩
  · refine .inr ⟨g, 0, cur, a, b, by rw [c']; show c * 1 = 0 + c; omega, ?_⟩
    rw [List.drop_zero, ← hc, ← d]
    show _ = List.take (xs.length * 1) _
    rw [Nat.mul_one]
theorem win_sl {e : Nat} {A : Option Addr} {c : Nat} {xs : List Int} : ∀ (hp h1 H : Heap), hp.le H → h1.le H → (olw e A c xs).p hp h1 → (sl (tInt .i64) A c xs).p H := fun hp h1 H _ hl ⟨q1, q2, q3⟩ => by
  rcases q3 with ⟨a, b⟩ | ⟨b, oo, cur, rfl, hb, hs, ht⟩
  · subst a; exact ⟨q1, q2, fun _ => b, fun j x h => by simp at h⟩
  · refine ⟨q1, q2, fun h => (by cases h), fun j x hj => ⟨b, oo, [.int .i64 x], rfl, rfl, fun i v hv => ?_⟩⟩
    have hi : i = 0 := by have := (List.getElem?_eq_some_iff.1 hv).1; simp at this; exact this
    subst hi
    simp at hv; subst hv
    have hjl : j < xs.length := (List.getElem?_eq_some_iff.1 hj).1
    have h2 : (ints xs)[j]? = some (.int .i64 x) := by simp [ints, hj]
    rw [← ht, List.getElem?_take, if_pos hjl, List.getElem?_drop] at h2
    unfold cellH
    rw [hl _ _ hb]
    show cur[oo + (j * 1 + 0)]? = _
    rw [show oo + (j * 1 + 0) = oo + j by omega, ← Array.getElem?_toList]; exact h2
section
variable {C : Ctx} {k : List It} {E : Env} {Ps : List PA} {Os : List OA}
theorem go_ol_olw {e : Nat} {A : Option Addr} {c : Nat} {xs : List Int} {rr : List OA} (h : Rem (ol (tInt .i64) e A c xs) Os rr) (g : Go C k E Ps (olw e A c xs :: rr)) : Go C k E Ps Os := go_imp _ [_] h (fun _ _ q => sep_one (win_of_ol q)) g
theorem go_olw_nil (e : Nat) (A : Option Addr) (g : Go C k E Ps (olw e A 0 [] :: Os)) : Go C k E Ps Os :=
  fun a w hp ho hf hs hb => g a w hp ho hf ⟨hs.inp, hs.ino, hs.dj, hs.ps, Heap.nil, ho, Heap.nil_le _, Heap.le_refl _, Heap.nil_dj _, ⟨Nat.le_refl _, Nat.zero_le _, .inl ⟨rfl, rfl⟩⟩, hs.os⟩ hb
theorem go_len_olw {e : Nat} {A : Option Addr} {c : Nat} {xs : List Int} {rr : List OA} (h : Rem (olw e A c xs) Os rr) (g : xs.length ≤ c → c ≤ 9223372036854775807 → Go C k E Ps Os) : Go C k E Ps Os :=
  go_ofact _ h (φ := xs.length ≤ c ∧ c ≤ 9223372036854775807) (fun _ _ q => ⟨q.1, by have := q.2.1; simpa [maxLen] using this⟩) (fun q => g q.1 q.2)
theorem go_olw_open {e : Nat} {A : Option Addr} {c : Nat} {xs : List Int} {rr : List OA} (h : Rem (olw e A c xs) Os rr) (hpos : 0 < xs.length) (g : ∀ b oo cur, A = some ⟨b, oo, none⟩ → cur.length = oo + c → (cur.drop oo).take xs.length = ints xs → xs.length ≤ c → c ≤ maxLen → Go C k E Ps (pt b e cur :: rr)) : Go C k E Ps Os :=
  fun a w hp ho hf hs hb => by
  obtain ⟨g1, g2, la, lb, ldj, ⟨q1, q2, q3⟩, lsep⟩ := Sep.rem h hs.os
  rcases q3 with ⟨q, _⟩ | ⟨b, oo, cur, rfl, hbb, hsz, ht⟩
  · rw [q] at hpos; simp at hpos
  · exact g b oo cur.toList rfl (by simpa using hsz) ht q1 q2 a w hp ho hf ⟨hs.inp, hs.ino, hs.dj, hs.ps, g1, g2, la, lb, ldj, by show g1 b = _; rw [hbb], lsep⟩ hb
theorem go_olw_close {e b oo c : Nat} (xs : List Int) {cur : List Value} {rr : List OA} (h : Rem (pt b e cur) Os rr) (h1 : cur.length = oo + c) (h2 : (cur.drop oo).take xs.length = ints xs) (h3 : xs.length ≤ c) (h4 : c ≤ maxLen) (g : Go C k E Ps (olw e (some ⟨b, oo, none⟩) c xs :: rr)) : Go C k E Ps Os :=
  go_imp (pt b e cur) [olw e (some ⟨b, oo, none⟩) c xs] h (fun _ hh q => sep_one ⟨h3, h4, .inr ⟨b, oo, _, rfl, q, by simpa using h1, by simpa using h2⟩⟩) g
theorem go_olw_tail {e : Nat} {A : Option Addr} {c : Nat} {x : Int} {xs : List Int} {rr : List OA} (h : Rem (olw e A c (x :: xs)) Os rr) (g : Go C k E Ps (olw e (if c = 1 then A else A.map (·.add (1 * 1))) (c - 1) xs :: rr)) : Go C k E Ps Os :=
  go_imp (olw e A c (x :: xs)) [olw e (if c = 1 then A else A.map (·.add (1 * 1))) (c - 1) xs] h (fun hp hh q => sep_one (by
    obtain ⟨q1, q2, q3⟩ := q
    rcases q3 with ⟨q, _⟩ | ⟨b, oo, cur, rfl, hbb, hsz, ht⟩
    · cases q
    · refine ⟨by simp at q1; omega, Nat.le_trans (Nat.sub_le _ _) q2, ?_⟩
      have hc : 1 ≤ c := by simp at q1; omega
      by_cases h1 : c = 1
      · subst h1
        have : xs = [] := List.eq_nil_of_length_eq_zero (by simp only [List.length_cons] at q1; omega)
        exact .inl ⟨this, rfl⟩
      · rw [if_neg h1]
        refine .inr ⟨b, oo + 1, cur, by simp [run_addOff], hbb, by omega, ?_⟩
        have h2 := congrArg (List.drop 1) ht
        rw [List.drop_take, List.drop_drop] at h2
        simp only [List.length_cons, Nat.add_sub_cancel] at h2
        rw [h2]; rfl)) g
variable {o : Oper} {ops : Array Oper} {S : World → Prop} {r : Pl} {f : Bool}
theorem append1_run {P : Program} {tb : TB} (ht : TOk P tb) {w : World} {t ty e : TypeId} {s1 : Nat} {a1 : Bool} {z1 : Value} {y1 : Nat} {u : TypeDesc} {y2 : Nat} (hi : lookT tb t = some ⟨.slice e, s1, a1, z1, y1⟩) (he : lookT tb e = some ⟨u, 1, false, .int .i64 0, y2⟩) (hy : Nat.ble y2 100000 = true) {b oo n c bv cv : Nat} {cur : List Value} {q : Int}
    (hb : w.heap[b]? = some (.cells cur.toArray e (0, 0))) (hv : w.cell? ⟨bv, 0, none⟩ = some (.int .i64 q)) (hl : cur.length = oo + c) (hn : n ≤ c) (hc : c ≤ maxLen) (hbig : n < 1000000000) :
    (n + 1 ≤ c ∧ (Builtin.append_ #[t, t] ty #[.slice (some ⟨b, oo, none⟩) n c, .slice (some ⟨bv, 0, none⟩) 1 cv]).run P w = .ok (.slice (some ⟨b, oo, none⟩) (n + 1) c) { w with heap := w.heap.setIfInBounds b (.cells (putS (oo + n) [.int .i64 q] cur).toArray e (0, 0)) }) ∨
    ∃ (c' : Nat) (cur2 : List Value), n + 1 ≤ c' ∧ c' ≤ maxLen ∧ cur2.length = c' ∧ cur2.take (n + 1) = (cur.drop oo).take n ++ [.int .i64 q] ∧ (Builtin.append_ #[t, t] ty #[.slice (some ⟨b, oo, none⟩) n c, .slice (some ⟨bv, 0, none⟩) 1 cv]).run P w = .ok (.slice (some ⟨w.heap.size, 0, none⟩) (n + 1) c') (w.drew.alloc (.cells cur2.toArray e)) := by
  have hu := (ht _ _ hi).u
  obtain ⟨xi, p1, p2, p3, p4⟩ := (ht _ _ he).info
  have hby := Nat.le_of_ble_eq_true hy
  have hnv := run_firstCells_some (P := P) w 1 1 ⟨bv, 0, none⟩ 1 cv [.int .i64 q] rfl (fun j v hj => by
    have : j = 0 := by have := (List.getElem?_eq_some_iff.1 hj).1; simp at this; exact this
    subst this; simp at hj; subst hj; rw [run_addOff]; exact hv)
  have hnv' := run_firstCells_some (P := P) w.drew 1 1 ⟨bv, 0, none⟩ 1 cv [.int .i64 q] rfl (fun j v hj => by
    have : j = 0 := by have := (List.getElem?_eq_some_iff.1 hj).1; simp at this; exact this
    subst this; simp at hj; subst hj; rw [run_addOff]; exact hv)
  by_cases hroom : n + 1 ≤ c
  · left
    refine ⟨hroom, ?_⟩
    obtain ⟨c', hst, hc'⟩ := run_storeCells (P := P) (b := b) (ty := e) (o := oo + n) [.int .i64 q] 0 cur.toArray w hb (by simp; omega) rfl
    have hc2 : c' = (putS (oo + n) [.int .i64 q] cur).toArray := by apply Array.ext'; rw [hc']; simp [putS]
    subst hc2
    have hadd : (⟨b, oo, none⟩ : Addr).add (n * 1) = ⟨b, oo + n, none⟩ := by rw [run_addOff, Nat.mul_one]
    simp [Builtin.append_, run_underlying hu, sizeOf, typeInfo, p1, p3, Builtin.lenOf, hroom, hnv, Addr.add_lit, hst]
  · right
    have hcell : ∀ j v, ((cur.drop oo).take n)[j]? = some v → w.drew.cell? ((⟨b, oo, none⟩ : Addr).add j) = some v := fun j v hj => by
      have hjl : j < n := by have := (List.getElem?_eq_some_iff.1 hj).1; rw [List.length_take] at this; omega
      rw [List.getElem?_take, if_pos hjl, List.getElem?_drop] at hj
      rw [run_addOff]
      show w.cell? ⟨b, oo + j, none⟩ = some v
      simp only [World.cell?, hb]
      simpa using hj
    have hold := run_firstCells_some (P := P) w.drew 1 n ⟨b, oo, none⟩ n c ((cur.drop oo).take n) (by simp; omega) hcell
    have hcap := grownCap_ge w (n + 1) c e
    have hcapm := grownCap_le_maxLen w (n + 1) c e (by simp only [maxLen]; omega)
    have hzs : (Value.int IntKind.i64 0).cells.size = 1 := rfl
    refine ⟨grownCap w (n + 1) c e, (cur.drop oo).take n ++ [.int .i64 q] ++ (Builtin.zeroCells (Value.int IntKind.i64 0).cells (grownCap w (n + 1) c e - (n + 1))).toList, hcap, hcapm, ?_, ?_, ?_⟩
    · simp only [List.length_append, List.length_take, List.length_drop, List.length_singleton, Array.length_toList, size_zeroCells, hzs]; omega
    · rw [List.take_left' (by simp only [List.length_append, List.length_take, List.length_drop, List.length_singleton]; omega)]
    · have hnb : (n + 1) * y2 ≤ 1000000000 * 100000 := Nat.mul_le_mul hbig hby
      have h48 : ¬ (281474976710656 < Builtin.nextslicecap (n + 1) c * y2) := by
        have := growslice_fits (show c < n + 1 by omega) (show (n + 1) * y2 ≤ 140737488355328 by omega)
        omega
      have h63 : ¬ (9223372036854775807 < (n : Int) + 1) := by omega
      simp [Builtin.append_, run_underlying hu, sizeOf, typeInfo, zeroValue, p1, p2, p3, p4, Builtin.lenOf, hroom, h48, h63, Question.forced, hold, hnv', newRow, grownCap]
      congr 2
      apply Array.ext'
      simp
theorem go_append1w {tb : TB} (ht : TOk C.P tb) {s x : Operand} {t e : TypeId} {s1 : Nat} {a1 : Bool} {z1 : Value} {y1 : Nat} {u : TypeDesc} {y2 : Nat} {A : Option Addr} {c bv cv : Nat} {xs : List Int} {q : Int} {rr r2 : List OA}
    (ho : o.op = .call ⟨.builtin .append, #[s, x], #[t, t]⟩) (hw : wants ops E o = some true) (hs : ev E s = some (.slice A xs.length c)) (hx : ev E x = some (.slice (some ⟨bv, 0, none⟩) 1 cv)) (hi : lookT tb t = some ⟨.slice e, s1, a1, z1, y1⟩) (he : lookT tb e = some ⟨u, 1, false, .int .i64 0, y2⟩) (hy : Nat.ble y2 100000 = true)
    (hd : okDst C.N o.dst = true) (hr : Rem (olw e A c xs) Os rr) (hr2 : Rem (pt bv e [.int .i64 q]) rr r2) (hn : xs.length < 1000000000)
    (hpos : 0 < c)
    (hS : f = true → ∀ A' c' w hp ho, Sat w hp ho Ps (olw e A' c' (xs ++ [q]) :: rr) → S w)
    (g : ∀ A' c', Go C (.ops ops S r :: k) (setE o.dst (.slice A' (xs ++ [q]).length c') E) Ps (olw e A' c' (xs ++ [q]) :: rr)) : Go C (.ops ops S (.one 0 f o r) :: k) E Ps Os :=
  go_eff (fun x : Option Addr × Nat => .slice x.1 (xs ++ [q]).length x.2) (fun _ => Ps) (fun x => olw e x.1 x.2 (xs ++ [q]) :: rr) hw hd (fun a w hp ho' hf hs' hb => by
    obtain ⟨g1, g2, la, lb, ldj, ⟨q1, q2, q3⟩, lsep⟩ := Sep.rem hr hs'.os
    rcases q3 with ⟨_, q⟩ | ⟨b, oo, cur, rfl, hbb, hsz, hct⟩
    · rw [q] at hpos; exact absurd hpos (Nat.lt_irrefl _)
    obtain ⟨j1, j2, ma, mb, mdj, hpv, _⟩ := Sep.rem hr2 lsep
    have hvv : w.cell? ⟨bv, 0, none⟩ = some (.int .i64 q) := by
      have h1 : hpOf w bv = _ := hs'.ino _ _ (lb _ _ (ma _ _ hpv))
      have h2 : w.heap[bv]? = _ := h1
      simp [World.cell?, h2]
    have hbw : w.heap[b]? = some (.cells cur e (0, 0)) := hs'.ino _ _ (la _ _ hbb)
    have hlen : (xs ++ [q]).length = xs.length + 1 := by simp
    rcases append1_run ht (ty := o.type) (cv := cv) hi he hy (cur := cur.toList) (by simpa using hbw) hvv (by simpa using hsz) q1 q2 hn with ⟨hroom, hrun⟩ | ⟨c', cur2, k1, k2, k3, k4, hrun⟩
    · have hs2 : Sat w hp ho' Ps (pt b e cur.toList :: rr) := ⟨hs'.inp, hs'.ino, hs'.dj, hs'.ps, g1, g2, la, lb, ldj, by show g1 b = _; rw [hbb], lsep⟩
      obtain ⟨ho2, h2, h3⟩ := sat_store (C := C) (cs' := putS (oo + xs.length) [.int .i64 q] cur.toList) .here hs2 hb
      refine ⟨(some ⟨b, oo, none⟩, c), _, hp, ho2, ?_, ?_, h3⟩
      · have := append_exec hf ho hs hx hrun
        rw [hlen]; exact this
      · obtain ⟨k1, k2, ka, kb, kdj, kpt, ksep⟩ := h2.os
        have hle : oo + xs.length + [Value.int .i64 q].length ≤ cur.toList.length := by simp; omega
        refine ⟨h2.inp, h2.ino, h2.dj, h2.ps, k1, k2, ka, kb, kdj, ⟨by rw [hlen]; exact hroom, q2, .inr ⟨b, oo, _, rfl, kpt, ?_, ?_⟩⟩, ksep⟩
        · simp only [List.size_toArray]; rw [putS_len hle]; simpa using hsz
        · have h5 := putS_take (m := oo + xs.length + 1) hle rfl
          have h6 := congrArg (List.drop oo) h5
          rw [List.drop_take, List.drop_append_of_le_length (by simp; omega), List.drop_take] at h6
          simp only [List.toList_toArray] at h6 ⊢
          rw [show oo + xs.length + 1 - oo = xs.length + 1 by omega, show oo + xs.length - oo = xs.length by omega, hct] at h6
          rw [hlen, h6]; simp [ints]
    · obtain ⟨ho2, h2, h3⟩ := sat_alloc (C := C) (w := { w with drawn := w.drawn + 1 }) ⟨hs'.inp, hs'.ino, hs'.dj, hs'.ps, lsep.mono lb⟩ hb.drew (olw e (some ⟨w.heap.size, 0, none⟩) c' (xs ++ [q])) (.cells cur2.toArray e) (fun h qq => ⟨by rw [hlen]; exact k1, k2, .inr ⟨w.heap.size, 0, _, rfl, qq, by simp [k3], by rw [List.drop_zero, hlen]; simp only [List.toList_toArray]; rw [k4, hct]; simp [ints]⟩⟩)
      refine ⟨(some ⟨w.heap.size, 0, none⟩, c'), _, hp, ho2, ?_, h2, h3⟩
      have := append_exec hf ho hs hx hrun
      rw [hlen]; exact this) (fun e x => hS e _ _) (fun x => g x.1 x.2)
theorem go_append_zerosW {tb : TB} (ht : TOk C.P tb) {s x : Operand} {t t2 e : TypeId} {s1 : Nat} {a1 : Bool} {z1 : Value} {y1 : Nat} {kk : IntKind} {s2 : Nat} {a2 : Bool} {z2 : Value} {y2 : Nat} {i : TI} {b oo n c m : Nat} {old : List Value}
    (ho : o.op = .call ⟨.builtin .append, #[s, x], #[t, t2]⟩) (hw : wants ops E o = some true) (hs : ev E s = some (.slice (some ⟨b, oo, none⟩) n c)) (hx : ev E x = some (.int .i64 (m : Int))) (hi : lookT tb t = some ⟨.slice e, s1, a1, z1, y1⟩) (hi2 : lookT tb t2 = some ⟨.int kk, s2, a2, z2, y2⟩) (he : lookT tb e = some i)
    (hz : Nat.beq (cellsL i.zero).length i.size = true) (hy : Nat.ble i.bytes 100000 = true) (hd : okDst C.N o.dst = true) (hold : At Ps Os b oo (n * i.size) old) (hc : c < n + m) (hn : n + m ≤ 100000000) (hpos : 0 < m) (hsz0 : Nat.ble 1 i.size = true)
    (hS : f = true → ∀ (b' : Nat) (cur : List Value) w hp ho, Sat w hp ho Ps (pt b' e cur :: Os) → S w)
    (g : ∀ (b' c' : Nat) (cur : List Value), cur.length = c' * i.size → cur.take (n * i.size) = old → n + m ≤ c' → c' ≤ maxLen → Go C (.ops ops S r :: k) (setE o.dst (.slice (some ⟨b', 0, none⟩) (n + m) c') E) Ps (pt b' e cur :: Os)) : Go C (.ops ops S (.one 0 f o r) :: k) E Ps Os := by
  have hzs : (i.zero.cells).size = i.size := by rw [cellsL_eq]; simpa using Nat.eq_of_beq_eq_true hz
  let cur : Nat → List Value := fun c' => old ++ (Builtin.zeroCells i.zero.cells m).toList ++ (Builtin.zeroCells i.zero.cells (c' - (n + m))).toList
  have hcl : ∀ c', n + m ≤ c' → (cur c').length = c' * i.size := fun c' h => by
    simp only [cur, List.length_append, Array.length_toList, size_zeroCells, hzs, hold.1, ← Nat.add_mul]
    congr 1; omega
  have hct : ∀ c', (cur c').take (n * i.size) = old := fun c' => by
    simp only [cur, List.append_assoc]
    rw [← hold.1, List.take_left]
  refine go_eff (α := { x : Nat × Nat // n + m ≤ x.2 ∧ x.2 ≤ maxLen }) (fun x => .slice (some ⟨x.1.1, 0, none⟩) (n + m) x.1.2) (fun _ => Ps) (fun x => pt x.1.1 e (cur x.1.2) :: Os) hw hd (fun a w hp ho' hf hs' hb => ?_) (fun e x => hS e _ _) (fun x => g x.1.1 x.1.2 _ (hcl _ x.2.1) (hct _) x.2.1 x.2.2)
  have hu := (ht _ _ hi).u
  have hu2 := (ht _ _ hi2).u
  obtain ⟨xi, q1, q2, q3, q4⟩ := (ht _ _ he).info
  have hby := Nat.le_of_ble_eq_true hy
  have hsz1 := Nat.le_of_ble_eq_true hsz0
  have hcap := grownCap_ge w (n + m) c e
  have hcapm := grownCap_le_maxLen w (n + m) c e (by simp only [maxLen]; omega)
  obtain ⟨ho2, h2, h3⟩ := sat_alloc (C := C) (w := { w with drawn := w.drawn + 1 }) ⟨hs'.inp, hs'.ino, hs'.dj, hs'.ps, hs'.os⟩ hb.drew (pt w.heap.size e (cur (grownCap w (n + m) c e))) (.cells (cur (grownCap w (n + m) c e)).toArray e) (fun h q => q)
  refine ⟨⟨(w.heap.size, grownCap w (n + m) c e), hcap, hcapm⟩, _, hp, ho2, ?_, h2, h3⟩
  have hfo := run_firstCells_some (P := C.P) w.drew xi.size n ⟨b, oo, none⟩ n c old (by rw [q3]; exact hold.1) (fun j v hj => by rw [run_addOff]; exact hold.2 w hp ho' hs' j v hj)
  have hwm : IntKind.i64.wrap (m : Int) = (m : Int) := wrap_i64 (by omega) (by omega)
  have hmb : m * i.bytes ≤ 100000000 * 100000 := Nat.mul_le_mul (by omega) hby
  have hmb' : ¬ (281474976710656 < (m : Int) * (i.bytes : Int)) := by
    rw [← Int.natCast_mul]; omega
  have hnb : (n + m) * i.bytes ≤ 100000000 * 100000 := Nat.mul_le_mul hn hby
  have h48 : ¬ (281474976710656 < Builtin.nextslicecap (n + m) c * i.bytes) := by
    have := growslice_fits hc (show (n + m) * i.bytes ≤ 140737488355328 by omega)
    omega
  have hnc : ¬ (n + m ≤ c) := by omega
  have h63 : ¬ (9223372036854775807 < ((n : Int) + (m : Int))) := by omega
  have hm0 : ¬ (m * i.size = 0) := by
    have := Nat.mul_le_mul hpos hsz1
    omega
  have hrun : (Builtin.append_ #[t, t2] o.type #[.slice (some ⟨b, oo, none⟩) n c, .int .i64 (m : Int)]).run C.P w = .ok (.slice (some ⟨w.heap.size, 0, none⟩) (n + m) (grownCap w (n + m) c e)) (w.drew.alloc (.cells (cur (grownCap w (n + m) c e)).toArray e)) := by
    rw [q3] at hfo
    simp [Builtin.append_, run_underlying hu, run_underlying hu2, sizeOf, typeInfo, zeroValue, q1, q2, q3, q4, asInt, asIntOf, hwm, hmb', h48, hnc, h63, hm0, Question.forced, hfo, newRow, grownCap, show ¬ ((m : Int) < 0) by omega]
    congr 2
    apply Array.ext'
    simp [cur]
  simp [execOp, ho, resolve, invoke, builtin, hf.ev hs, hf.ev hx, hrun]
  rfl
end
theorem putS_drop {n m : Nat} {vs l : List Value} (h : m ≤ n) (hn : n ≤ l.length) : (putS n vs l).drop m = putS (n - m) vs (l.drop m) := by
  unfold putS
  rw [List.drop_append_of_le_length (by simp; omega), List.drop_take, List.drop_drop, show m + (n - m + vs.length) = n + vs.length by omega]
end Go.Proofs.YtdconhalfanclaaGreat.SL

