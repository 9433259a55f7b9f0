/- Engine, data and contracts: parts of the proof of ImpactPlays, put together (Impb Query0 Impc SJ Impd Impe ED Law30a Law30p S8 Open SE). -/
import Derived.Test.YtmomkfedcmogmaaGreatMImpactPlaysE
import Derived.Test.YtmomkfedcmogmaaGreatMImpactPlaysA
import Derived.Test.YtmomkfedcmogmaaGreatMImpactPlaysB
import Derived.Test.YtmomkfedcmogmaaGreatMImpactPlaysC
import Derived.WalkKit
import Derived.ProofKit
import Derived.OpenShut
import Derived.ShutString
import Derived.ChangeOld
import Derived.Below
import Derived.Carry
import Derived.SizedLaws
import Derived.Deep.Slices
import Derived.Test.YtmomkfedcmogmaaGreatMImpactPlaysD
set_option linter.unusedVariables false
set_option linter.unusedSimpArgs false
set_option maxHeartbeats 2000000
set_option maxRecDepth 20000
namespace Go.Proofs.YtmomkfedcmogmaaGreat.SL
open Go Md
theorem ref30Diff (l : List Cl) (LA : Option Addr) (lc : Nat) (gl : ∀ c ∈ l, c.ok) (hb0l : ∀ x ∈ l, x.b.length ≤ 1000) (hlll : l.length ≤ 20) (hbigl : ∀ c ∈ l, ∀ F N : List Fa, F.length ≤ 60 → (goL c F [] N c.b ch0 true).length ≤ 216000) (m : List Cl) (MA : Option Addr) (mc : Nat) (gm : ∀ c ∈ m, c.ok) (hb0m : ∀ x ∈ m, x.b.length ≤ 1000) (hllm : m.length ≤ 20) (hbigm : ∀ c ∈ m, ∀ F N : List Fa, F.length ≤ 60 → (goL c F [] N c.b ch0 true).length ≤ 216000) (a : List Fa) (A : Option Addr) (k : Nat) (most : Int) (hm : most ≤ 60) (hfl : a.length ≤ 60) :
    Spec Tryz.prog 9 #[.slice LA l.length lc, .slice MA m.length mc, .slice A a.length k, .int .i64 most] [sl tCl LA lc l, sl tCl MA mc m, sl tFa A k a] [] (fun v Ps' Os' => ∃ A1 k1 A2 k2 g s e, DiffA l m a most g s e ∧ v = .tuple #[.slice A1 g.length k1, .slice A2 s.length k2, .int .i64 e] ∧ Ps' = [sl tFa A1 k1 g, sl tFa A2 k2 s] ∧ Os' = []) := by
 refine zSp _ Tryz.func9 Tryz.ntmps9 (fun _ _ _ => ?_)
 refine zC 11 (ref15Of l LA lc a A k most gl hb0l hlll hfl hm hbigl) ?_
 rintro _ _ _ ⟨A1, k1, r1, e1, hM1, rfl, rfl, rfl⟩
 refine zE 12 [1, 2, 3, 11, 12, 22] ?_
 refine zN 0 ?_ ?_
 ·intro g1
  refine zR 1 ?_
  refine go_sl_nil tFa ?_
  refine zT 6 rfl ⟨none, 0, none, 0, [], [], e1, ⟨r1, e1, hM1, .inl ⟨g1, rfl, rfl, rfl⟩⟩, rfl, rfl, rfl⟩
 intro g1
 subst g1
 refine zC 6 (ref15Of m MA mc a A k most gm hb0m hllm hfl hm hbigm) ?_
 rintro _ _ _ ⟨A2, k2, r2, e2, hM2, rfl, rfl, rfl⟩
 refine zE 12 [11, 12, 13, 32] ?_
 refine zN 0 ?_ ?_
 ·intro g2
  refine zR 1 ?_
  refine go_sl_nil tFa ?_
  refine zT 6 rfl ⟨none, 0, none, 0, [], [], e2, ⟨r1, 0, hM1, .inr ⟨rfl, r2, e2, hM2, .inl ⟨g2, rfl, rfl, rfl⟩⟩⟩, rfl, rfl, rfl⟩
 intro g2
 subst g2
 refine zR 2 ?_
 have hl1 := hM1.len gl (by omega)
 have hl2 := hM2.len gm (by omega)
 refine zC 3 (ref30Less (r2.getD []) A2 k2 (r1.getD []) A1 k1 (by omega)) ?_
 rintro _ _ _ ⟨A3, k3, rfl, rfl, rfl⟩
 refine zC 2 (ref30Less (r1.getD []) A1 k1 (r2.getD []) A2 k2 (by omega)) ?_
 rintro _ _ _ ⟨A4, k4, rfl, rfl, rfl⟩
 refine zT 4 rfl ⟨A3, k3, A4, k4, _, _, 0, ⟨r1, 0, hM1, .inr ⟨rfl, r2, 0, hM2, .inr ⟨rfl, rfl, rfl, rfl⟩⟩⟩, rfl, rfl, rfl⟩
theorem ref30Rest (l : List Cl) (LA : Option Addr) (lc : Nat) (gl : ∀ c ∈ l, c.ok) (hb0l : ∀ x ∈ l, x.b.length ≤ 1000) (hlll : l.length ≤ 20) (hbigl : ∀ c ∈ l, ∀ F N : List Fa, F.length ≤ 60 → (goL c F [] N c.b ch0 true).length ≤ 216000) (a : List Fa) (A : Option Addr) (k : Nat) (f : Fa) (FA : Option Addr) (fk : Nat) (most : Int) (hm : most ≤ 60) (hfl : a.length ≤ 60) :
    Spec Tryz.prog 13 #[.slice LA l.length lc, .slice A a.length k, .agg #[.int .u32 f.p, .slice FA f.a.length fk], .int .i64 most] [sl tCl LA lc l, sl tFa A k a, sl tU FA fk f.a] [] (fun v Ps' Os' => ∃ A' c' e, AskR l a f most e ∧ v = .tuple #[.slice A' (if e = 0 then cs (restL (fun g => isW l (kq g a a.length) f most) a.length) else []).length c', .int .i64 e] ∧ Ps' = [sl tI A' c' (if e = 0 then cs (restL (fun g => isW l (kq g a a.length) f most) a.length) else [])] ∧ Os' = []) := by
 refine zSp _ Tryz.func13 Tryz.ntmps13 (fun _ _ _ => ?_)
 refine zX 2 ?_
 intro bq
 refine go_freeze_pt (b := bq) zM ?_
 refine zL 7 ?_
 refine zC 1 (ref30Asks l LA lc gl hb0l hlll hbigl a A k f FA fk most hm hfl) ?_
 rintro _ _ _ ⟨e, hE, rfl, rfl, rfl⟩
 refine zN 8 ?_ ?_
 ·intro g1
  refine zR 1 ?_
  refine go_sl_nil tI ?_
  refine zE 5 [8, 9] ?_
  refine zT 0 rfl ⟨none, 0, e, hE, by rw [if_neg g1]; rfl, by rw [if_neg g1], rfl⟩
 intro g1
 subst g1
 refine zR 7 ?_
 refine go_len (xs := a) zM (fun la ma => ?_)
 refine go_own_nil tI 3 none ?_
 refine go_same (B := ol tI 3 none 0 (cs (restL (fun g => isW l (kq g a a.length) f most) (0)))) .here (by rfl) ?_
 refine zR 4 ?_
 refine zO (X := Nat × Option Addr × Nat) (fun x => [(11, .slice x.2.1 (cs (restL (fun g => isW l (kq g a a.length) f most) (x.1))).length x.2.2), (12, .int .i64 (x.1 : Int))]) [0, 1, 3, 6] (fun x => [ol tI 3 x.2.1 x.2.2 (cs (restL (fun g => isW l (kq g a a.length) f most) (x.1)))]) (fun x => x.1 ≤ a.length) (fun x => a.length - x.1) (0, none, 0) (Nat.zero_le _) ?_
 intro ⟨i, A3, c3⟩ hi
 simp only at hi ⊢
 have hsl := restL_len (fun g => isW l (kq g a a.length) f most) i
 refine zD' 8 ?_ ?_
 ·intro hq1
  refine zR 2 ?_
  obtain rfl : i = a.length := by omega
  refine go_freeze_ol (xs := cs (restL (fun g => isW l (kq g a a.length) f most) (a.length))) zM ?_
  refine zT 5 rfl ⟨A3, c3, 0, hE, rfl, rfl, rfl⟩
 intro hq1
 refine zR 7 ?_
 refine go_make tBool false a.length Tk rfl rfl rfl rfl rfl rfl rfl rfl rfl (fun _ => rfl) (by omega) zH ?_
 intro bG
 refine zI 6 ?_
 refine go_store_el (T := tBool) (xs := List.replicate a.length false) (j := i) Tk (true) rfl rfl rfl rfl rfl rfl zM (by rw [List.length_replicate]; omega) rfl rfl (fun _ _ => rfl) zF ?_
 refine zR 2 ?_
 refine go_re 13 (.slice (some ⟨bG, 0, none⟩) ((List.replicate a.length false).set i true).length a.length) (by show some _ = some _; rw [List.length_set, List.length_replicate]) ?_
 refine zL 4 ?_
 refine zC3 1 (ref30Without l LA lc gl hb0l hlll hbigl a A k ((List.replicate a.length false).set i true) (some ⟨bG, 0, none⟩) a.length f FA fk most hm hfl (by rw [List.length_set, List.length_replicate])) ?_
 rw [show kq (gB ((List.replicate a.length false).set i true)) a a.length = kq (upd1 (fun _ => false) i) a a.length from kq_congr fun j hj => gB_one hj]
 refine zE 2 [0, 1, 3, 6, 11, 12, 40] ?_
 refine zB' 0 ?_ ?_
 ·intro g3
  (try simp only [dcs, ne_eq] at g3)
  refine zR 7 ?_
  refine go_i64n 12 (i + 1) rfl ?_
  rw [restL_out (W := (fun g => isW l (kq g a a.length) f most)) g3]
  refine zz (i + 1, A3, c3) (by show i + 1 ≤ _; omega) (by show _ - (i + 1) < _ - i; omega)
 intro g3
 (try simp only [dcs, ne_eq] at g3)
 refine zV 3 ?_
 intro b1
 refine go_append1 (T := tI) (xs := cs (restL (fun g => isW l (kq g a a.length) f most) (i))) Tk ((i : Int)) rfl rfl rfl rfl rfl rfl rfl rfl rfl zM zM rfl ent_int (by omega) zH ?_
 intro A4 c4
 refine zR 8 ?_
 refine go_i64n 12 (i + 1) rfl ?_
 rw [restL_in (W := (fun g => isW l (kq g a a.length) f most)) g3]
 refine zz (i + 1, A4, c4) (by show i + 1 ≤ _; omega) (by show _ - (i + 1) < _ - i; omega)
theorem ref30Keys (l : List Cl) (LA : Option Addr) (lc : Nat) (gl : ∀ c ∈ l, c.ok) (hb0l : ∀ x ∈ l, x.b.length ≤ 1000) (hlll : l.length ≤ 20) (hbigl : ∀ c ∈ l, ∀ F N : List Fa, F.length ≤ 60 → (goL c F [] N c.b ch0 true).length ≤ 216000) (a : List Fa) (A : Option Addr) (k : Nat) (f : Fa) (FA : Option Addr) (fk : Nat) (most : Int) (hm : most ≤ 60) (hfl : a.length ≤ 60) :
    Spec Tryz.prog 15 #[.slice LA l.length lc, .slice A a.length k, .agg #[.int .u32 f.p, .slice FA f.a.length fk], .int .i64 most] [sl tCl LA lc l, sl tFa A k a, sl tU FA fk f.a] [] (fun v Ps' Os' => ∃ A' c' e, AskR l a f most e ∧ v = .tuple #[.slice A' (if e = 0 then cs (keysP (fun g => isW l (kq g a a.length) f most) a.length a.length) else []).length c', .int .i64 e] ∧ Ps' = [sl tI A' c' (if e = 0 then cs (keysP (fun g => isW l (kq g a a.length) f most) a.length a.length) else [])] ∧ Os' = []) := by
 refine zSp _ Tryz.func15 Tryz.ntmps15 (fun _ _ _ => ?_)
 refine zX 2 ?_
 intro bq
 refine go_freeze_pt (b := bq) zM ?_
 refine zL 7 ?_
 refine zC 1 (ref30Asks l LA lc gl hb0l hlll hbigl a A k f FA fk most hm hfl) ?_
 rintro _ _ _ ⟨e, hE, rfl, rfl, rfl⟩
 refine zN 8 ?_ ?_
 ·intro g1
  refine zR 1 ?_
  refine go_sl_nil tI ?_
  refine zE 5 [8, 9] ?_
  refine zT 0 rfl ⟨none, 0, e, hE, by rw [if_neg g1]; rfl, by rw [if_neg g1], rfl⟩
 intro g1
 subst g1
 refine zR 2 ?_
 refine go_len (xs := a) zM (fun la ma => ?_)
 refine zR 3 ?_
 refine go_make tBool false a.length Tk rfl rfl rfl rfl rfl rfl rfl rfl rfl (fun _ => rfl) (by omega) zH ?_
 intro bG
 refine go_same (B := ol tBool 4 (some ⟨bG, 0, none⟩) a.length (goneL (fun g => isW l (kq g a a.length) f most) a.length (0))) .here (by rw [goneL_zero (W := (fun g => isW l (kq g a a.length) f most))]) ?_
 refine zE 2 [0, 1, 3, 6, 11] ?_
 refine zR 6 ?_
 refine zi 28 ?_
 refine zR 2 ?_
 refine go_re 12 (.int .i64 ((a.length : Int) - 1 - ((0 : Nat) : Int))) (congrArg (fun z : Int => some (Value.int IntKind.i64 z)) (show (a.length : Int) - 1 = (a.length : Int) - 1 - ((0 : Nat) : Int) by omega)) ?_
 refine zR 1 ?_
 refine zO (X := Nat) (fun x => [(12, .int .i64 ((a.length : Int) - 1 - (x : Int)))]) [0, 1, 3, 6, 11] (fun x => [ol tBool 4 (some ⟨bG, 0, none⟩) a.length (goneL (fun g => isW l (kq g a a.length) f most) a.length (x))]) (fun x => x ≤ a.length) (fun x => a.length - x) 0 (Nat.zero_le _) ?_
 intro n hn
 refine zD 6 ?_ ?_
 ·intro g2
  refine zR 4 ?_
  obtain ⟨jj, hjj⟩ : ∃ jj, jj = a.length - 1 - n := ⟨_, rfl⟩
  have hgl := goneL_len (W := (fun g => isW l (kq g a a.length) f most)) (n := a.length) (k := n)
  refine go_re 12 (.int .i64 (jj : Int)) (congrArg (fun z : Int => some (Value.int IntKind.i64 z)) (show (a.length : Int) - 1 - (n : Int) = (jj : Int) by omega)) ?_
  refine zI 3 ?_
  refine zSE 0 tBool (goneL (fun g => isW l (kq g a a.length) f most) a.length (n)) jj (true) (fun _ _ => rfl) ?_
  refine zR 7 ?_
  refine go_re 40 (.slice (some ⟨bG, 0, none⟩) ((goneL (fun g => isW l (kq g a a.length) f most) a.length (n)).set jj true).length a.length) (by show some _ = some _; rw [List.length_set, hgl]) ?_
  refine zL 0 ?_
  refine zC3 1 (ref30Without l LA lc gl hb0l hlll hbigl a A k ((goneL (fun g => isW l (kq g a a.length) f most) a.length (n)).set jj true) (some ⟨bG, 0, none⟩) a.length f FA fk most hm hfl (by rw [List.length_set, goneL_len])) ?_
  rw [show kq (gB ((goneL (fun g => isW l (kq g a a.length) f most) a.length (n)).set jj true)) a a.length = kq (upd1 (gone (fun g => isW l (kq g a a.length) f most) a.length n) jj) a a.length from kq_congr fun j hj => gB_gone hj]
  refine zI 0 ?_
  refine go_store_el (T := tBool) (xs := (goneL (fun g => isW l (kq g a a.length) f most) a.length (n)).set jj true) (j := jj) Tk (isW l (kq (upd1 (gone (fun g => isW l (kq g a a.length) f most) a.length n) jj) a a.length) f most) rfl rfl rfl rfl rfl rfl zM (by rw [List.length_set]; omega) rfl rfl (fun _ _ => rfl) zF ?_
  refine zE 1 [0, 1, 3, 6, 11, 12] ?_
  refine zR 6 ?_
  refine zi 12 ?_
  refine go_re 12 (.int .i64 ((a.length : Int) - 1 - ((n + 1 : Nat) : Int))) (congrArg (fun z : Int => some (Value.int IntKind.i64 z)) (show (jj : Int) - 1 = (a.length : Int) - 1 - ((n + 1 : Nat) : Int) by omega)) ?_
  refine go_same (B := ol tBool 4 (some ⟨bG, 0, none⟩) a.length (goneL (fun g => isW l (kq g a a.length) f most) a.length (n + 1))) .here (by rw [goneL_next (W := (fun g => isW l (kq g a a.length) f most)) (show n < a.length by omega) hjj rfl]) ?_
  refine zz (n + 1) (by omega) (by omega)
 intro g2
 refine zR 2 ?_
 obtain rfl : n = a.length := by omega
 refine go_own_nil tI 3 none ?_
 refine go_same (B := ol tI 3 none 0 (cs (keysP (fun g => isW l (kq g a a.length) f most) a.length (0)))) .here (by rfl) ?_
 refine zR 9 ?_
 refine zO (X := Nat × Option Addr × Nat) (fun x => [(13, .slice x.2.1 (cs (keysP (fun g => isW l (kq g a a.length) f most) a.length (x.1))).length x.2.2), (14, .int .i64 (x.1 : Int))]) [1, 11] (fun x => [ol tI 3 x.2.1 x.2.2 (cs (keysP (fun g => isW l (kq g a a.length) f most) a.length (x.1)))]) (fun x => x.1 ≤ a.length) (fun x => a.length - x.1) (0, none, 0) (Nat.zero_le _) ?_
 intro ⟨i, A3, c3⟩ hi
 simp only at hi ⊢
 have hsl := keysP_len (fun g => isW l (kq g a a.length) f most) a.length i
 refine zD' 8 ?_ ?_
 ·intro hq1
  refine zR 2 ?_
  obtain rfl : i = a.length := by omega
  refine go_freeze_ol (xs := cs (keysP (fun g => isW l (kq g a a.length) f most) a.length (a.length))) zM ?_
  refine zT 5 rfl ⟨A3, c3, 0, hE, rfl, rfl, rfl⟩
 intro hq1
 refine zI 7 ?_
 refine go_val0 rfl (load_val (cs := [.bool (gone (fun g => isW l (kq g a a.length) f most) a.length a.length i)]) Tk rfl rfl rfl (at_ol (T := tBool) (fun y : Bool => [.bool y]) (fun _ _ _ h => h) 0 (xs := goneL (fun g => isW l (kq g a a.length) f most) a.length (a.length)) (j := i) zM (goneL_at (by omega)) rfl) rfl) rfl ?_
 refine zB' 2 ?_ ?_
 ·intro g3
  (try simp only [dcs, ne_eq] at g3)
  refine zR 7 ?_
  refine go_i64n 14 (i + 1) rfl ?_
  rw [keysP_out (W := (fun g => isW l (kq g a a.length) f most)) g3]
  refine zz (i + 1, A3, c3) (by show i + 1 ≤ _; omega) (by show _ - (i + 1) < _ - i; omega)
 intro g3
 (try simp only [dcs, ne_eq] at g3)
 refine zV 3 ?_
 intro b1
 refine go_append1 (T := tI) (xs := cs (keysP (fun g => isW l (kq g a a.length) f most) a.length (i))) Tk ((i : Int)) rfl rfl rfl rfl rfl rfl rfl rfl rfl zM zM rfl ent_int (by omega) zH ?_
 intro A4 c4
 refine zE 2 [1, 11, 13, 14] ?_
 refine zR 6 ?_
 refine go_i64n 14 (i + 1) rfl ?_
 rw [keysP_in (W := (fun g => isW l (kq g a a.length) f most)) g3]
 refine zz (i + 1, A4, c4) (by show i + 1 ≤ _; omega) (by show _ - (i + 1) < _ - i; omega)
end Go.Proofs.YtmomkfedcmogmaaGreat.SL
namespace Go.Proofs.YtmomkfedcmogmaaGreat.SL
open Go
theorem is1 (bq : Nat) (y : Fa) (B : Option Addr) (d : Nat) (x : Fa) (A : Option Addr) (c : Nat) :
    Spec Tryz.prog 80 #[.agg #[.int .u32 x.p, .slice A x.a.length c], .pointer (some ⟨bq, 0, none⟩)] [sl tU A c x.a, PA.all [cl bq 0 [.int .u32 y.p, .slice B y.a.length d], sl tU B d y.a]] [] (fun v Ps' Os' => v = .bool (decide (x = y)) ∧ Ps' = [] ∧ Os' = []) := by
 refine zSp _ Tryz.func80 Tryz.ntmps80 (fun _ _ _ => ?_)
 refine zX 2 ?_
 intro b1
 refine zR 3 ?_
 refine go_pall (l := [_, _]) zM ?_
 refine zL 1 ?_
 refine zL 0 ?_
 refine zC3 0 (atomsCompare _ _ _ _ _ _ _ _) ?_
 refine zT 3 rfl ⟨congrArg Value.bool (by rw [decide_eq_decide]; exact (cmpF_zero (x := y) (q := x)).trans eq_comm), rfl, rfl⟩
theorem indexFa (L : Option Addr) (lc : Nat) (l : List Fa) (g : FuncId) (cap : Array Value) (p : Fa → Bool) (PS : PA) (hso : SoSpec g cap p [PS]) :
    Spec Tryz.prog 98 #[.slice L l.length lc, .func (.func g) #[] cap] [sl tFa L lc l, PS] [] (fun v Ps' Os' => v = .int .i64 (idxF p l) ∧ Ps' = [] ∧ Os' = []) := by
 refine zSp _ Tryz.func98 Tryz.ntmps98 (fun _ _ _ => ?_)
 refine zR 1 ?_
 refine go_len (xs := l) zM (fun l0 m0 => ?_)
 refine zR 11 ?_
 refine zO (X := Nat) (fun k => [(8, .int .i64 (k : Int))]) [0, 1, 7] (fun _ => []) (fun k => k ≤ l.length ∧ ∀ y ∈ l.take k, p y = false) (fun k => l.length - k) 0 ⟨by omega, by simp⟩ ?_
 intro k ⟨hk, hz⟩
 refine zD' 5 ?_ ?_
 ·intro hq1
  refine zT 5 rfl ⟨by unfold idxF; rw [idxF_none (by rw [List.take_of_length_le (by omega)] at hz; exact hz)], rfl, rfl⟩
 intro hq1
 refine zR 9 ?_
 refine go_elem_fa (xs := l) zM (k) (List.getElem?_eq_getElem (by omega)) (fun b0 o0 A0 c0 hA => ?_); cases hA
 refine zI 4 ?_
 refine zL 0 ?_
 refine zC3 0 (hso l[k] A0 c0) ?_
 refine zB 1 ?_ ?_
 ·intro g1
  (try simp only [dcs, ne_eq] at g1)
  refine zE 5 [4] ?_
  refine zT 0 rfl ⟨by unfold idxF; rw [idxF_hit (by omega) hz g1], rfl, rfl⟩
 intro g1
 (try simp only [dcs, ne_eq] at g1)
 refine zR 6 ?_
 refine zi 8 ?_
 refine zz (k + 1) (⟨by omega, mem_take_next' (by omega) hz g1⟩) (by omega)
theorem containsFa (L : Option Addr) (lc : Nat) (l : List Fa) (g : FuncId) (cap : Array Value) (p : Fa → Bool) (PS : PA) (hso : SoSpec g cap p [PS]) :
    Spec Tryz.prog 79 #[.slice L l.length lc, .func (.func g) #[] cap] [sl tFa L lc l, PS] [] (fun v Ps' Os' => v = .bool (l.any p) ∧ Ps' = [] ∧ Os' = []) := by
 refine zSp _ Tryz.func79 Tryz.ntmps79 (fun _ _ _ => ?_)
 refine zC3 8 (indexFa L lc l g cap p PS hso) ?_
 refine zT 3 rfl ⟨congrArg Value.bool (idxF_any p l).symm, rfl, rfl⟩
theorem queryIs (L : Option Addr) (lc : Nat) (l : List Fa) (y : Fa) (B : Option Addr) (d : Nat) :
    Spec Tryz.prog 58 #[.slice L l.length lc, .agg #[.int .u32 y.p, .slice B y.a.length d]] [sl tFa L lc l, sl tU B d y.a] [] (fun v Ps' Os' => v = .bool (decide (y ∈ l)) ∧ Ps' = [] ∧ Os' = []) := by
 refine zSp _ Tryz.func58 Tryz.ntmps58 (fun _ _ _ => ?_)
 refine zX 2 ?_
 intro bq
 refine go_freeze_pt (b := bq) zM ?_
 refine go_mkall [cl bq 0 [.int .u32 y.p, .slice B y.a.length d], sl tU B d y.a] zM ?_
 refine zC3 6 (containsFa L lc l 80 #[.pointer (some ⟨bq, 0, none⟩)] (fun x => decide (x = y)) (PA.all [cl bq 0 [.int .u32 y.p, .slice B y.a.length d], sl tU B d y.a]) (fun x A c => is1 bq y B d x A c)) ?_
 refine zT 2 rfl ⟨congrArg Value.bool (any_mem y l).symm, rfl, rfl⟩
end Go.Proofs.YtmomkfedcmogmaaGreat.SL
namespace Go.Proofs.YtmomkfedcmogmaaGreat.SL
open Go Md
theorem impAsker (l : List Cl) (LA : Option Addr) (lc : Nat) (gl : ∀ c ∈ l, c.ok) (a : List Fa) (A : Option Addr) (k : Nat) (f : Fa) (FA : Option Addr) (fk : Nat) (most : Int) :
    Spec Tryz.prog 59 #[.slice LA l.length lc, .slice A a.length k, .agg #[.int .u32 f.p, .slice FA f.a.length fk], .int .i64 most] [sl tCl LA lc l, sl tFa A k a, sl tU FA fk f.a] [] (fun v Ps' Os' => ∃ bM bF bL bO bQ bm, v = .func (.func 82) #[] #[.pointer (some ⟨bM, 0, none⟩), .pointer (some ⟨bF, 0, none⟩), .pointer (some ⟨bL, 0, none⟩), .pointer (some ⟨bO, 0, none⟩), .pointer (some ⟨bQ, 0, none⟩)] ∧ Ps' = [cl bM 0 [.map (some bm)], cl bF 0 [.slice A a.length k], cl bL 0 [.slice LA l.length lc], cl bO 0 [.int .i64 most], cl bQ 0 [.int .u32 f.p, .slice FA f.a.length fk]] ∧ Os' = [mapO bm .u64 []]) := by
 refine zSp _ Tryz.func59 Tryz.ntmps59 (fun _ _ _ => ?_)
 refine zX 2 ?_
 intro bL
 refine zX 0 ?_
 intro bF
 refine zX 0 ?_
 intro bQ
 refine zX 0 ?_
 intro bO
 refine zR 4 ?_
 refine go_makemap (kk := .u64) rfl rfl rfl zH ?_
 intro bm
 refine zW 0 ?_
 intro bM
 refine zS 0 ?_
 refine zR 1 ?_
 refine go_freeze_pt (b := bL) zM ?_
 refine go_freeze_pt (b := bF) zM ?_
 refine go_freeze_pt (b := bQ) zM ?_
 refine go_freeze_pt (b := bO) zM ?_
 refine go_freeze_pt (b := bM) zM ?_
 refine zT 5 rfl ⟨bM, bF, bL, bO, bQ, bm, rfl, rfl, rfl⟩
theorem impAsk1 (l : List Cl) (LA : Option Addr) (lc : Nat) (gl : ∀ c ∈ l, c.ok) (a : List Fa) (A : Option Addr) (k : Nat) (f : Fa) (FA : Option Addr) (fk : Nat) (most : Int) (bM bF bL bO bQ bm o : Nat) (m : List (Int × Value)) (hk : Kn (fun g => isW l (kq g a a.length) f most) m) (ho : o < 2 ^ 64) (gaf : ∀ x ∈ a, x.ok ∧ x.a.length ≤ 100000) (hm : most ≤ 100) (hfl : a.length ≤ 60) (hbg : ∀ c ∈ l, ∀ (F R N : List Fa) (new : Bool), (F.length : Int) ≤ most → (goL c F R N c.b ch0 new).length ≤ 50000000) :
    Spec Tryz.prog 82 #[.int .u64 (o : Int), .pointer (some ⟨bM, 0, none⟩), .pointer (some ⟨bF, 0, none⟩), .pointer (some ⟨bL, 0, none⟩), .pointer (some ⟨bO, 0, none⟩), .pointer (some ⟨bQ, 0, none⟩)] [cl bM 0 [.map (some bm)], cl bF 0 [.slice A a.length k], cl bL 0 [.slice LA l.length lc], cl bO 0 [.int .i64 most], cl bQ 0 [.int .u32 f.p, .slice FA f.a.length fk], sl tCl LA lc l, sl tFa A k a, sl tU FA fk f.a] [mapO bm .u64 m] (fun v Ps' Os' => ∃ m', Kn (fun g => isW l (kq g a a.length) f most) m' ∧ v = .bool ((fun g => isW l (kq g a a.length) f most) (bits o)) ∧ Ps' = [] ∧ Os' = [mapO bm .u64 m']) := by
 refine zSp _ Tryz.func82 Tryz.ntmps82 (fun _ _ _ => ?_)
 refine zL 7 ?_
 refine zR 1 ?_
 refine go_val0 rfl (lookup_val (m := m) (n := (o : Int)) (c := false) (v := (mget m (o : Int)).getD (.int .i64 0)) Tk rfl rfl rfl rfl rfl rfl zM rfl) rfl ?_
 obtain ⟨z, hz, hz2⟩ := hk.val o
 refine go_re 16 (.int .i64 z) (by show some _ = _; rw [hz]) ?_
 refine zN 7 ?_ ?_
 ·intro g1
  refine zE 6 [7] ?_
  refine zT 0 rfl ⟨m, hk, congrArg Value.bool (sgn_dec g1 hz2), rfl, rfl⟩
 intro g1
 refine zR 2 ?_
 refine go_len (xs := a) zM (fun la ma => ?_)
 refine go_own_nil tFa 27 none ?_
 refine go_same (B := ol tFa 27 none 0 (kq (bits o) a (0))) .here (by rfl) ?_
 refine zL 6 ?_
 refine zR 4 ?_
 refine zO (X := Nat × Option Addr × Nat) (fun x => [(9, .slice x.2.1 (kq (bits o) a (x.1)).length x.2.2), (23, .int .i64 (x.1 : Int))]) [0, 1, 3, 4, 5, 21, 22] (fun x => [ol tFa 27 x.2.1 x.2.2 (kq (bits o) a (x.1))]) (fun x => x.1 ≤ a.length) (fun x => a.length - x.1) (0, none, 0) (Nat.zero_le _) ?_
 intro ⟨i, A3, c3⟩ hi
 simp only at hi ⊢
 have hsl := kq_len (bits o) a i
 refine zD 5 ?_ ?_
 ·intro hq1
  refine zR 4 ?_
  refine go_elem_fa (xs := a) zM (i) (List.getElem?_eq_getElem (by omega)) (fun b0 o0 A0 c0 hA => ?_); cases hA
  refine zI 2 ?_
  refine zL 0 ?_
  refine zW 0 ?_
  intro bx
  refine zS 1 ?_
  refine zR 7 ?_
  refine go_re 31 (.int .u64 (if o.testBit i = true then 1 else 0)) (by show some (Value.int _ _) = _; exact congrArg (fun z : Int => some (Value.int IntKind.u64 z)) (sh_bit ho (by omega))) ?_
  refine zD' 2 ?_ ?_
  ·intro g2
   have g3 : bits o i = true := bit_yes g2
   refine zR 6 ?_
   refine go_i64n 23 (i + 1) rfl ?_
   rw [kq_yes (by omega) g3]
   refine zz (i + 1, A3, c3) (by show i + 1 ≤ _; omega) (by show _ - (i + 1) < _ - i; omega)
  intro g2
  have g3 : bits o i = false := bit_no g2
  refine zL 2 ?_
  refine zV 0 ?_
  intro b1
  refine go_append1 (T := tFa) (xs := kq (bits o) a (i)) Tk (a[i]) rfl rfl rfl rfl rfl rfl rfl rfl rfl zM zM rfl (ent_fa zM) (by omega) zH ?_
  intro A4 c4
  refine zE 2 [0, 1, 3, 4, 5, 9, 21, 22, 23] ?_
  refine zR 5 ?_
  refine go_i64n 23 (i + 1) rfl ?_
  rw [kq_no (by omega) g3]
  refine zz (i + 1, A4, c4) (by show i + 1 ≤ _; omega) (by show _ - (i + 1) < _ - i; omega)
 intro hq1
 refine zR 2 ?_
 obtain rfl : i = a.length := by omega
 refine go_freeze_ol (xs := kq (bits o) a (a.length)) zM ?_
 refine zL 1 ?_
 refine zL 1 ?_
 refine zC 0 (modelOf l LA lc (kq (bits o) a (a.length)) A3 c3 most gl (fun x hx => gaf x (kq_sub x hx)) (by omega) (by omega) hbg) ?_
 rintro _ _ _ ⟨A1, k1, r1, e1, hM1, rfl, rfl, rfl⟩
 refine zE 6 [0, 1, 5, 12, 13] ?_
 refine zL 2 ?_
 refine zR 1 ?_
 refine go_mset (m := m) (v := .int .i64 (-1)) Tk rfl rfl rfl rfl rfl rfl rfl rfl zM zF ?_
 refine zG' 7 49 ?_ ?_
 ·intro g4
  (try simp only [dcs, ne_eq] at g4)
  have hw : isW l (kq (bits o) a (a.length)) f most = false := by rw [isW_and gl hM1, decide_eq_false g4, Bool.false_and]
  obtain ⟨m2, hm2⟩ : ∃ m2, m2 = mset m (o : Int) (.int .i64 (-1)) := ⟨_, rfl⟩
  rw [← hm2]
  have hK2 : Kn (fun g => isW l (kq g a a.length) f most) m2 := by rw [hm2]; exact hk.set (by show Value.int IntKind.i64 (-1) = Value.int IntKind.i64 (if isW l (kq (bits o) a (a.length)) f most = true then 1 else -1); rw [hw]; rfl)
  have hg2 : (mget m2 (o : Int)).getD (.int .i64 0) = .int .i64 (if (fun g => isW l (kq g a a.length) f most) (bits o) = true then 1 else -1) := by rw [hm2, mget_mset, if_pos rfl]; show Value.int IntKind.i64 (-1) = Value.int IntKind.i64 (if isW l (kq (bits o) a (a.length)) f most = true then 1 else -1); rw [hw]; rfl
  refine zDf 5 ?_
  refine zL 3 ?_
  refine zR 1 ?_
  refine go_val0 rfl (lookup_val (m := m2) (n := (o : Int)) (c := false) (v := (mget m2 (o : Int)).getD (.int .i64 0)) Tk rfl rfl rfl rfl rfl rfl zM rfl) rfl ?_
  refine go_re 58 (.int .i64 (if (fun g => isW l (kq g a a.length) f most) (bits o) = true then 1 else -1)) (by show some _ = _; rw [hg2]) ?_
  refine zE 3 [7] ?_
  refine zT 0 rfl ⟨m2, hK2, congrArg Value.bool sgn_pos, rfl, rfl⟩
 intro g4
 (try simp only [dcs, ne_eq] at g4)
 refine zL 1 ?_
 refine zC3 0 (queryIs A1 k1 (r1.getD []) f FA fk) ?_
 refine zB' 2 ?_ ?_
 ·intro g5
  (try simp only [dcs, ne_eq] at g5)
  have hw : isW l (kq (bits o) a (a.length)) f most = false := by rw [isW_and gl hM1, decide_eq_true g4, Bool.true_and, decide_eq_false g5]
  obtain ⟨m2, hm2⟩ : ∃ m2, m2 = mset m (o : Int) (.int .i64 (-1)) := ⟨_, rfl⟩
  rw [← hm2]
  have hK2 : Kn (fun g => isW l (kq g a a.length) f most) m2 := by rw [hm2]; exact hk.set (by show Value.int IntKind.i64 (-1) = Value.int IntKind.i64 (if isW l (kq (bits o) a (a.length)) f most = true then 1 else -1); rw [hw]; rfl)
  have hg2 : (mget m2 (o : Int)).getD (.int .i64 0) = .int .i64 (if (fun g => isW l (kq g a a.length) f most) (bits o) = true then 1 else -1) := by rw [hm2, mget_mset, if_pos rfl]; show Value.int IntKind.i64 (-1) = Value.int IntKind.i64 (if isW l (kq (bits o) a (a.length)) f most = true then 1 else -1); rw [hw]; rfl
  refine zL 3 ?_
  refine zR 1 ?_
  refine go_val0 rfl (lookup_val (m := m2) (n := (o : Int)) (c := false) (v := (mget m2 (o : Int)).getD (.int .i64 0)) Tk rfl rfl rfl rfl rfl rfl zM rfl) rfl ?_
  refine go_re 58 (.int .i64 (if (fun g => isW l (kq g a a.length) f most) (bits o) = true then 1 else -1)) (by show some _ = _; rw [hg2]) ?_
  refine zE 3 [7] ?_
  refine zT 0 rfl ⟨m2, hK2, congrArg Value.bool sgn_pos, rfl, rfl⟩
 intro g5
 (try simp only [dcs, ne_eq] at g5)
 have hw : isW l (kq (bits o) a (a.length)) f most = true := by rw [isW_and gl hM1, decide_eq_true g4, Bool.true_and, decide_eq_true g5]
 refine zL 1 ?_
 refine zR 1 ?_
 refine go_mset (m := (mset m (o : Int) (.int .i64 (-1)))) (v := .int .i64 1) Tk rfl rfl rfl rfl rfl rfl rfl rfl zM zF ?_
 refine zR 1 ?_
 obtain ⟨m2, hm2⟩ : ∃ m2, m2 = mset (mset m (o : Int) (.int .i64 (-1))) (o : Int) (.int .i64 1) := ⟨_, rfl⟩
 rw [← hm2]
 have hK2 : Kn (fun g => isW l (kq g a a.length) f most) m2 := by rw [hm2]; exact hk.now (by show Value.int IntKind.i64 1 = Value.int IntKind.i64 (if isW l (kq (bits o) a (a.length)) f most = true then 1 else -1); rw [hw]; rfl)
 have hg2 : (mget m2 (o : Int)).getD (.int .i64 0) = .int .i64 (if (fun g => isW l (kq g a a.length) f most) (bits o) = true then 1 else -1) := by rw [hm2, mget_mset, if_pos rfl]; show Value.int IntKind.i64 1 = Value.int IntKind.i64 (if isW l (kq (bits o) a (a.length)) f most = true then 1 else -1); rw [hw]; rfl
 refine zE 0 [0, 1] ?_
 refine zL 2 ?_
 refine zR 1 ?_
 refine go_val0 rfl (lookup_val (m := m2) (n := (o : Int)) (c := false) (v := (mget m2 (o : Int)).getD (.int .i64 0)) Tk rfl rfl rfl rfl rfl rfl zM rfl) rfl ?_
 refine go_re 58 (.int .i64 (if (fun g => isW l (kq g a a.length) f most) (bits o) = true then 1 else -1)) (by show some _ = _; rw [hg2]) ?_
 refine zT 3 rfl ⟨m2, hK2, congrArg Value.bool sgn_pos, rfl, rfl⟩
theorem impBegin (l : List Cl) (LA : Option Addr) (lc : Nat) (gl : ∀ c ∈ l, c.ok) (a : List Fa) (A : Option Addr) (k : Nat) (f : Fa) (FA : Option Addr) (fk : Nat) (most : Int) (gaf : ∀ x ∈ a, x.ok ∧ x.a.length ≤ 100000) (hm : most ≤ 100) (hfl : a.length ≤ 60) (hbg : ∀ c ∈ l, ∀ (F R N : List Fa) (new : Bool), (F.length : Int) ≤ most → (goL c F R N c.b ch0 new).length ≤ 50000000) :
    Spec Tryz.prog 36 #[.slice LA l.length lc, .slice A a.length k, .agg #[.int .u32 f.p, .slice FA f.a.length fk], .int .i64 most] [sl tCl LA lc l, sl tFa A k a, sl tU FA fk f.a] [] (fun v Ps' Os' => ∃ e fv, AskR l a f most e ∧ v = .tuple #[fv, .int .i64 e] ∧ ((e ≠ 0 ∧ fv = .nilFunc ∧ Ps' = [] ∧ Os' = []) ∨ (e = 0 ∧ ∃ bM bF bL bO bQ bm, fv = .func (.func 82) #[] #[.pointer (some ⟨bM, 0, none⟩), .pointer (some ⟨bF, 0, none⟩), .pointer (some ⟨bL, 0, none⟩), .pointer (some ⟨bO, 0, none⟩), .pointer (some ⟨bQ, 0, none⟩)] ∧ Ps' = [cl bM 0 [.map (some bm)], cl bF 0 [.slice A a.length k], cl bL 0 [.slice LA l.length lc], cl bO 0 [.int .i64 most], cl bQ 0 [.int .u32 f.p, .slice FA f.a.length fk]] ∧ Os' = [mapO bm .u64 []]))) := by
 refine zSp _ Tryz.func36 Tryz.ntmps36 (fun _ _ _ => ?_)
 refine zX 2 ?_
 intro bq
 refine go_freeze_pt (b := bq) zM ?_
 refine zD 10 ?_ ?_
 ·intro g0
  exfalso; omega
 intro g0
 refine zC 6 (modelOf l LA lc a A k most gl gaf (by omega) (by omega) hbg) ?_
 rintro _ _ _ ⟨A1, k1, r1, e1, hM1, rfl, rfl, rfl⟩
 refine zE 6 [0, 1, 3, 6, 10, 11] ?_
 refine zB 8 ?_ ?_
 ·intro g1
  (try simp only [dcs, ne_eq] at g1)
  refine zT 6 rfl ⟨e1, .nilFunc, ⟨r1, e1, hM1, by rw [if_neg g1]⟩, rfl, .inl ⟨g1, rfl, rfl, rfl⟩⟩
 intro g1
 (try simp only [dcs, ne_eq] at g1)
 refine zL 3 ?_
 refine zC3 0 (queryIs A1 k1 (r1.getD []) f FA fk) ?_
 refine zB 3 ?_ ?_
 ·intro g2
  (try simp only [dcs, ne_eq] at g2)
  refine zE 5 [8, 9] ?_
  refine zT 0 rfl ⟨4, .nilFunc, ⟨r1, e1, hM1, by rw [if_pos g1, if_neg g2]⟩, rfl, .inl ⟨by decide, rfl, rfl, rfl⟩⟩
 intro g2
 (try simp only [dcs, ne_eq] at g2)
 refine zL 6 ?_
 refine zC 1 (impAsker l LA lc gl a A k f FA fk most) ?_
 rintro _ _ _ ⟨bM, bF, bL, bO, bQ, bm, rfl, rfl, rfl⟩
 refine zE 3 [8, 9] ?_
 refine zT 0 rfl ⟨0, _, ⟨r1, e1, hM1, by rw [if_pos g1, if_pos g2]⟩, rfl, .inr ⟨rfl, bM, bF, bL, bO, bQ, bm, rfl, rfl, rfl⟩⟩
theorem impRest (l : List Cl) (LA : Option Addr) (lc : Nat) (gl : ∀ c ∈ l, c.ok) (a : List Fa) (A : Option Addr) (k : Nat) (f : Fa) (FA : Option Addr) (fk : Nat) (most : Int) (gaf : ∀ x ∈ a, x.ok ∧ x.a.length ≤ 100000) (hm : most ≤ 100) (hfl : a.length ≤ 60) (hbg : ∀ c ∈ l, ∀ (F R N : List Fa) (new : Bool), (F.length : Int) ≤ most → (goL c F R N c.b ch0 new).length ≤ 50000000) :
    Spec Tryz.prog 12 #[.slice LA l.length lc, .slice A a.length k, .agg #[.int .u32 f.p, .slice FA f.a.length fk], .int .i64 most] [sl tCl LA lc l, sl tFa A k a, sl tU FA fk f.a] [] (fun v Ps' Os' => ∃ A' c' e, AskR l a f most e ∧ v = .tuple #[.slice A' (if e = 0 then cs (restL (fun g => isW l (kq g a a.length) f most) a.length) else []).length c', .int .i64 e] ∧ Ps' = [sl tI A' c' (if e = 0 then cs (restL (fun g => isW l (kq g a a.length) f most) a.length) else [])] ∧ Os' = []) := by
 refine zSp _ Tryz.func12 Tryz.ntmps12 (fun _ _ _ => ?_)
 refine zX 2 ?_
 intro bq
 refine go_freeze_pt (b := bq) zM ?_
 refine zL 7 ?_
 refine zC 1 (impBegin l LA lc gl a A k f FA fk most gaf hm hfl hbg) ?_
 rintro _ _ _ ⟨e, fv, hE, rfl, ⟨g1, rfl, rfl, rfl⟩ | ⟨rfl, bM, bF, bL, bO, bQ, bm, rfl, rfl, rfl⟩⟩
 ·skip
  refine zE 6 [1, 10, 11] ?_
  refine zR 5 ?_
  refine go_re 23 (.bool true) (by show some (Value.bool _) = _; rw [decide_eq_false g1]; rfl) ?_
  refine zDt 1 ?_
  refine zR 1 ?_
  refine go_sl_nil tI ?_
  refine zT 5 rfl ⟨none, 0, e, hE, by rw [if_neg g1]; rfl, by rw [if_neg g1], rfl⟩
 refine zE 6 [1, 10, 11] ?_
 refine zR 5 ?_
 refine go_re 23 (.bool false) (by show some (Value.bool _) = _; rfl) ?_
 refine zDf 1 ?_
 refine zR 2 ?_
 refine go_len (xs := a) zM (fun la ma => ?_)
 refine go_own_nil tI 3 none ?_
 refine go_same (B := ol tI 3 none 0 (cs (restL (fun g => isW l (kq g a a.length) f most) (0)))) .here (by rfl) ?_
 refine zR 11 ?_
 refine zO (X := Nat × Option Addr × Nat × List (Int × Value)) (fun x => [(12, .slice x.2.1 (cs (restL (fun g => isW l (kq g a a.length) f most) (x.1))).length x.2.2.1), (27, .int .i64 (x.1 : Int))]) [10, 26] (fun x => [ol tI 3 x.2.1 x.2.2.1 (cs (restL (fun g => isW l (kq g a a.length) f most) (x.1))), mapO bm .u64 x.2.2.2]) (fun x => x.1 ≤ a.length ∧ Kn (fun g => isW l (kq g a a.length) f most) x.2.2.2) (fun x => a.length - x.1) (0, none, 0, []) ⟨Nat.zero_le _, Kn.nil _⟩ ?_
 intro ⟨i, A3, c3, m⟩ ⟨hi, hk⟩
 simp only at hi hk ⊢
 have hsl := restL_len (fun g => isW l (kq g a a.length) f most) i
 refine zD' 5 ?_ ?_
 ·intro hq1
  refine zR 2 ?_
  obtain rfl : i = a.length := by omega
  refine go_freeze_ol (xs := cs (restL (fun g => isW l (kq g a a.length) f most) (a.length))) zM ?_
  refine zT 5 rfl ⟨A3, c3, 0, hE, rfl, rfl, rfl⟩
 intro hq1
 refine zR 13 ?_
 refine go_re 32 (.int .u64 ((2 ^ i : Nat) : Int)) (by show some (Value.int _ _) = _; exact congrArg (fun z : Int => some (Value.int IntKind.u64 z)) (one_bit (by omega))) ?_
 refine zC 0 (impAsk1 l LA lc gl a A k f FA fk most bM bF bL bO bQ bm (2 ^ i) m hk (Nat.pow_lt_pow_right (by decide) (by omega)) gaf hm hfl hbg) ?_
 rintro _ _ _ ⟨m2, hK2, rfl, rfl, rfl⟩
 rw [bits_one]
 refine zB' 2 ?_ ?_
 ·intro g3
  (try simp only [dcs, ne_eq] at g3)
  refine zR 6 ?_
  refine go_i64n 27 (i + 1) rfl ?_
  rw [restL_out (W := (fun g => isW l (kq g a a.length) f most)) g3]
  refine zz (i + 1, A3, c3, m2) (⟨by show i + 1 ≤ _; omega, hK2⟩) (by show _ - (i + 1) < _ - i; omega)
 intro g3
 (try simp only [dcs, ne_eq] at g3)
 refine zV 3 ?_
 intro b1
 refine go_append1 (T := tI) (xs := cs (restL (fun g => isW l (kq g a a.length) f most) (i))) Tk ((i : Int)) rfl rfl rfl rfl rfl rfl rfl rfl rfl zM zM rfl ent_int (by omega) zH ?_
 intro A4 c4
 refine zE 2 [10, 12, 26, 27] ?_
 refine zR 5 ?_
 refine go_i64n 27 (i + 1) rfl ?_
 rw [restL_in (W := (fun g => isW l (kq g a a.length) f most)) g3]
 refine zz (i + 1, A4, c4, m2) (⟨by show i + 1 ≤ _; omega, hK2⟩) (by show _ - (i + 1) < _ - i; omega)
end Go.Proofs.YtmomkfedcmogmaaGreat.SL
namespace Go.Proofs.YtmomkfedcmogmaaGreat.SL
structure Yld2 (P : Program) (l : Nat) {α : Type} (enc enc2 : α → Value) (Px : List α → α → List PA) (R : List α → OA) : Prop where
  go : ∀ (pre : List α) (x : α) (w : World) (hp ho hf : Heap), Sat w hp ho (Px pre x) [R pre] → hf.le (hpOf w) → hf.dj hp → hf.dj ho →
    ∃ fn tmps assign body, (Instr.yield l #[enc x, enc2 x]).run P w = .ok (.round l fn tmps assign body) w ∧
      RoundIn Fence.wide 0 P l fn tmps assign body w (fun e w' => ∃ hp' ho', e = .returned (.bool true) ∧ Sat w' hp' ho' [] [R (pre ++ [x])] ∧ hp.le hp' ∧ hf.le (hpOf w') ∧ hf.dj hp' ∧ hf.dj ho' ∧ Rest w w')
section
variable {C : Ctx} {k : List It} {E : Env} {Ps : List PA} {Os : List OA}
variable {o : Oper} {ops : Array Oper} {S : World → Prop} {r : Pl} {f : Bool}
theorem go_yieldB {α : Type} {enc enc2 : α → Value} {Px : List α → α → List PA} {R : List α → OA} {l : Nat} (hy : Yld2 C.P l enc enc2 Px R) (pre : List α) (x : α) {fx ax bx : Operand} {tys : Array TypeId} {rr : List OA} (ho : o.op = .call ⟨.value fx, #[ax, bx], tys⟩) (hw : wants ops E o = some true)
    (hfx : ev E fx = some (.func (.yield l) #[] #[])) (hax : ev E ax = some (enc x)) (hbx : ev E bx = some (enc2 x)) (hd : okDst C.N o.dst = true) (hP : Subs Ps (Px pre x)) (hO : Takes Os [R pre] rr)
    (g : Go C (.ops ops S r :: k) (setE o.dst (.bool true) E) Ps (R (pre ++ [x]) :: rr)) : Go C (.ops ops S (.yld o r) :: k) E Ps Os := fun a w hp ho' hf hs hb => by
  show rwp _ _ _ _ _ _ _
  rw [rwp, if_pos (wants_eq hf hw)]
  obtain ⟨h1, h2, a1, b1, c1, d1, e1⟩ := Sep.takes hO hs.os
  obtain ⟨fn, tmps, assign, body, hrun, hround⟩ := hy.go pre x w hp h1 (C.hf.add h2) ⟨hs.inp, a1.tr hs.ino, Heap.dj_le hs.dj (Heap.le_refl _) a1, (hs.ents hP.ents).ps, d1⟩ (Heap.add_le hb.hf (b1.tr hs.ino))
    (Heap.add_dj hb.djp (Heap.dj_symm (Heap.dj_le hs.dj (Heap.le_refl _) b1))) (Heap.add_dj (Heap.dj_le hb.djo (Heap.le_refl _) a1) (Heap.dj_symm c1))
  have hex : (execOp a.eval o).run C.P w = .ok (.round l fn tmps assign body) w := by
    simp [execOp, ho, resolve, hf.ev hfx, hf.ev hax, hf.ev hbx, Deferred.ofValue, invoke, hrun]
  refine ⟨fun _ _ => trivial, ?_⟩
  rw [show Fence.wide.round = none from rfl, Oper.semAt_none, hex, Oper.uponIn_round]
  refine ⟨fun h => by simp [Fence.wide] at h, hround.mono ?_⟩
  rintro e w' ⟨hp', ho2, rfl, hs', hle, hfl, djp, djo, hrest⟩
  have dfo : C.hf.dj h2 := Heap.dj_le hb.djo (Heap.le_refl _) b1
  have l2 : h2.le (C.hf.add h2) := Heap.le_add_right dfo
  have dA : ho2.dj h2 := Heap.dj_symm (Heap.dj_le djo l2 (Heap.le_refl _))
  have dB : hp'.dj h2 := Heap.dj_symm (Heap.dj_le djp l2 (Heap.le_refl _))
  have sat : Sat w' hp' (ho2.add h2) Ps ([R (pre ++ [x])] ++ rr) := ⟨hs'.inp, Heap.add_le hs'.ino (l2.tr hfl), Heap.dj_symm (Heap.add_dj (Heap.dj_symm hs'.dj) (Heap.dj_symm dB)),
    fun p hp0 => p.up hle (hs.ps p hp0), Sep.app (Heap.le_add_left _ _) (Heap.le_add_right dA) dA hs'.os (Sep.up hle e1)⟩
  have base : Base C w' hp' (ho2.add h2) := ⟨hb.hp0.tr hle, (Heap.le_add_left _ _).tr hfl, Heap.dj_le djp (Heap.le_add_left _ _) (Heap.le_refl _),
    Heap.dj_symm (Heap.add_dj (Heap.dj_symm (Heap.dj_le djo (Heap.le_add_left _ _) (Heap.le_refl _))) (Heap.dj_symm dfo)), hb.rest.trans hrest⟩
  exact g _ w' hp' _ (hf.put hd (.bool true)) sat base
end
section
variable {C : Ctx} {k : List It} {E : Env} {Ps : List PA} {Os : List OA}
theorem rounds2 {P : Program} {n l t u : Nat} {α : Type} {enc enc2 : α → Value} {Px : List α → α → List PA} {assign body : Code} {tmps : Array Value} {fn : FuncId} {D : Nat} (O : List α → List OA) (hN : tmps.size = n) (ht : Nat.blt t n = true) (hu : Nat.blt u n = true) (hE : ∀ d v, look E d = some v → tmps[d]? = some v)
    {X : Type} (chg : X → Env) (rest : Env) (O1 : List α → α → X → List OA) (J : List α → α → X → Prop)
    (ha : ∀ pre x w0 hp0 hf0, Go (rc P n l w0 hp0 hf0) [.code assign, .back (Bk (rc P n l w0 hp0 hf0) chg rest (fun _ => Px pre x ++ Ps) (O1 pre x) (J pre x) (fun _ => 0) 1)] ((u, enc2 x) :: (t, enc x) :: E) (Px pre x ++ Ps) (O pre))
    (hb : ∀ pre x y, J pre x y → ∀ w0 hp0 hf0, Go (rc P n l w0 hp0 hf0) [.code body, .back (Bk (rc P n l w0 hp0 hf0) (fun _ : Unit => []) [] (fun _ => Ps) (fun _ => O (pre ++ [x])) (fun _ => True) (fun _ => 0) 1)] (chg y ++ rest) (Px pre x ++ Ps) (O1 pre x y)) :
    Yld2 P l enc enc2 Px (fun pre => loopA Ps l { state := .ready, pending := none, fn, tmps, params := #[t, u], assign, body, defers := D } (O pre)) := ⟨fun pre x w hp ho hf hs hfw d1 d2 => by
  generalize hrec : ({ state := .ready, pending := none, fn, tmps, params := #[t, u], assign, body, defers := D } : Loop) = rec at *
  obtain ⟨g1, _, la, _, _, ⟨hps, h2, lb, lr, dr, sO⟩, _⟩ := hs.os
  have lro : (Heap.one l (.loop rec)).le ho := lr.tr la
  have hl : w.heap[l]? = some (.loop rec) := hs.ino _ _ (lro _ _ (one_at _ _))
  have hyr := run_yield (P := P) (args := #[enc x, enc2 x]) hl (by rw [← hrec]; rfl)
  refine ⟨_, _, _, _, hyr, ?_⟩
  have dfr : hf.dj (Heap.one l (.loop rec)) := Heap.dj_le d2 (Heap.le_refl _) lro
  have dpr : hp.dj (Heap.one l (.loop rec)) := Heap.dj_le hs.dj (Heap.le_refl _) lro
  have lO : h2.le ho := lb.tr la
  have fl : hf l = none := by
    rcases dfr l with q | q
    · exact q
    · rw [one_at] at q; cases q
  refine roundIn_of_wpIn (F := Fence.wide) (n := 0) trivial ?_
  have hfit : Fits ⟨n, []⟩ ((u, enc2 x) :: (t, enc x) :: E) { tmps := (rec.params.zip #[enc x, enc2 x]).foldl (fun tmps (t, a) => tmps.setIfInBounds t a) rec.tmps, defers := [] } := by
    have hz : (rec.params.zip #[enc x, enc2 x]).foldl (fun tmps (t, a) => tmps.setIfInBounds t a) rec.tmps = (tmps.setIfInBounds t (enc x)).setIfInBounds u (enc2 x) := by rw [← hrec]; simp
    rw [hz]
    have f0 : Fits ⟨n, []⟩ E { tmps := tmps, defers := [] } := ⟨hN, rfl, hE⟩
    exact (f0.put (d := some t) ht (enc x)).put (d := some u) hu (enc2 x)
  have hpx : ∀ p, p ∈ Px pre x ++ Ps → p.p hp := fun p hm => by
    rcases List.mem_append.1 hm with q | q
    · exact hs.ps p q
    · exact hps p q
  have sat1 : Sat w hp h2 (Px pre x ++ Ps) (O pre) := ⟨hs.inp, lO.tr hs.ino, Heap.dj_le hs.dj (Heap.le_refl _) lO, hpx, sO⟩
  have hfr : (hf.add (Heap.one l (.loop rec))).le (hpOf w) := Heap.add_le hfw (lro.tr hs.ino)
  have base1 : Base (rc P n l w hp (hf.add (Heap.one l (.loop rec)))) w hp h2 := ⟨Heap.le_refl _, hfr, Heap.add_dj d1 (Heap.dj_symm dpr), Heap.add_dj (Heap.dj_le d2 (Heap.le_refl _) lO) dr, .refl _⟩
  have step1 := ha pre x w hp (hf.add (Heap.one l (.loop rec))) _ w hp h2 hfit sat1 base1
  rw [show rec.assign = assign from by rw [← hrec], show rec.body = body from by rw [← hrec]]
  refine wpIn_mono (show assign.wpIn (Fence.wide.inRound l) 0 P _ _ w from step1) fun e a1 w1 q => ?_
  cases e with
  | normal =>
    obtain ⟨y, hp1, ho1, f1, s1, b1, j1, _⟩ := q
    have hl1 : w1.heap[l]? = some (.loop rec) := b1.hf _ _ (Heap.le_add_right dfr _ _ (one_at _ _))
    refine ⟨_, run_beginRound hl1 (by rw [← hrec]), ?_⟩
    have r1 : (Heap.one l (.loop rec)).dj hp1 := Heap.dj_le b1.djp (Heap.le_add_right dfr) (Heap.le_refl _)
    have r2 : (Heap.one l (.loop rec)).dj ho1 := Heap.dj_le b1.djo (Heap.le_add_right dfr) (Heap.le_refl _)
    have r3 : hf.dj hp1 := Heap.dj_le b1.djp (Heap.le_add_left _ _) (Heap.le_refl _)
    have r4 : hf.dj ho1 := Heap.dj_le b1.djo (Heap.le_add_left _ _) (Heap.le_refl _)
    have dfb : ∀ o', hf.dj (Heap.one l o') := fun o' => Heap.dj_symm (dj_one (Heap.dj_symm dfr))
    have step2 := hb pre x y j1 (w1.putObj l (.loop { rec with state := .busy })) hp1 (hf.add (Heap.one l (.loop { rec with state := .busy }))) a1 _ hp1 ho1 f1
      ⟨put_le s1.inp (dj_at r1 (one_at _ _)), put_le s1.ino (dj_at r2 (one_at _ _)), s1.dj, s1.ps, s1.os⟩
      ⟨Heap.le_refl _, Heap.add_le (put_le ((Heap.le_add_left _ _).tr b1.hf) fl) (put_one hl1), Heap.add_dj r3 (dj_one r1), Heap.add_dj r4 (dj_one r2), .refl _⟩
    refine wpIn_mono (show body.wpIn (Fence.wide.inRound l) 0 P _ _ _ from step2) fun e2 a2 w3 q2 => ?_
    cases e2 with
    | normal =>
      obtain ⟨_, hp3, ho3, f3, s3, b3, _, _⟩ := q2
      have hl3 : w3.heap[l]? = some (.loop { rec with state := .busy }) := b3.hf _ _ (Heap.le_add_right (dfb _) _ _ (one_at _ _))
      have he := run_endRound (P := P) none hl3
      have hrr : ({ { rec with state := LoopState.busy } with state := if (none : Option Code).isNone then LoopState.ready else LoopState.done, pending := none } : Loop) = rec := by rw [← hrec]; rfl
      rw [hrr] at he
      refine ⟨_, _, he, ?_⟩
      have t1 : (Heap.one l (.loop { rec with state := .busy })).dj hp3 := Heap.dj_le b3.djp (Heap.le_add_right (dfb _)) (Heap.le_refl _)
      have t2 : (Heap.one l (.loop { rec with state := .busy })).dj ho3 := Heap.dj_le b3.djo (Heap.le_add_right (dfb _)) (Heap.le_refl _)
      have t3 : hf.dj hp3 := Heap.dj_le b3.djp (Heap.le_add_left _ _) (Heap.le_refl _)
      have t4 : hf.dj ho3 := Heap.dj_le b3.djo (Heap.le_add_left _ _) (Heap.le_refl _)
      have dN : (Heap.one l (.loop rec)).dj ho3 := dj_one t2
      refine ⟨hp3, (Heap.one l (.loop rec)).add ho3, rfl, ⟨put_le s3.inp (dj_at t1 (one_at _ _)), Heap.add_le (put_one hl3) (put_le s3.ino (dj_at t2 (one_at _ _))), Heap.dj_symm (Heap.add_dj (dj_one t1) (Heap.dj_symm s3.dj)), (fun _ h => nomatch h),
          sep_one ⟨s3.ps, ho3, Heap.le_add_right dN, Heap.le_add_left _ _, dN, s3.os⟩⟩, b1.hp0.tr b3.hp0, put_le ((Heap.le_add_left _ _).tr b3.hf) fl, t3, Heap.dj_symm (Heap.add_dj (Heap.dj_symm (dfb _)) (Heap.dj_symm t4)),
          (b1.rest.trans put_rest).trans (b3.rest.trans put_rest)⟩
    | exit i => exact q2.elim
    | goto i => exact q2.elim
    | ret => exact q2.elim
    | panic c => exact q2.elim
    | outgrown => exact q2.elim
  | exit i => exact q.elim
  | goto i => exact q.elim
  | ret => exact q.elim
  | panic c => exact q.elim
  | outgrown => exact q.elim⟩
theorem go_range2 {α : Type} {enc enc2 : α → Value} {Px : List α → α → List PA} {g : Operand} {t u : Nat} {assign body : Code} {gf : FuncId} {first cap : Array Value} (hro : C.ro = none) (hg : ev E g = some (.func (.func gf) first cap)) (ht : Nat.blt t C.N.n = true) (hu : Nat.blt u C.N.n = true)
    (O : List α → List OA) (OsI OsI' : List OA) {r1 rr : List OA} (hO1 : Takes Os OsI r1) (hO2 : Takes r1 (O []) rr) (PsI : List PA) (hP : Subs Ps PsI) (Sx : List α → Prop)
    (hseq : ∀ (l : Nat) (R : List α → OA), Yld2 C.P l enc enc2 Px R → Spec C.P gf (first ++ #[.func (.yield l) #[] #[]] ++ cap) PsI (R [] :: OsI) (fun v Ps' Os' => ∃ xs, Sx xs ∧ Ps' = [] ∧ Os' = R xs :: OsI'))
    {X : Type} (chg : X → Env) (rest : Env) (O1 : List α → α → X → List OA) (J : List α → α → X → Prop)
    (ha : ∀ l pre x w0 hp0 hf0, Go (rc C.P C.N.n l w0 hp0 hf0) [.code assign, .back (Bk (rc C.P C.N.n l w0 hp0 hf0) chg rest (fun _ => Px pre x ++ Ps) (O1 pre x) (J pre x) (fun _ => 0) 1)] ((u, enc2 x) :: (t, enc x) :: E) (Px pre x ++ Ps) (O pre))
    (hb : ∀ l pre x y, J pre x y → ∀ w0 hp0 hf0, Go (rc C.P C.N.n l w0 hp0 hf0) [.code body, .back (Bk (rc C.P C.N.n l w0 hp0 hf0) (fun _ : Unit => []) [] (fun _ => Ps) (fun _ => O (pre ++ [x])) (fun _ => True) (fun _ => 0) 1)] (chg y ++ rest) (Px pre x ++ Ps) (O1 pre x y))
    (done : ∀ D xs, C.hf.dj (Heap.one D (.deferred (some []))) → Sx xs → Go (after C D) k E Ps (OsI' ++ (O xs ++ rr))) : Go C (.code (.rangeFunc g #[t, u] assign body) :: k) E Ps Os := by
  obtain ⟨P, fn, N, ro, w0, hp0, hf0, Q, fin, pan, out⟩ := C
  cases hro
  intro a w hp ho hf hs hb'
  obtain ⟨hI, hr1, aI, ar1, dI, sI, sr1⟩ := Sep.takes hO1 hs.os
  obtain ⟨hO, hR, aO, aR, dO, sO, sR⟩ := Sep.takes hO2 sr1
  show (Code.rangeFunc g #[t, u] assign body).wpIn Fence.wide 0 P (den none P fin k) a w
  refine wpIn_rangeFunc fun fnid _ => ?_
  generalize hrec : ({ state := .ready, pending := none, fn := fnid, tmps := a.tmps, params := #[t, u], assign, body, defers := w.heap.size } : Loop) = rec
  have hY := rounds2 (Ps := Ps) (E := E) (Px := Px) (P := P) (n := N.n) (l := w.heap.size + 1) (t := t) (u := u) (enc := enc) (enc2 := enc2) (assign := assign) (body := body) (tmps := a.tmps) (fn := fnid) (D := w.heap.size) O hf.size ht hu hf.at_ chg rest O1 J (ha _) (hb _)
  rw [hrec] at hY
  have hsp := hseq (w.heap.size + 1) _ hY
  obtain ⟨fd, q1, q2, q3⟩ := hsp.fn
  have hres : (resolve a.eval (rangeCall g (w.heap.size + 1)) 0).run P ((w.alloc (.deferred (some []))).alloc (.loop rec)) = .ok { target := .fn (.func gf) cap, args := first ++ #[.func (.yield (w.heap.size + 1)) #[] #[]] } ((w.alloc (.deferred (some []))).alloc (.loop rec)) := by
    have hg' : a.eval g = .func (.func gf) first cap := hf.ev hg
    show (Deferred.ofValue (a.eval g) (#[Operand.const (.func (.yield (w.heap.size + 1)) #[] #[])].map a.eval)).run P _ = _
    rw [hg']
    simp [Deferred.ofValue, Act.eval]
  have hinv : (invoke (.fn (.func gf) cap) (first ++ #[.func (.yield (w.heap.size + 1)) #[] #[]])).run P ((w.alloc (.deferred (some []))).alloc (.loop rec)) = .ok (.enter gf (first ++ #[.func (.yield (w.heap.size + 1)) #[] #[]] ++ cap)) ((w.alloc (.deferred (some []))).alloc (.loop rec)) := by
    simp only [invoke, callFunc, program, bind, Sem.bind, Sem.run, q1, q2, q3]
    simp only [Bool.false_eq_true, if_false]
    rfl
  refine ⟨_, _, _, _, _, gf, _, _, by have := run_enterLoop_outer (P := P) (w := w) fnid a.tmps #[t, u] assign body; rw [hrec] at this; exact this, hres, fun _ _ => trivial, hinv, fun h => by simp [Fence.wide] at h, ?_⟩
  have hwsz : ((w.alloc (.deferred (some []))).alloc (.loop rec)).heap = (w.heap.push (.deferred (some []))).push (.loop rec) := rfl
  have fresh : ∀ h : Heap, h.le (hpOf w) → ∀ b, w.heap.size ≤ b → h b = none := fun h hl b hb => by
    cases e : h b with
    | none => rfl
    | some u => have := hl _ _ e; simp [hpOf] at this; have := (Array.getElem?_eq_some_iff.1 this).1; omega
  have grow : (hpOf w).le (hpOf ((w.alloc (.deferred (some []))).alloc (.loop rec))) := fun b u e => by
    have hlt : b < w.heap.size := (Array.getElem?_eq_some_iff.1 e).1
    simp only [hpOf, hwsz] at e ⊢
    rw [Array.getElem?_push_lt (by simp; omega)]
    simp only [Option.some.injEq]
    rw [Array.getElem_push_lt hlt]
    exact (Array.getElem?_eq_some_iff.1 e).2
  have hD : ((w.alloc (.deferred (some []))).alloc (.loop rec)).heap[w.heap.size]? = some (.deferred (some [])) := by
    rw [hwsz, Array.getElem?_push, Array.getElem?_push]; simp
  have hL : ((w.alloc (.deferred (some []))).alloc (.loop rec)).heap[w.heap.size + 1]? = some (.loop rec) := by
    rw [hwsz, Array.getElem?_push, if_pos (by simp)]
  have oneD : (Heap.one w.heap.size (.deferred (some []))).le (hpOf ((w.alloc (.deferred (some []))).alloc (.loop rec))) := Heap.one_le hD
  have oneL : (Heap.one (w.heap.size + 1) (.loop rec)).le (hpOf ((w.alloc (.deferred (some []))).alloc (.loop rec))) := Heap.one_le hL
  have djD : ∀ h : Heap, h.le (hpOf w) → (Heap.one w.heap.size (.deferred (some []))).dj h := fun h hl => Heap.one_dj (fresh h hl _ (Nat.le_refl _))
  have djL : ∀ h : Heap, h.le (hpOf w) → ∀ o', (Heap.one (w.heap.size + 1) o').dj h := fun h hl o' => Heap.one_dj (fresh h hl _ (by omega))
  have djDL : ∀ o', (Heap.one w.heap.size (.deferred (some []))).dj (Heap.one (w.heap.size + 1) o') := fun o' => Heap.one_dj (by simp [Heap.one])
  have hr0 : Rest w ((w.alloc (.deferred (some []))).alloc (.loop rec)) := ⟨rfl, rfl, rfl, Nat.le_refl _, by rw [hwsz]; simp; omega⟩
  have lI : hI.le (hpOf w) := aI.tr hs.ino
  have lr1 : hr1.le (hpOf w) := ar1.tr hs.ino
  have lO : hO.le (hpOf w) := aO.tr lr1
  have lR : hR.le (hpOf w) := aR.tr lr1
  -- the owned of the call: the record, the body's, the iterator's
  have dLO : (Heap.one (w.heap.size + 1) (.loop rec)).dj hO := djL _ lO _
  have dIO : hI.dj hO := Heap.dj_le dI (Heap.le_refl _) aO
  have dIR : hI.dj hR := Heap.dj_le dI (Heap.le_refl _) aR
  have dX : ((Heap.one (w.heap.size + 1) (.loop rec)).add hO).dj hI := Heap.add_dj (djL _ lI _) (Heap.dj_symm dIO)
  have dpO : hp.dj hO := Heap.dj_le hs.dj (Heap.le_refl _) (aO.tr ar1)
  have dpI : hp.dj hI := Heap.dj_le hs.dj (Heap.le_refl _) aI
  have dpR : hp.dj hR := Heap.dj_le hs.dj (Heap.le_refl _) (aR.tr ar1)
  have satI : Sat ((w.alloc (.deferred (some []))).alloc (.loop rec)) hp (((Heap.one (w.heap.size + 1) (.loop rec)).add hO).add hI) PsI (loopA Ps (w.heap.size + 1) rec (O []) :: OsI) :=
    ⟨hs.inp.tr grow, Heap.add_le (Heap.add_le oneL (lO.tr grow)) (lI.tr grow), Heap.dj_symm (Heap.add_dj (Heap.add_dj (djL _ hs.inp _) (Heap.dj_symm dpO)) (Heap.dj_symm dpI)), (hs.ents hP.ents).ps,
      (Heap.one (w.heap.size + 1) (.loop rec)).add hO, hI, Heap.le_add_left _ _, Heap.le_add_right dX, dX, ⟨hs.ps, hO, Heap.le_add_right dLO, Heap.le_add_left _ _, dLO, sO⟩, sI⟩
  have fI : hf0.dj hI := Heap.dj_le hb'.djo (Heap.le_refl _) aI
  have fO : hf0.dj hO := Heap.dj_le hb'.djo (Heap.le_refl _) (aO.tr ar1)
  have fR : hf0.dj hR := Heap.dj_le hb'.djo (Heap.le_refl _) (aR.tr ar1)
  have hfw : hf0.le (hpOf w) := hb'.hf
  -- the frame of the call
  have dFD : (hf0.add hR).dj (Heap.one w.heap.size (.deferred (some []))) := Heap.dj_symm (Heap.dj_symm (Heap.add_dj (Heap.dj_symm (djD _ hfw)) (Heap.dj_symm (djD _ lR))))
  have frame : ((hf0.add hR).add (Heap.one w.heap.size (.deferred (some [])))).le (hpOf ((w.alloc (.deferred (some []))).alloc (.loop rec))) := Heap.add_le (Heap.add_le (hfw.tr grow) (lR.tr grow)) oneD
  have fdp : ((hf0.add hR).add (Heap.one w.heap.size (.deferred (some [])))).dj hp := Heap.add_dj (Heap.add_dj hb'.djp (Heap.dj_symm dpR)) (djD _ hs.inp)
  have fdo : ((hf0.add hR).add (Heap.one w.heap.size (.deferred (some [])))).dj (((Heap.one (w.heap.size + 1) (.loop rec)).add hO).add hI) :=
    Heap.dj_symm (Heap.add_dj (Heap.add_dj (Heap.dj_symm (Heap.add_dj (Heap.add_dj (Heap.dj_symm (djL _ hfw _)) (Heap.dj_symm (djL _ lR _))) (djDL _))) (Heap.dj_symm (Heap.add_dj (Heap.add_dj fO (Heap.dj_symm dO)) (djD _ lO)))) (Heap.dj_symm (Heap.add_dj (Heap.add_dj fI (Heap.dj_symm dIR)) (djD _ lI))))
  refine (callsIn_wide.2 (hsp.calls _ hp _ _ satI frame fdp fdo)).mono ?_
  rintro e w3 ⟨v, hp3, ho3, Ps3, Os3, rfl, ⟨xs, hxs, rfl, rfl⟩, hs3, hle3, hfl3, e1, e2, hr3⟩
  obtain ⟨gA, gI, mA, mI, dAI, ⟨hps3, gO, mO, mL, dLO3, sO3⟩, sI3⟩ := hs3.os
  have mLo : (Heap.one (w.heap.size + 1) (.loop rec)).le ho3 := mL.tr mA
  have hl3 : w3.heap[w.heap.size + 1]? = some (.loop rec) := hs3.ino _ _ (mLo _ _ (one_at _ _))
  have hend := run_endLoop (P := P) hl3 (by rw [← hrec]; simp)
  refine ⟨_, _, hend, ?_⟩
  rw [show rec.pending = none from by rw [← hrec]]
  have lR3 : hR.le ((hf0.add hR).add (Heap.one w.heap.size (.deferred (some [])))) := (Heap.le_add_right fR).tr (Heap.le_add_left _ _)
  have lF3 : (hf0.add (Heap.one w.heap.size (.deferred (some [])))).le ((hf0.add hR).add (Heap.one w.heap.size (.deferred (some [])))) := Heap.add_le ((Heap.le_add_left _ _).tr (Heap.le_add_left _ _)) (Heap.le_add_right dFD)
  have dL3 : ∀ h : Heap, h.dj ho3 → h (w.heap.size + 1) = none := fun h d => by
    rcases d (w.heap.size + 1) with q | q
    · exact q
    · rw [mLo _ _ (one_at _ _)] at q; cases q
  have oA : gO.le ho3 := mO.tr mA
  have dOI : gI.dj gO := Heap.dj_symm (Heap.dj_le dAI mO (Heap.le_refl _))
  have dRx : hR.dj ho3 := Heap.dj_le e2 lR3 (Heap.le_refl _)
  have dOR : gO.dj hR := Heap.dj_symm (Heap.dj_le dRx (Heap.le_refl _) oA)
  have dIR3 : gI.dj hR := Heap.dj_symm (Heap.dj_le dRx (Heap.le_refl _) mI)
  have dI3 : gI.dj (gO.add hR) := Heap.dj_symm (Heap.add_dj (Heap.dj_symm dOI) (Heap.dj_symm dIR3))
  have nO : gO (w.heap.size + 1) = none := dj_at dLO3 (one_at _ _)
  have nI : gI (w.heap.size + 1) = none := by
    rcases dAI (w.heap.size + 1) with q | q
    · rw [mL _ _ (one_at _ _)] at q; cases q
    · exact q
  refine done w.heap.size xs (Heap.dj_symm (djD _ hfw)) hxs { a with defers := { target := .collected w.heap.size, args := #[] } :: a.defers } (w3.putObj (w.heap.size + 1) _) hp3 (gI.add (gO.add hR)) ⟨hf.size, by show _ :: a.defers = _ :: N.ds; rw [hf.dfs], hf.at_⟩ ?_ ?_
  · refine ⟨put_le hs3.inp (dL3 _ hs3.dj), Heap.add_le (put_le (mI.tr hs3.ino) nI) (Heap.add_le (put_le (oA.tr hs3.ino) nO) (put_le (lR3.tr hfl3) (dL3 _ dRx))), ?_, hps3, ?_⟩
    · exact Heap.dj_symm (Heap.add_dj (Heap.dj_symm (Heap.dj_le hs3.dj (Heap.le_refl _) mI)) (Heap.add_dj (Heap.dj_symm (Heap.dj_le hs3.dj (Heap.le_refl _) oA)) (Heap.dj_le e1 lR3 (Heap.le_refl _))))
    · exact Sep.app (Heap.le_add_left _ _) (Heap.le_add_right dI3) dI3 sI3 (Sep.app (Heap.le_add_left _ _) (Heap.le_add_right dOR) dOR sO3 (Sep.up hle3 sR))
  · have dF1 : (hf0.add (Heap.one w.heap.size (.deferred (some [])))).dj ho3 := Heap.dj_le e2 lF3 (Heap.le_refl _)
    refine ⟨hb'.hp0.tr hle3, put_le (lF3.tr hfl3) (dL3 _ dF1), Heap.dj_le e1 lF3 (Heap.le_refl _), ?_, ((hb'.rest.trans hr0).trans hr3).trans put_rest⟩
    refine Heap.dj_symm (Heap.add_dj (Heap.dj_symm (Heap.dj_le dF1 (Heap.le_refl _) mI)) (Heap.add_dj (Heap.dj_symm (Heap.dj_le dF1 (Heap.le_refl _) oA)) ?_))
    exact Heap.dj_symm (Heap.add_dj fR (djD _ lR))
end
end Go.Proofs.YtmomkfedcmogmaaGreat.SL
namespace Go.Proofs.YtmomkfedcmogmaaGreat.SL
open Go Md
theorem reverseI (A : Option Addr) (c : Nat) (l : List Int) (hn : l.length ≤ 1000000000) :
    Spec Tryz.prog 40 #[.slice A l.length c] [] [ol tI 3 A c (l)] (fun v Ps' Os' => v = .tuple #[] ∧ Ps' = [] ∧ Os' = [ol tI 3 A c (l.reverse)]) := by
 refine zSp _ Tryz.func40 Tryz.ntmps40 (fun _ _ _ => ?_)
 refine zR 1 ?_
 refine go_len_ol (xs := l) zM (fun l0 m0 => ?_)
 refine go_same (B := ol tI 3 A c (revP l 0)) .here (by rw [← revP_zero]) ?_
 refine zR 4 ?_
 refine zi 6 ?_
 refine zR 3 ?_
 refine go_re 3 (.int .i64 ((l.length : Int) - 1 - ((0 : Nat) : Int))) (congrArg (fun z : Int => some (Value.int IntKind.i64 z)) (show (l.length : Int) - 1 = (l.length : Int) - 1 - ((0 : Nat) : Int) by omega)) ?_
 refine zR 1 ?_
 refine zO (X := Nat) (fun x => [(2, .int .i64 (x : Int)), (3, .int .i64 ((l.length : Int) - 1 - (x : Int)))]) [0] (fun x => [ol tI 3 A c (revP l x)]) (fun x => x ≤ l.length) (fun x => l.length - x) 0 (Nat.zero_le _) ?_
 intro i hi
 have hrl := revP_len l i
 refine zD' 7 ?_ ?_
 ·intro g1
  refine go_same (B := ol tI 3 A c (l.reverse)) .here (by rw [revP_end (by omega)]) ?_
  refine zT 1 rfl ⟨rfl, rfl, rfl⟩
 intro g1
 refine zR 3 ?_
 refine go_ol_addr (xs := revP l i) zM (by omega) (fun bL hL => ?_); subst hL
 obtain ⟨jj, hjj⟩ : ∃ jj, jj = l.length - 1 - i := ⟨_, rfl⟩
 refine go_re 3 (.int .i64 ((jj : Int))) (congrArg (fun z : Int => some (Value.int IntKind.i64 z)) (show (l.length : Int) - 1 - (i : Int) = (jj : Int) by omega)) ?_
 refine zY 0 [1, 4, 7, 10, 13, 16, 19, 25, 28, 31, 23, 35, 37, 39, 43, 45] ?_
 refine zIn 6 jj ?_
 refine zIn 2 i ?_
 refine zLm 0 jj (revP l i) ?_
 refine zLm 0 i (revP l i) ?_
 refine zIn 0 i ?_
 refine zSE 0 (tInt .i64) (revP l i) i (gt0 (revP l i) jj) ent_int ?_
 refine zIn 0 jj ?_
 refine zSE 0 (tInt .i64) ((revP l i).set i (gt0 (revP l i) jj)) jj (gt0 (revP l i) i) ent_int ?_
 refine zE 1 [0, 2, 3] ?_
 refine zR 9 ?_
 refine go_i64n 2 (i + 1) rfl ?_
 refine zi 3 ?_
 refine go_re 3 (.int .i64 ((l.length : Int) - 1 - ((i + 1 : Nat) : Int))) (congrArg (fun z : Int => some (Value.int IntKind.i64 z)) (show (jj : Int) - 1 = (l.length : Int) - 1 - ((i + 1 : Nat) : Int) by omega)) ?_
 refine go_same (B := ol tI 3 (some ⟨bL, 0, none⟩) c (revP l (i + 1))) .here (by rw [hjj, revP_next (by omega)]) ?_
 refine zz (i + 1) (by omega) (by omega)
theorem backwardF (A : Option Addr) (n c : Nat) :
    Spec Tryz.prog 39 #[.slice A n c] [] [] (fun v Ps' Os' => ∃ bV, v = .func (.func 60) #[] #[.pointer (some ⟨bV, 0, none⟩)] ∧ Ps' = [cl bV 0 [.slice A n c]] ∧ Os' = []) := by
 refine zSp _ Tryz.func39 Tryz.ntmps39 (fun _ _ _ => ?_)
 refine zX 2 ?_
 intro bV
 refine zR 2 ?_
 refine go_freeze_pt (b := bV) zM ?_
 refine zT 5 rfl ⟨bV, rfl, rfl, rfl⟩
theorem backward1 (bV : Nat) (A : Option Addr) (c : Nat) (l : List Fa) (ly : Nat) (R : List (Nat × Value) → OA) (hY : Yld2 Tryz.prog ly (fun x : Nat × Value => Value.int .i64 (x.1 : Int)) (fun x : Nat × Value => x.2) (fun (pre : List (Nat × Value)) (x : Nat × Value) => [PA.and (pre.length < l.length ∧ x.1 = l.length - 1 - pre.length) PA.tt]) R) :
    Spec Tryz.prog 60 #[.func (.yield ly) #[] #[], .pointer (some ⟨bV, 0, none⟩)] [cl bV 0 [.slice A l.length c], sl tFa A c l] [R []] (fun v Ps' Os' => ∃ xs : List (Nat × Value), xs.length = l.length ∧ v = .tuple #[] ∧ Ps' = [] ∧ Os' = [R xs]) := by
 refine zSp _ Tryz.func60 Tryz.ntmps60 (fun _ _ _ => ?_)
 refine zR 1 ?_
 refine go_len (xs := l) zM (fun l0 m0 => ?_)
 refine zL 1 ?_
 refine zR 2 ?_
 refine zi 6 ?_
 refine zR 2 ?_
 refine go_re 3 (.int .i64 ((l.length : Int) - 1 - ((0 : Nat) : Int))) (congrArg (fun z : Int => some (Value.int IntKind.i64 z)) (show (l.length : Int) - 1 = (l.length : Int) - 1 - ((0 : Nat) : Int) by omega)) ?_
 refine zR 1 ?_
 refine zO (X := Nat × List (Nat × Value)) (fun x => [(3, .int .i64 ((l.length : Int) - 1 - (x.1 : Int)))]) [0, 1] (fun x => [R x.2]) (fun x => x.1 ≤ l.length ∧ x.2.length = x.1) (fun x => l.length - x.1) (0, []) ⟨Nat.zero_le _, rfl⟩ ?_
 intro ⟨k, pre⟩ ⟨hk, hpl⟩
 simp only at hk hpl ⊢
 refine zD' 6 ?_ ?_
 ·intro g1
  refine zT 1 rfl ⟨pre, by omega, rfl, rfl, rfl⟩
 intro g1
 refine zR 4 ?_
 obtain ⟨jj, hjj⟩ : ∃ jj, jj = l.length - 1 - k := ⟨_, rfl⟩
 refine go_re 3 (.int .i64 ((jj : Int))) (congrArg (fun z : Int => some (Value.int IntKind.i64 z)) (show (l.length : Int) - 1 - (k : Int) = (jj : Int) by omega)) ?_
 refine go_elem_fa (xs := l) zM (jj) (List.getElem?_eq_getElem (by omega)) (fun b0 o0 A0 c0 hA => ?_); cases hA
 refine go_ent (PA.and (pre.length < l.length ∧ jj = l.length - 1 - pre.length) PA.tt) (fun hh a => ⟨⟨by omega, by omega⟩, trivial⟩) ?_
 refine go_regionY [false, false, false, false, false, false, true] rfl ?_
 refine zL 2 ?_
 refine zI 1 ?_
 refine zL 0 ?_
 refine go_yieldB hY (pre) ((jj, .agg #[.int .u32 l[jj].p, .slice A0 l[jj].a.length c0])) rfl rfl rfl rfl rfl rfl zM zM ?_
 refine zR 1 ?_
 refine go_re 18 (.bool false) (by show some (Value.bool _) = _; rfl) ?_
 refine zDf 1 ?_
 refine zR 7 ?_
 refine zi 3 ?_
 refine go_re 3 (.int .i64 ((l.length : Int) - 1 - ((k + 1 : Nat) : Int))) (congrArg (fun z : Int => some (Value.int IntKind.i64 z)) (show (jj : Int) - 1 = (l.length : Int) - 1 - ((k + 1 : Nat) : Int) by omega)) ?_
 refine go_back (k + 1, _) zA zM zM (⟨by show k + 1 ≤ _; omega, by simp [hpl]⟩) (by show _ - (k + 1) < _ - k; omega)
set_option maxHeartbeats 8000000 in
theorem impKeys (l : List Cl) (LA : Option Addr) (lc : Nat) (gl : ∀ c ∈ l, c.ok) (a : List Fa) (A : Option Addr) (k : Nat) (f : Fa) (FA : Option Addr) (fk : Nat) (most : Int) (gaf : ∀ x ∈ a, x.ok ∧ x.a.length ≤ 100000) (hm : most ≤ 100) (hfl : a.length ≤ 60) (hbg : ∀ c ∈ l, ∀ (F R N : List Fa) (new : Bool), (F.length : Int) ≤ most → (goL c F R N c.b ch0 new).length ≤ 50000000) :
    Spec Tryz.prog 14 #[.slice LA l.length lc, .slice A a.length k, .agg #[.int .u32 f.p, .slice FA f.a.length fk], .int .i64 most] [sl tCl LA lc l, sl tFa A k a, sl tU FA fk f.a] [] (fun v Ps' Os' => ∃ A' c' e, AskR l a f most e ∧ v = .tuple #[.slice A' (if e = 0 then cs (keysP (fun g => isW l (kq g a a.length) f most) a.length a.length) else []).length c', .int .i64 e] ∧ Ps' = [sl tI A' c' (if e = 0 then cs (keysP (fun g => isW l (kq g a a.length) f most) a.length a.length) else [])] ∧ Os' = []) := by
 refine zSp _ Tryz.func14 Tryz.ntmps14 (fun _ _ _ => ?_)
 refine zX 2 ?_
 intro bq
 refine go_freeze_pt (b := bq) zM ?_
 refine zL 7 ?_
 refine zC 1 (impBegin l LA lc gl a A k f FA fk most gaf hm hfl hbg) ?_
 rintro _ _ _ ⟨e, fv, hE, rfl, ⟨g1, rfl, rfl, rfl⟩ | ⟨rfl, bM, bF, bL, bO, bQ, bm, rfl, rfl, rfl⟩⟩
 ·skip
  refine zW 3 ?_
  intro b10
  refine zS 0 ?_
  refine zE 2 [1, 10, 11] ?_
  refine zR 5 ?_
  refine go_re 24 (.bool true) (by show some (Value.bool _) = _; rw [decide_eq_false g1]; rfl) ?_
  refine zDt 1 ?_
  refine zR 1 ?_
  refine go_sl_nil tI ?_
  refine zT 5 rfl ⟨none, 0, e, hE, by rw [if_neg g1]; rfl, by rw [if_neg g1], rfl⟩
 refine zW 3 ?_
 intro b10
 refine zS 0 ?_
 refine zE 2 [1, 10, 11] ?_
 refine zR 5 ?_
 refine go_re 24 (.bool false) (by show some (Value.bool _) = _; rfl) ?_
 refine zDf 1 ?_
 refine zR 2 ?_
 refine go_freeze_pt (b := b10) zM ?_
 refine go_len (xs := a) zM (fun la ma => ?_)
 refine zW 1 ?_
 intro b12
 refine zW 3 ?_
 intro b13
 refine zR 3 ?_
 refine go_own_nil tI 3 none ?_
 refine go_fold [pt b13 36 [.slice none 0 0], ol tI 3 none 0 []] (ptI b13 36 3 (cs (outK (fun g => isW l (kq g a a.length) f most) a.length (0)))) zM (fun _ _ q => ⟨none, 0, q⟩) ?_
 refine go_fold [mapO bm .u64 []] (knO (fun g => isW l (kq g a a.length) f most) bm) zM (fun _ _ q => knO_mk (Kn.nil _) q) ?_
 refine go_same (A := pt b12 76 [.int .u64 0]) (B := pt b12 76 [.int .u64 ((goneN (fun g => isW l (kq g a a.length) f most) a.length (0) : Nat) : Int)]) zM (by rfl) ?_
 refine zC 2 (backwardF A a.length k) ?_
 rintro _ _ _ ⟨bV, rfl, rfl, rfl⟩
 refine zR 2 ?_
 refine go_range2 (α := Nat × Value) (enc := fun x : Nat × Value => Value.int .i64 (x.1 : Int)) (enc2 := fun x : Nat × Value => x.2) (Px := fun (pre : List (Nat × Value)) (x : Nat × Value) => [PA.and (pre.length < a.length ∧ x.1 = a.length - 1 - pre.length) PA.tt]) rfl rfl rfl rfl (fun D => [pt b12 76 [.int .u64 ((goneN (fun g => isW l (kq g a a.length) f most) a.length (D.length) : Nat) : Int)], ptI b13 36 3 (cs (outK (fun g => isW l (kq g a a.length) f most) a.length (D.length))), knO (fun g => isW l (kq g a a.length) f most) bm]) ([]) ([]) zM zM ([cl bV 0 [.slice A a.length k], sl tFa A k a]) zM (fun xs => xs.length = a.length) (fun ly R hY => (backward1 bV A k a ly R hY).imp fun v P' O' ⟨xs, h1, _, h3, h4⟩ => ⟨xs, h1, h3, h4⟩) (X := Nat) (fun y => [(14, .int .i64 (y : Int))]) [(10, .pointer (some ⟨b10, 0, none⟩)), (12, .pointer (some ⟨b12, 0, none⟩)), (13, .pointer (some ⟨b13, 0, none⟩))] (fun pre x y => [pt b12 76 [.int .u64 ((goneN (fun g => isW l (kq g a a.length) f most) a.length (pre.length) : Nat) : Int)], ptI b13 36 3 (cs (outK (fun g => isW l (kq g a a.length) f most) a.length (pre.length))), knO (fun g => isW l (kq g a a.length) f most) bm]) (fun _ x y => y = x.1) (fun ly pre x w0' hp0' hf0' => ?_) (fun ly pre x y hyx w0' hp0' hf0' => ?_) (fun D xs hdj hxs => ?_)
 ·skip
  refine zR 3 ?_
  refine zz x.1 rfl (by decide)
 ·skip
  subst hyx
  refine go_pand (fun hpl => ?_)
  obtain ⟨hp1, hp2⟩ := hpl
  have hgl := goneN_lt (W := (fun g => isW l (kq g a a.length) f most)) (n := a.length) (by omega) (k := pre.length) (by omega)
  have hpw : (2 : Nat) ^ x.1 < 2 ^ 64 := Nat.pow_lt_pow_right (by decide) (by omega)
  have hol := outK_len (W := (fun g => isW l (kq g a a.length) f most)) (n := a.length) pre.length
  refine go_kn (bm := bm) zM (fun m hk => ?_)
  refine zR 2 ?_
  refine go_draw ([cl b10 0 [.func (.func 82) #[] #[.pointer (some ⟨bM, 0, none⟩), .pointer (some ⟨bF, 0, none⟩), .pointer (some ⟨bL, 0, none⟩), .pointer (some ⟨bO, 0, none⟩), .pointer (some ⟨bQ, 0, none⟩)]]]) ([pt b12 76 [.int .u64 ((goneN (fun g => isW l (kq g a a.length) f most) a.length (pre.length) : Nat) : Int)]]) [0, 1] (SL.pre [(1, 2), (1, 3), (2, 0), (2, 1), (1, 4), (0, 5)] .nil) mixed rfl (by kernel_rfl) ?_
  refine zR 2 ?_
  refine go_re 33 (.int .u64 ((2 ^ x.1 : Nat) : Int)) (by show some (Value.int _ _) = _; exact congrArg (fun z : Int => some (Value.int IntKind.u64 z)) (one_bit (by omega))) ?_
  refine zK 0 ?_
  refine zK 0 ?_
  refine zR 1 ?_
  refine go_re 34 (.int .u64 ((goneN (fun g => isW l (kq g a a.length) f most) a.length (pre.length) ||| 2 ^ x.1 : Nat) : Int)) (by show some (Value.int _ _) = _; exact congrArg (fun z : Int => some (Value.int IntKind.u64 z)) (or_bit hgl hpw)) ?_
  refine zC 0 (impAsk1 l LA lc gl a A k f FA fk most bM bF bL bO bQ bm (goneN (fun g => isW l (kq g a a.length) f most) a.length (pre.length) ||| 2 ^ x.1) m hk (Nat.or_lt_two_pow hgl hpw) gaf hm hfl hbg) ?_
  rintro _ _ _ ⟨m2, hK2, rfl, rfl, rfl⟩
  rw [bits_or, bits_goneN]
  refine go_fold [mapO bm .u64 m2] (knO (fun g => isW l (kq g a a.length) f most) bm) zM (fun _ _ q => knO_mk hK2 q) ?_
  refine zB 1 ?_ ?_
  ·intro g3
   (try simp only [dcs, ne_eq] at g3)
   refine go_draw ([]) ([pt b12 76 [.int .u64 ((goneN (fun g => isW l (kq g a a.length) f most) a.length (pre.length) : Nat) : Int)]]) [0] (SL.pre [(1, 1), (1, 2), (2, 0), (1, 3), (0, 4)] .nil) mixed rfl (by kernel_rfl) ?_
   refine zR 2 ?_
   refine go_re 38 (.int .u64 ((2 ^ x.1 : Nat) : Int)) (by show some (Value.int _ _) = _; exact congrArg (fun z : Int => some (Value.int IntKind.u64 z)) (one_bit (by omega))) ?_
   refine zK 0 ?_
   refine zR 1 ?_
   refine go_re 39 (.int .u64 ((goneN (fun g => isW l (kq g a a.length) f most) a.length (pre.length) ||| 2 ^ x.1 : Nat) : Int)) (by show some (Value.int _ _) = _; exact congrArg (fun z : Int => some (Value.int IntKind.u64 z)) (or_bit hgl hpw)) ?_
   refine zS 0 ?_
   refine zE 1 [] ?_
   refine zR 1 ?_
   refine go_same (B := pt b12 76 [.int .u64 ((goneN (fun g => isW l (kq g a a.length) f most) a.length ((pre ++ [x]).length) : Nat) : Int)]) zM (by rw [List.length_append]; exact congrArg (fun z : Nat => pt b12 76 [.int .u64 (z : Int)]) (by rw [show [x].length = 1 from rfl, goneN_yes (by rw [← hp2]; exact g3), hp2])) ?_
   refine go_same (A := ptI b13 36 3 (cs (outK (fun g => isW l (kq g a a.length) f most) a.length (pre.length)))) (B := ptI b13 36 3 (cs (outK (fun g => isW l (kq g a a.length) f most) a.length ((pre ++ [x]).length)))) zM (by rw [List.length_append, show [x].length = 1 from rfl, outK_yes (by rw [← hp2]; exact g3)]) ?_
   refine go_back () trivial zM zM trivial (by decide)
  intro g3
  (try simp only [dcs, ne_eq] at g3)
  refine go_ptI (b := b13) zM (fun A1 c1 => ?_)
  refine zL 1 ?_
  refine zV 1 ?_
  intro b1
  refine go_append1 (T := tI) (xs := cs (outK (fun g => isW l (kq g a a.length) f most) a.length (pre.length))) Tk ((x.1 : Int)) rfl rfl rfl rfl rfl rfl rfl rfl rfl zM zM rfl ent_int (by rw [show (cs (outK (fun g => isW l (kq g a a.length) f most) a.length (pre.length))).length = (outK (fun g => isW l (kq g a a.length) f most) a.length pre.length).length from List.length_map ..]; omega) zH ?_
  intro A2 c2
  refine zS 0 ?_
  refine zR 1 ?_
  rw [show cs (outK (fun g => isW l (kq g a a.length) f most) a.length (pre.length)) ++ [(x.1 : Int)] = cs (outK (fun g => isW l (kq g a a.length) f most) a.length ((pre ++ [x]).length)) by rw [← cs_snoc, List.length_append, show [x].length = 1 from rfl, outK_no (by rw [← hp2]; exact g3), hp2]]
  refine go_fold [pt b13 36 [.slice A2 (cs (outK (fun g => isW l (kq g a a.length) f most) a.length ((pre ++ [x]).length))).length c2], ol tI 3 A2 c2 (cs (outK (fun g => isW l (kq g a a.length) f most) a.length ((pre ++ [x]).length)))] (ptI b13 36 3 (cs (outK (fun g => isW l (kq g a a.length) f most) a.length ((pre ++ [x]).length)))) zM (fun _ _ q => ptI_mk q) ?_
  refine zE 0 [] ?_
  refine zR 1 ?_
  refine go_same (A := pt b12 76 [.int .u64 ((goneN (fun g => isW l (kq g a a.length) f most) a.length (pre.length) : Nat) : Int)]) (B := pt b12 76 [.int .u64 ((goneN (fun g => isW l (kq g a a.length) f most) a.length ((pre ++ [x]).length) : Nat) : Int)]) zM (by rw [List.length_append]; exact congrArg (fun z : Nat => pt b12 76 [.int .u64 (z : Int)]) (by rw [show [x].length = 1 from rfl, goneN_no (by rw [← hp2]; exact g3)])) ?_
  refine go_back () trivial zM zM trivial (by decide)
 refine zR 2 ?_
 rw [hxs]
 refine go_ptI (b := b13) zM (fun A1 c1 => ?_)
 have hol := outK_len (W := (fun g => isW l (kq g a a.length) f most)) (n := a.length) a.length
 refine zL 1 ?_
 refine zC3 0 (reverseI A1 c1 (cs (outK (fun g => isW l (kq g a a.length) f most) a.length (a.length))) (by rw [show (cs (outK (fun g => isW l (kq g a a.length) f most) a.length (a.length))).length = (outK (fun g => isW l (kq g a a.length) f most) a.length a.length).length from List.length_map ..]; omega)) ?_
 rw [outK_keys]
 refine go_freeze_ol (xs := cs (keysP (fun g => isW l (kq g a a.length) f most) a.length a.length)) zM ?_
 refine zR 2 ?_
 refine go_same (B := pt b13 36 [.slice A1 (cs (keysP (fun g => isW l (kq g a a.length) f most) a.length a.length)).length c1]) zM (by rw [← outK_keys, List.length_reverse]) ?_
 refine zL 1 ?_
 refine zE 3 [8, 9] ?_
 refine go_retR ⟨rfl, rfl⟩ hdj _ _ (res2 (by rfl) (.tmp rfl) (.tmp rfl)) ⟨A1, c1, 0, hE, rfl, rfl, rfl⟩ zM zM
theorem impDiff (l : List Cl) (LA : Option Addr) (lc : Nat) (gl : ∀ c ∈ l, c.ok) (m : List Cl) (MA : Option Addr) (mc : Nat) (gm : ∀ c ∈ m, c.ok) (a : List Fa) (A : Option Addr) (k : Nat) (most : Int) (gaf : ∀ x ∈ a, x.ok ∧ x.a.length ≤ 100000) (hm : most ≤ 100) (hfl : a.length ≤ 60) (hbgl : ∀ c ∈ l, ∀ (F R N : List Fa) (new : Bool), (F.length : Int) ≤ most → (goL c F R N c.b ch0 new).length ≤ 50000000) (hbgm : ∀ c ∈ m, ∀ (F R N : List Fa) (new : Bool), (F.length : Int) ≤ most → (goL c F R N c.b ch0 new).length ≤ 50000000) :
    Spec Tryz.prog 8 #[.slice LA l.length lc, .slice MA m.length mc, .slice A a.length k, .int .i64 most] [sl tCl LA lc l, sl tCl MA mc m, sl tFa A k a] [] (fun v Ps' Os' => ∃ A1 k1 A2 k2 g s e, DiffA l m a most g s e ∧ v = .tuple #[.slice A1 g.length k1, .slice A2 s.length k2, .int .i64 e] ∧ Ps' = [sl tFa A1 k1 g, sl tFa A2 k2 s] ∧ Os' = []) := by
 refine zSp _ Tryz.func8 Tryz.ntmps8 (fun _ _ _ => ?_)
 refine zC 11 (modelOf l LA lc a A k most gl gaf (by omega) (by omega) hbgl) ?_
 rintro _ _ _ ⟨A1, k1, r1, e1, hM1, rfl, rfl, rfl⟩
 refine zN 12 ?_ ?_
 ·intro g1
  refine zR 1 ?_
  refine go_sl_nil tFa ?_
  refine zE 6 [8, 9, 10] ?_
  refine zT 0 rfl ⟨none, 0, none, 0, [], [], e1, ⟨r1, e1, hM1, .inl ⟨g1, rfl, rfl, rfl⟩⟩, rfl, rfl, rfl⟩
 intro g1
 subst g1
 refine zC 6 (modelOf m MA mc a A k most gm gaf (by omega) (by omega) hbgm) ?_
 rintro _ _ _ ⟨A2, k2, r2, e2, hM2, rfl, rfl, rfl⟩
 refine zE 6 [10, 11, 12] ?_
 refine zN 6 ?_ ?_
 ·intro g2
  refine zR 1 ?_
  refine go_sl_nil tFa ?_
  refine zT 6 rfl ⟨none, 0, none, 0, [], [], e2, ⟨r1, 0, hM1, .inr ⟨rfl, r2, e2, hM2, .inl ⟨g2, rfl, rfl, rfl⟩⟩⟩, rfl, rfl, rfl⟩
 intro g2
 subst g2
 obtain ⟨_, _, X, rfl, hXr, hXb, _⟩ := hM1.ok gl rfl
 have hXl : X.length ≤ 50000000 := by omega
 have hXf := hM1.fine gl gaf
 obtain ⟨_, _, Y, rfl, hYr, hYb, _⟩ := hM2.ok gm rfl
 have hYl : Y.length ≤ 50000000 := by omega
 have hYf := hM2.fine gm gaf
 refine go_re 11 (.slice A1 X.length k1) (by rfl) ?_
 refine go_sl (sl tFa A1 k1 ((some X).getD [])) (sl tFa A1 k1 X) zM (fun _ h => h) ?_
 refine go_re 12 (.slice A2 Y.length k2) (by rfl) ?_
 refine go_sl (sl tFa A2 k2 ((some Y).getD [])) (sl tFa A2 k2 Y) zM (fun _ h => h) ?_
 refine zC 4 (relOf A1 k1 X (by omega) (fun q hq => (hXf q hq).2)) ?_
 rintro _ _ _ ⟨bX, rfl, rfl, rfl⟩
 rw [fof_self hXr]
 refine go_freeze_rel (b := bX) zM ?_
 refine go_ent (relN (some ⟨bX, 0, none⟩) (X)) (fun hh hps => relN_some (hps (relP bX (X)) zM)) ?_
 refine zC 1 (relOf A2 k2 Y (by omega) (fun q hq => (hYf q hq).2)) ?_
 rintro _ _ _ ⟨bY, rfl, rfl, rfl⟩
 rw [fof_self hYr]
 refine go_freeze_rel (b := bY) zM ?_
 refine go_ent (relN (some ⟨bY, 0, none⟩) (Y)) (fun hh hps => relN_some (hps (relP bY (Y)) zM)) ?_
 refine zC 7 (relLessN (some ⟨bY, 0, none⟩) Y (some ⟨bX, 0, none⟩) X hXr hXl hYl (fun q hq => (hYf q hq).2)) ?_
 rintro _ _ _ ⟨z1, rfl, rfl, rfl⟩
 refine go_relD (b := z1) zM ?_
 refine go_freeze_rel (b := z1) zM ?_
 refine go_ent (relN (some ⟨z1, 0, none⟩) (less Y X)) (fun hh hps => relN_some (hps (relP z1 (less Y X)) zM)) ?_
 refine zC 0 (relListN (some ⟨z1, 0, none⟩) (less Y X) (Nat.le_trans (less_len _ _) hYl) (fun q hq => (hYf q (mem_less.1 hq).1).2)) ?_
 rintro _ _ _ ⟨A3, k3, rfl, rfl, rfl⟩
 refine go_freeze_dl (T := tFa) (A := A3) (xs := less Y X) zM ?_
 refine zC 2 (relLessN (some ⟨bX, 0, none⟩) X (some ⟨bY, 0, none⟩) Y hYr hYl hXl (fun q hq => (hXf q hq).2)) ?_
 rintro _ _ _ ⟨z2, rfl, rfl, rfl⟩
 refine go_relD (b := z2) zM ?_
 refine go_freeze_rel (b := z2) zM ?_
 refine go_ent (relN (some ⟨z2, 0, none⟩) (less X Y)) (fun hh hps => relN_some (hps (relP z2 (less X Y)) zM)) ?_
 refine zC 0 (relListN (some ⟨z2, 0, none⟩) (less X Y) (Nat.le_trans (less_len _ _) hXl) (fun q hq => (hXf q (mem_less.1 hq).1).2)) ?_
 rintro _ _ _ ⟨A4, k4, rfl, rfl, rfl⟩
 refine go_freeze_dl (T := tFa) (A := A4) (xs := less X Y) zM ?_
 refine zE 4 [8, 9, 10] ?_
 refine zT 0 rfl ⟨A3, k3, A4, k4, less Y X, less X Y, 0, ⟨some X, 0, hM1, .inr ⟨rfl, some Y, 0, hM2, .inr ⟨rfl, rfl, rfl, rfl⟩⟩⟩, rfl, rfl, rfl⟩
end Go.Proofs.YtmomkfedcmogmaaGreat.SL
namespace Go.Proofs.YtmomkfedcmogmaaGreat.SL
open Md
def c30 : Cl := ⟨⟨1, [⟨true, 0⟩]⟩, [⟨false, ⟨2, [⟨true, 0⟩]⟩⟩]⟩
def l30 : List Cl := [c30]
def n30 : List Fa := [⟨2, [1]⟩, ⟨2, [1]⟩, ⟨2, [2]⟩]
def m30 : List Fa := [⟨1, [1]⟩, ⟨1, [2]⟩, ⟨2, [1]⟩, ⟨2, [2]⟩]
def q30 (fs : List Fa) : Prop := ∀ x ∈ fs, ∃ n, x = ⟨2, [n]⟩
theorem n30_q : q30 n30 := fun x hx => by
  simp only [n30, List.mem_cons, List.not_mem_nil, or_false] at hx
  rcases hx with rfl | rfl | rfl
  · exact ⟨_, rfl⟩
  · exact ⟨_, rfl⟩
  · exact ⟨_, rfl⟩
theorem c30_ok : c30.ok := by
  refine ⟨⟨by decide, fun x hx => ?_⟩, fun l hl => ?_⟩
  · have hx : x ∈ ([⟨true, 0⟩] : List Tm) := hx
    rw [List.mem_singleton.1 hx]; exact ⟨by decide, by decide⟩
  · have hl : l ∈ ([⟨false, ⟨2, [⟨true, 0⟩]⟩⟩] : List Li) := hl
    rw [List.mem_singleton.1 hl]
    refine ⟨by decide, fun x hx => ?_⟩
    have hx : x ∈ ([⟨true, 0⟩] : List Tm) := hx
    rw [List.mem_singleton.1 hx]; exact ⟨by decide, by decide⟩
theorem l30_ok : ∀ c ∈ l30, c.ok := fun c hc => by rw [List.mem_singleton.1 hc]; exact c30_ok
theorem l30_at : ∀ a ∈ atomsL l30, a.a.length = 1 := fun a ha => by
  obtain ⟨c, hc, q⟩ := mem_atomsL.1 ha
  rw [List.mem_singleton.1 hc] at q
  simp only [atomsC, c30, List.map_cons, List.map_nil, List.mem_cons, List.not_mem_nil, or_false] at q
  rcases q with rfl | rfl <;> rfl
theorem l30_r : (rightC l30).2 = 0 := rightC_iff.2 ⟨by decide, fun c hc => by rw [List.mem_singleton.1 hc]; exact ⟨by decide, by decide⟩, fun a ha b hb _ => by rw [l30_at a ha, l30_at b hb]⟩
theorem l30_lv : Levels l30 (fun _ => 0) := fun c hc x hx => by
  rw [List.mem_singleton.1 hc] at hx
  have hx : x ∈ ([⟨false, ⟨2, [⟨true, 0⟩]⟩⟩] : List Li) := hx
  rw [List.mem_singleton.1 hx]; exact Nat.le_refl _
theorem l30_rp {fs : List Fa} (h : q30 fs) : RP l30 fs := by
  have h1 : ∀ x ∈ fs, x.a.length = 1 := fun x hx => by obtain ⟨n, rfl⟩ := h x hx; rfl
  refine ⟨l30_r, ⟨_, l30_lv⟩, fun x hx => by rw [h1 x hx]; omega, fun a ha b hb _ => ?_⟩
  have key : ∀ a ∈ atomsL l30 ++ fs.map lift, a.a.length = 1 := fun a ha => by
    rcases List.mem_append.1 ha with q | q
    · exact l30_at a q
    · obtain ⟨x, hx, rfl⟩ := List.mem_map.1 q
      rw [lift_len]; exact h1 x hx
  rw [key a ha, key b hb]
theorem H30 {F N : Fa → Prop} {x : Fa} : H c30 F N x ↔ ∃ a : Int, F ⟨2, [a]⟩ ∧ x = ⟨1, [a]⟩ := by
  unfold H Hd
  constructor
  · rintro ⟨_, s, h1, _, _, h4⟩
    exact ⟨s 0, h1 _ (.head _) rfl, h4⟩
  · rintro ⟨a, h1, h3⟩
    refine ⟨l30_r, fun _ => a, fun l hl e => ?_, fun l hl e => ?_, fun e => (nomatch e), h3⟩
    · have hl : l ∈ ([⟨false, ⟨2, [⟨true, 0⟩]⟩⟩] : List Li) := hl
      rw [List.mem_singleton.1 hl]; exact h1
    · have hl : l ∈ ([⟨false, ⟨2, [⟨true, 0⟩]⟩⟩] : List Li) := hl
      rw [List.mem_singleton.1 hl] at e; cases e
noncomputable def mk30 (fs : List Fa) : List Fa := fof (fs ++ fs.map fun x => ⟨1, x.a⟩)
theorem mem_mk30 {fs : List Fa} {x : Fa} : x ∈ mk30 fs ↔ x ∈ fs ∨ ∃ y ∈ fs, (⟨1, y.a⟩ : Fa) = x := by unfold mk30; rw [mem_fof, List.mem_append, List.mem_map]
theorem st30 {fs : List Fa} (h : q30 fs) : Stable l30 (· ∈ fof fs) (· ∈ mk30 fs) := by
  refine ⟨fun x hx => mem_mk30.2 (.inl (mem_fof.1 hx)), fun c hc x hx => ?_, fun S h1 h2 x hx => ?_⟩
  · rw [List.mem_singleton.1 hc] at hx
    obtain ⟨a, q, rfl⟩ := H30.1 hx
    rcases mem_mk30.1 q with q | ⟨y, _, e⟩
    · exact mem_mk30.2 (.inr ⟨_, q, rfl⟩)
    · exact absurd (congrArg Fa.p e) (by show ¬ (1 : Int) = 2; decide)
  · rcases mem_mk30.1 hx with q | ⟨y, hy, rfl⟩
    · exact h1 x (mem_fof.2 q)
    · obtain ⟨n, rfl⟩ := h y hy
      exact h2 c30 (.head _) _ (H30.2 ⟨n, h1 _ (mem_fof.2 hy), rfl⟩)
theorem mk30_len (fs : List Fa) : (mk30 fs).length ≤ fs.length + fs.length := by
  unfold mk30
  have := fof_len (fs ++ fs.map fun x => (⟨1, x.a⟩ : Fa))
  rw [List.length_append, List.length_map] at this; exact this
theorem mod30 {fs : List Fa} (h : q30 fs) (hl : fs.length ≤ 50) {r : Option (List Fa)} {e : Int} (hM : ModA l30 fs 100 r e) : r = some (mk30 fs) ∧ e = 0 :=
  ((hM.of_right l30_ok (l30_rp h) (by omega)).of_stable l30_lv (rises_fof _) (st30 h)).1 (by have := mk30_len fs; show ((mk30 fs).length : Int) ≤ 100; omega)
theorem isW30 {fs : List Fa} (h : q30 fs) (hl : fs.length ≤ 50) (n : Int) : isW l30 fs ⟨1, [n]⟩ 100 = decide ((⟨2, [n]⟩ : Fa) ∈ fs) := by
  rw [Bool.eq_iff_iff, isW_iff, decide_eq_true_iff]
  constructor
  · rintro ⟨_, _, M, h1, h2, h3, h4⟩
    rcases mem_mk30.1 ((h3.same l30_lv (st30 h) _).1 h4) with q | ⟨y, hy, e⟩
    · obtain ⟨k, e⟩ := h _ q
      exact absurd (congrArg Fa.p e) (by show ¬ (1 : Int) = 2; decide)
    · obtain ⟨k, rfl⟩ := h y hy
      have : ([k] : List Int) = [n] := congrArg Fa.a e
      cases this; exact hy
  · intro q
    exact ⟨l30_rp h, by omega, mk30 fs, rises_fof _, by have := mk30_len fs; omega, st30 h, mem_mk30.2 (.inr ⟨_, q, rfl⟩)⟩
def w30 (g : Nat → Bool) : Bool := !(g 0 && g 1)
theorem W30 : (fun g => isW l30 (kq g n30 n30.length) ⟨1, [1]⟩ 100) = w30 := funext fun g => by
  rw [isW30 (fun x hx => n30_q x (kq_sub x hx)) (Nat.le_trans (kq_len _ _ _) (by decide)), Bool.eq_iff_iff, decide_eq_true_iff, mem_kq]
  unfold w30
  constructor
  · rintro ⟨i, hi, h1, h2⟩
    have hi : i < 3 := hi
    match i, hi with
    | 0, _ => rw [h1]; rfl
    | 1, _ => rw [h1]; cases g 0 <;> rfl
    | 2, _ => exact absurd h2 (by decide)
  · intro h
    cases e0 : g 0 with
    | false => exact ⟨0, by decide, e0, rfl⟩
    | true =>
      cases e1 : g 1 with
      | false => exact ⟨1, by decide, e1, rfl⟩
      | true => rw [e0, e1] at h; cases h
theorem rest30 : restL (fun g => isW l30 (kq g n30 n30.length) ⟨1, [1]⟩ 100) n30.length = [] := by rw [W30]; rfl
theorem keys30 : keysP (fun g => isW l30 (kq g n30 n30.length) ⟨1, [1]⟩ 100) n30.length n30.length = [0] := by rw [W30]; rfl
theorem ask30 {n e : Int} (h : AskR l30 n30 ⟨1, [n]⟩ 100 e) : e = if n = 1 ∨ n = 2 then 0 else 4 := by
  obtain ⟨r, e0, h1, h2⟩ := h
  obtain ⟨rfl, rfl⟩ := mod30 n30_q (by decide) h1
  rw [h2, if_pos rfl]
  have : (⟨1, [n]⟩ : Fa) ∈ (some (mk30 n30)).getD [] ↔ n = 1 ∨ n = 2 := by
    show (⟨1, [n]⟩ : Fa) ∈ mk30 n30 ↔ _
    rw [mem_mk30]
    simp [n30, eq_comm]
  by_cases q : n = 1 ∨ n = 2
  · rw [if_pos q, if_pos (this.2 q)]
  · rw [if_neg q, if_neg (fun w => q (this.1 w))]
theorem mk30_n : mk30 n30 = m30 := rises_ext (rises_fof _) (by unfold rises m30; decide) fun x => by
  rw [mem_mk30]
  simp [n30, m30, eq_comm, or_assoc, or_left_comm, or_comm]
theorem fof30 : fof n30 = [⟨2, [1]⟩, ⟨2, [2]⟩] := rises_ext (rises_fof _) (by unfold rises; decide) fun x => by
  rw [mem_fof]; simp [n30]
theorem diff30 {g s : List Fa} {e : Int} (h : DiffA l30 [] n30 100 g s e) : g = [] ∧ s = [⟨1, [1]⟩, ⟨1, [2]⟩] ∧ e = 0 := by
  obtain ⟨r1, e1, h1, h2⟩ := h
  obtain ⟨rfl, rfl⟩ := mod30 n30_q (by decide) h1
  rcases h2 with ⟨q, _⟩ | ⟨_, r2, e2, h3, h4⟩
  · exact absurd rfl q
  · have hr : RP [] n30 := (l30_rp n30_q).sub (fun c hc => absurd hc List.not_mem_nil) (fun _ q => q) (by decide)
    have hs : Stable [] (· ∈ fof n30) (· ∈ fof n30) := ⟨fun _ q => q, fun c hc => absurd hc List.not_mem_nil, fun S h1 _ => h1⟩
    obtain ⟨rfl, rfl⟩ := ((h3.of_right (fun c hc => absurd hc List.not_mem_nil) hr (by omega)).of_stable (lv := fun _ => 0) (fun c hc => absurd hc List.not_mem_nil) (rises_fof _) hs).1 (by rw [fof30]; decide)
    rcases h4 with ⟨q, _⟩ | ⟨_, rfl, rfl, rfl⟩
    · exact absurd rfl q
    · refine ⟨?_, ?_, rfl⟩
      · show less (fof n30) (mk30 n30) = []
        rw [mk30_n, fof30]; unfold less m30; decide
      · show less (mk30 n30) (fof n30) = _
        rw [mk30_n, fof30]; unfold less m30; decide
theorem n30_ok : ∀ x ∈ n30, x.ok ∧ x.a.length ≤ 100000 := fun x hx => by
  simp only [n30, List.mem_cons, List.not_mem_nil, or_false] at hx
  have key : ∀ n : Int, 0 ≤ n ∧ n < 4294967296 → (⟨2, [n]⟩ : Fa).ok ∧ ([n] : List Int).length ≤ 100000 := fun n hn => ⟨⟨by show (0 : Int) ≤ 2 ∧ (2 : Int) < 4294967296; decide, fun y hy => by rw [List.mem_singleton.1 hy]; exact hn⟩, by simp⟩
  rcases hx with rfl | rfl | rfl <;> exact key _ (by decide)
theorem l30_big : ∀ c ∈ l30, ∀ (F R N : List Fa) (new : Bool), (F.length : Int) ≤ 100 → (goL c F R N c.b ch0 new).length ≤ 50000000 := fun c hc F R N new hF => by
  refine Nat.le_trans (goL_len _ _ _ _ _ _ _) ?_
  rw [List.mem_singleton.1 hc]
  show F.length ^ 1 ≤ _; rw [Nat.pow_one]; omega
end Go.Proofs.YtmomkfedcmogmaaGreat.SL
namespace Go.Proofs.YtmomkfedcmogmaaGreat.SL
open Go Md
set_option maxHeartbeats 8000000 in
theorem lawWorks30  :
    Spec Tryz.prog 7 #[] [] [] (fun v Ps' Os' => v = .bool true ∧ Ps' = [] ∧ Os' = []) := by
 refine zSp _ Tryz.func7 Tryz.ntmps7 (fun _ _ _ => ?_)
 refine zC3 6 (law11V 0) ?_
 refine zV 0 ?_
 intro u1
 refine go_lit tTm (b := u1) [⟨true, 0⟩] zM (fun hp a => ⟨[_, _], [], rfl, tTm_mk (x := ⟨true, 0⟩), rfl⟩) (by simp) ?_
 refine zC3 0 (law11A _ _ _ _) ?_
 refine zC3 0 (law11V 0) ?_
 refine zV 0 ?_
 intro u2
 refine go_lit tTm (b := u2) [⟨true, 0⟩] zM (fun hp a => ⟨[_, _], [], rfl, tTm_mk (x := ⟨true, 0⟩), rfl⟩) (by simp) ?_
 refine zC3 0 (law11Yes _ _ _ _) ?_
 refine zV 0 ?_
 intro u4
 refine go_lit tLi (b := u4) c30.b zM (fun hp a => ⟨[_, _, _], [], rfl, tLi_mk (x := ⟨false, ⟨2, [⟨true, 0⟩]⟩⟩) (a (sl tTm (some ⟨u2, 0, none⟩) 1 [⟨true, 0⟩]) zM), rfl⟩) (by decide) ?_
 refine zC3 0 (law11If _ _ _ _ _ _ _) ?_
 refine zV 0 ?_
 intro bs
 refine go_lit tCl (b := bs) l30 zM (fun hp a => ⟨[.int .u32 c30.h.p, .slice (some ⟨u1, 0, none⟩) c30.h.a.length 1, .slice (some ⟨u4, 0, none⟩) c30.b.length 1], [], rfl, tCl_mk (a (sl tTm (some ⟨u1, 0, none⟩) 1 c30.h.a) zM) (a (sl tLi (some ⟨u4, 0, none⟩) 1 c30.b) zM), rfl⟩) (by decide) ?_
 refine zV 4 ?_
 intro f1
 refine go_lit_int (kk := .u32) [1] zM (by simp) ?_
 refine zC3 0 (law13F 2 _ 1 1) ?_
 refine zV 0 ?_
 intro f2
 refine go_lit_int (kk := .u32) [1] zM (by simp) ?_
 refine zC3 0 (law13F 2 _ 1 1) ?_
 refine zV 0 ?_
 intro f3
 refine go_lit_int (kk := .u32) [2] zM (by simp) ?_
 refine zC3 0 (law13F 2 _ 1 1) ?_
 refine zV 0 ?_
 intro bf
 refine go_lit tFa (b := bf) n30 zM (fun hp a => ⟨[_, _], _, rfl, tFa_mk (x := (⟨2, [1]⟩ : Fa)) (a (sl tU (some ⟨f1, 0, none⟩) 1 [1]) zM), [_, _], _, rfl, tFa_mk (x := (⟨2, [1]⟩ : Fa)) (a (sl tU (some ⟨f2, 0, none⟩) 1 [1]) zM), [_, _], [], rfl, tFa_mk (x := (⟨2, [2]⟩ : Fa)) (a (sl tU (some ⟨f3, 0, none⟩) 1 [2]) zM), rfl⟩) (by decide) ?_
 refine zE 2 [1, 2] ?_
 refine zV 4 ?_
 intro g1
 refine go_lit_int (kk := .u32) [1] zM (by simp) ?_
 refine zC3 0 (law13F 1 _ 1 1) ?_
 refine zC 0 (impRest l30 (some ⟨bs, 0, none⟩) 1 l30_ok n30 (some ⟨bf, 0, none⟩) 3 (⟨1, [1]⟩ : Fa) (some ⟨g1, 0, none⟩) 1 100 n30_ok (by omega) (by decide) l30_big) ?_
 rintro _ _ _ ⟨A3, c3, e3, hE3, rfl, rfl, rfl⟩
 obtain rfl : e3 = 0 := (ask30 hE3).trans (by decide)
 rw [if_pos rfl, rest30]
 refine zV 10 ?_
 intro g2
 refine go_lit_int (kk := .u32) [1] zM (by simp) ?_
 refine zC3 0 (law13F 1 _ 1 1) ?_
 refine zC 0 (impKeys l30 (some ⟨bs, 0, none⟩) 1 l30_ok n30 (some ⟨bf, 0, none⟩) 3 (⟨1, [1]⟩ : Fa) (some ⟨g2, 0, none⟩) 1 100 n30_ok (by omega) (by decide) l30_big) ?_
 rintro _ _ _ ⟨A4, c4, e4, hE4, rfl, rfl, rfl⟩
 obtain rfl : e4 = 0 := (ask30 hE4).trans (by decide)
 rw [if_pos rfl, keys30]
 refine zE 6 [1, 2, 3, 4, 5, 6] ?_
 refine zR 1 ?_
 refine go_sl_nil tCl ?_
 refine zC 3 (impDiff l30 (some ⟨bs, 0, none⟩) 1 l30_ok [] none 0 (fun c hc => absurd hc List.not_mem_nil) n30 (some ⟨bf, 0, none⟩) 3 100 n30_ok (by omega) (by decide) l30_big (fun c hc => absurd hc List.not_mem_nil)) ?_
 rintro _ _ _ ⟨A5, c5, A6, c6, g, s, e5, hD, rfl, rfl, rfl⟩
 obtain ⟨rfl, rfl, rfl⟩ := diff30 hD
 refine zV 12 ?_
 intro g3
 refine go_lit_int (kk := .u32) [9] zM (by simp) ?_
 refine zC3 0 (law13F 1 _ 1 1) ?_
 refine zC 0 (impRest l30 (some ⟨bs, 0, none⟩) 1 l30_ok n30 (some ⟨bf, 0, none⟩) 3 (⟨1, [9]⟩ : Fa) (some ⟨g3, 0, none⟩) 1 100 n30_ok (by omega) (by decide) l30_big) ?_
 rintro _ _ _ ⟨A7, c7, e7, hE7, rfl, rfl, rfl⟩
 obtain rfl : e7 = 4 := (ask30 hE7).trans (by decide)
 refine zE 6 [3, 4, 5, 6, 7, 8, 9, 11] ?_
 refine zR 4 ?_
 refine go_re 60 (.bool true) (by show some (Value.bool _) = _; first | rfl | simp) ?_
 refine zR 4 ?_
 refine go_re 64 (.bool true) (by show some (Value.bool _) = _; first | rfl | simp) ?_
 refine zR 4 ?_
 refine go_re 68 (.bool true) (by show some (Value.bool _) = _; first | rfl | simp) ?_
 refine zV 3 ?_
 intro bn
 refine go_lit_int (kk := .i64) [0] zM (by simp) ?_
 refine zC3 0 (ref30Same A4 c4 (cs [0]) (some ⟨bn, 0, none⟩) 1 [0]) ?_
 refine go_re 73 (.bool true) (by show some (Value.bool _) = _; first | rfl | simp) ?_
 refine zR 4 ?_
 refine go_re 77 (.bool true) (by show some (Value.bool _) = _; first | rfl | simp) ?_
 refine zR 5 ?_
 refine go_re 82 (.bool true) (by show some (Value.bool _) = _; first | rfl | simp) ?_
 refine zV 3 ?_
 intro h1
 refine go_lit_int (kk := .u32) [1] zM (by simp) ?_
 refine zC3 0 (law13F 1 _ 1 1) ?_
 refine zV 0 ?_
 intro h2
 refine go_lit_int (kk := .u32) [2] zM (by simp) ?_
 refine zC3 0 (law13F 1 _ 1 1) ?_
 refine zV 0 ?_
 intro bm
 refine go_lit tFa (b := bm) [(⟨1, [1]⟩ : Fa), (⟨1, [2]⟩ : Fa)] zM (fun hp a => ⟨[_, _], _, rfl, tFa_mk (x := (⟨1, [1]⟩ : Fa)) (a (sl tU (some ⟨h1, 0, none⟩) 1 [1]) zM), [_, _], [], rfl, tFa_mk (x := (⟨1, [2]⟩ : Fa)) (a (sl tU (some ⟨h2, 0, none⟩) 1 [2]) zM), rfl⟩) (by decide) ?_
 refine zC3 0 (ref13Same A6 c6 [(⟨1, [1]⟩ : Fa), (⟨1, [2]⟩ : Fa)] (some ⟨bm, 0, none⟩) 2 [(⟨1, [1]⟩ : Fa), (⟨1, [2]⟩ : Fa)]) ?_
 refine go_re 91 (.bool true) (by show some (Value.bool _) = _; simp) ?_
 refine zR 4 ?_
 refine go_re 95 (.bool true) (by show some (Value.bool _) = _; first | rfl | simp) ?_
 refine zE 3 [0] ?_
 refine zT 0 rfl ⟨rfl, rfl, rfl⟩
set_option maxHeartbeats 16000000 in
theorem lawImpactPlays (l : List Cl) (LA : Option Addr) (lc : Nat) (gl : ∀ c ∈ l, c.ok) (zl : l.length ≤ 140737488351232) (m : List Cl) (MA : Option Addr) (mc : Nat) (gm : ∀ c ∈ m, c.ok) (zm : m.length ≤ 140737488351232) (a : List Fa) (A : Option Addr) (k : Nat) (ga : ∀ x ∈ a, x.ok) (za : a.length ≤ 140737488351232) (pk : Int) (hat : 0 ≤ pk ∧ pk < 256) (q : Fa) (QA : Option Addr) (qc : Nat) (gq : q.ok) (most : Int) (hmo : -9223372036854775808 ≤ most ∧ most ≤ 9223372036854775807) :
    Spec Tryz.prog 3 #[.slice LA l.length lc, .slice MA m.length mc, .slice A a.length k, .int .u8 pk, .agg #[.int .u32 q.p, .slice QA q.a.length qc], .int .i64 most] [sl tCl LA lc l, sl tCl MA mc m, sl tFa A k a, sl tU QA qc q.a] [] (fun v Ps' Os' => v = .bool true ∧ Ps' = [] ∧ Os' = []) := by
 refine zSp _ Tryz.func3 Tryz.ntmps3 (fun _ _ _ => ?_)
 refine zX 2 ?_
 intro bq
 refine go_freeze_pt (b := bq) zM ?_
 obtain ⟨t, rfl⟩ : ∃ t : Nat, pk = (t : Int) := ⟨pk.toNat, by omega⟩
 refine go_len (xs := l) zM (fun ll ml => ?_)
 refine go_len (xs := m) zM (fun lm mm => ?_)
 refine go_len (xs := a) zM (fun la ma => ?_)
 refine go_len (xs := q.a) zM (fun lq mq => ?_)
 refine zC3 7 (law14Few l LA lc a A k) ?_
 refine zG 2 35 ?_ ?_
 ·intro g1
  (try simp only [dcs, ne_eq] at g1)
  refine zE 21 [0, 1, 2, 3, 5, 10, 55] ?_
  refine zDt 0 ?_
  refine zC3 2 lawWorks30 ?_
  refine zT 2 rfl ⟨rfl, rfl, rfl⟩
 intro g1
 (try simp only [dcs, ne_eq] at g1)
 refine zC3 2 (law14Few m MA mc a A k) ?_
 refine zG 3 41 ?_ ?_
 ·intro g2
  (try simp only [dcs, ne_eq] at g2)
  refine zE 15 [0, 1, 2, 3, 5, 10, 55] ?_
  refine zDt 0 ?_
  refine zC3 2 lawWorks30 ?_
  refine zT 2 rfl ⟨rfl, rfl, rfl⟩
 intro g2
 (try simp only [dcs, ne_eq] at g2)
 refine zG 5 46 ?_ ?_
 ·intro g3
  (try simp only [dcs, ne_eq] at g3)
  refine zE 10 [0, 1, 2, 3, 5, 10, 55] ?_
  refine zDt 0 ?_
  refine zC3 2 lawWorks30 ?_
  refine zT 2 rfl ⟨rfl, rfl, rfl⟩
 intro g3
 (try simp only [dcs, ne_eq] at g3)
 refine zG 4 50 ?_ ?_
 ·intro g4
  (try simp only [dcs, ne_eq] at g4)
  refine zE 6 [0, 1, 2, 3, 5, 10, 55] ?_
  refine zDt 0 ?_
  refine zC3 2 lawWorks30 ?_
  refine zT 2 rfl ⟨rfl, rfl, rfl⟩
 intro g4
 (try simp only [dcs, ne_eq] at g4)
 refine zL 1 ?_
 refine zE 4 [0, 1, 2, 3, 5, 10, 55] ?_
 refine zB 0 ?_ ?_
 ·intro g5
  (try simp only [dcs, ne_eq] at g5)
  refine zC3 2 lawWorks30 ?_
  refine zT 2 rfl ⟨rfl, rfl, rfl⟩
 intro g5
 (try simp only [dcs, ne_eq] at g5)
 refine zR 2 ?_
 have fp := few14_of g1
 have hlen : l.length ≤ 20 ∧ a.length ≤ 30 := ⟨fp.1, fp.2.1⟩
 have hla : ∀ x ∈ a, x.a.length ≤ 30 := (few11_of fp.2.2.1).2.2
 have hbl : ∀ c ∈ l, c.b.length ≤ 1000 := fun c hc => Nat.le_trans ((few11_of fp.2.2.1).2.1 c hc).1 (by omega)
 have hfa : ∀ x ∈ a, x.ok ∧ x.a.length ≤ 100000 := fun x hx => ⟨ga x hx, Nat.le_trans (hla x hx) (by omega)⟩
 have hfl := fof_len a
 have fp2 := few14_of g2
 have hml : m.length ≤ 20 := fp2.1
 have hbm : ∀ c ∈ m, c.b.length ≤ 1000 := fun c hc => Nat.le_trans ((few11_of fp2.2.2.1).2.1 c hc).1 (by omega)
 refine zC 5 (impDiff l LA lc gl m MA mc gm a A k most hfa (by omega) (by omega) (fun c hc F R N new h => big14 fp (by omega) N c hc F R new h) (fun c hc F R N new h => big14 fp2 (by omega) N c hc F R new h)) ?_
 rintro _ _ _ ⟨A1, k1, A2, k2, x1, x2, e1, hD1, rfl, rfl, rfl⟩
 refine zC 14 (ref30Diff l LA lc gl hbl hlen.1 (fun c hc F N hF => Nat.le_trans (small60 (fp.2.2.2 c hc) (n := 60) hF (by omega)) (by decide)) m MA mc gm hbm hml (fun c hc F N hF => Nat.le_trans (small60 (fp2.2.2.2 c hc) (n := 60) hF (by omega)) (by decide)) a A k most (by omega) (by omega)) ?_
 rintro _ _ _ ⟨A3, k3, A4, k4, y1, y2, e2, hD2, rfl, rfl, rfl⟩
 obtain ⟨rfl, rfl, rfl⟩ := hD1.one gl gm hD2
 refine zE 8 [0, 2, 3, 5, 10, 13, 14, 15, 16, 17, 18] ?_
 refine zR 6 ?_
 refine go_re 77 (.bool false) (by show some (Value.bool _) = _; simp) ?_
 refine zC3 3 (ref13Same A1 k1 x1 A3 k3 x1) ?_
 refine zR 1 ?_
 refine go_re 82 (.bool false) (by show some (Value.bool _) = _; simp) ?_
 refine zC3 4 (ref13Same A2 k2 x2 A4 k4 x2) ?_
 refine zR 1 ?_
 refine go_re 88 (.bool false) (by show some (Value.bool _) = _; simp) ?_
 refine zE 2 [0, 2, 3, 5, 10, 89] ?_
 refine zDf 0 ?_
 refine zL 3 ?_
 refine zV 0 ?_
 intro ba
 refine go_lit_ol (b := ba) tFa [q] zM (fun hp a => ⟨[_, _], [], rfl, tFa_mk (x := q) (a (sl tU QA qc q.a) zM), rfl⟩) (by simp) ?_
 refine zC 7 (ref15Of l LA lc a A k most gl hbl hlen.1 (by omega) (by omega) (fun c hc F N hF => Nat.le_trans (small60 (fp.2.2.2 c hc) (n := 60) hF (by omega)) (by decide))) ?_
 rintro _ _ _ ⟨A5, k5, r5, e5, hM5, rfl, rfl, rfl⟩
 refine zR 8 ?_
 refine zU (X := Bool) (fun x => [(105, .bool x)]) [0, 2, 3, 5, 19, 20] (fun _ => []) ([]) (fun x => x = true → 0 < (r5.getD []).length) ?_ ?_
 ·skip
  refine zG' 4 101 ?_ ?_
  ·intro g6
   (try simp only [dcs, ne_eq] at g6)
   refine zR 5 ?_
   refine zz (false) (fun w => nomatch w) (by decide)
  intro g6
  (try simp only [dcs, ne_eq] at g6)
  refine zR 5 ?_
  refine zz (decide ((0 : Int) < (((r5.getD []).length : Nat) : Int))) (fun w => by have := of_decide_eq_true w; omega) (by decide)
 intro bb hbb
 refine zU (X := Option Addr × Nat × List Fa) (fun x => [(19, .slice x.1 x.2.2.length x.2.1)]) [0, 2, 5] (fun x => [ol tFa 27 x.1 x.2.1 x.2.2]) ([ol tFa 27 (some ⟨ba, 0, none⟩) 1 [q]]) (fun x => x.2.2.length ≤ 2) ?_ ?_
 ·skip
  refine zB' 0 ?_ ?_
  ·intro g7
   (try simp only [dcs, ne_eq] at g7)
   refine zR 1 ?_
   refine zz (some ⟨ba, 0, none⟩, 1, [q]) (by show [q].length ≤ 2; simp) (by decide)
  intro g7
  (try simp only [dcs, ne_eq] at g7)
  have hl5 := hM5.len gl (by omega)
  have hl5p := hbb g7
  refine go_len (xs := (r5.getD [])) zM (fun l5 m5 => ?_)
  refine zR 5 ?_
  refine go_re 109 (.int .i64 (t : Int)) (by show some (Value.int _ _) = _; rw [wrap_i64 (by omega) (by omega)]) ?_
  refine zR 2 ?_
  refine go_val0 rfl (rem_val rfl rfl rfl (by omega)) rfl ?_
  obtain ⟨qq, hqq, hql⟩ : ∃ qq, t % (r5.getD []).length = qq ∧ qq < (r5.getD []).length := ⟨_, rfl, Nat.mod_lt _ hl5p⟩
  refine go_re 112 (.int .i64 (qq : Int)) (by rw [← hqq]; rfl) ?_
  refine go_elem_fa (xs := (r5.getD [])) zM (qq) (List.getElem?_eq_getElem (by omega)) (fun b2 o2 A12 c12 hA => ?_); cases hA
  refine zI 0 ?_
  refine zL 0 ?_
  refine zV 0 ?_
  intro b1
  refine go_append1 (T := tFa) (xs := [q]) Tk ((r5.getD [])[qq]) rfl rfl rfl rfl rfl rfl rfl rfl rfl zM zM rfl (ent_fa zM) (by simp) zH ?_
  intro A6 c6
  refine zR 2 ?_
  refine zz (A6, c6, [q] ++ [(r5.getD [])[qq]]) (by show ([q] ++ [_]).length ≤ 2; simp) (by decide)
 intro ⟨AL, cL, all⟩ hall
 simp only at hall ⊢
 refine zR 2 ?_
 refine go_freeze_ol (xs := all) zM ?_
 refine zR 4 ?_
 refine zO (X := Nat) (fun i => [(22, .int .i64 (i : Int))]) [0, 2, 5, 19] (fun _ => []) (fun i => i ≤ all.length) (fun i => all.length - i) 0 (by omega) ?_
 intro i hi
 refine zD' 8 ?_ ?_
 ·intro hq1
  refine zC3 3 lawWorks30 ?_
  refine zT 2 rfl ⟨rfl, rfl, rfl⟩
 intro hq1
 refine zR 4 ?_
 refine go_elem_fa (xs := all) zM (i) (List.getElem?_eq_getElem (by omega)) (fun b1 o1 A7 c7 hA => ?_); cases hA
 refine go_draw ([cl b1 (o1 + i * 2) [.int .u32 all[i].p, .slice A7 all[i].a.length c7]]) ([]) [7] (SL.pre [(1, 0), (1, 2), (1, 4), (1, 5), (1, 6), (1, 8), (2, 7), (0, 1), (0, 3), (0, 9), (1, 10), (1, 11), (1, 12), (1, 13), (1, 14)] .nil) mixed rfl (by kernel_rfl) ?_
 refine zI 4 ?_
 refine zK 1 ?_
 refine go_bslice Tk rfl rfl rfl rfl rfl rfl rfl rfl (fun _ _ => satA) ?_
 intro bz
 refine go_lit_ol (b := bz) tFa [] zM (fun _ _ => rfl) (by simp) ?_
 refine go_appendN (T := tFa) (xs := []) (ys := a) Tk rfl rfl rfl rfl rfl rfl rfl rfl rfl zM rfl zM (by simp only [List.length_nil]; omega) zH ?_
 intro B1 j1
 rw [List.nil_append]
 refine go_freeze_ol (xs := a) (A := B1) zM ?_
 refine zC 0 (impRest l LA lc gl a B1 j1 all[i] A7 c7 most hfa (by omega) (by omega) (fun c hc F R N new h => big14 fp (by omega) N c hc F R new h)) ?_
 rintro _ _ _ ⟨A8, k8, e8, hE8, rfl, rfl, rfl⟩
 refine zE 6 [0, 2, 5, 19, 22, 23, 24] ?_
 refine zI 6 ?_
 refine zL 0 ?_
 refine zC 1 (ref30Rest l LA lc gl hbl hlen.1 (fun c hc F N hF => Nat.le_trans (small60 (fp.2.2.2 c hc) (n := 60) hF (by omega)) (by decide)) a A k all[i] A7 c7 most (by omega) (by omega)) ?_
 rintro _ _ _ ⟨A9, k9, e9, hE9, rfl, rfl, rfl⟩
 obtain rfl := hE8.one gl hE9
 refine zR 7 ?_
 refine go_draw ([cl b1 (o1 + i * 2) [.int .u32 all[i].p, .slice A7 all[i].a.length c7]]) ([]) [7] (SL.pre [(1, 0), (1, 2), (1, 4), (1, 5), (1, 6), (1, 8), (2, 7), (0, 1), (0, 3), (0, 9), (1, 10), (1, 11), (1, 12), (1, 13), (1, 14)] .nil) mixed rfl (by kernel_rfl) ?_
 refine zI 4 ?_
 refine zK 1 ?_
 refine go_bslice Tk rfl rfl rfl rfl rfl rfl rfl rfl (fun _ _ => satA) ?_
 intro by_
 refine go_lit_ol (b := by_) tFa [] zM (fun _ _ => rfl) (by simp) ?_
 refine go_appendN (T := tFa) (xs := []) (ys := a) Tk rfl rfl rfl rfl rfl rfl rfl rfl rfl zM rfl zM (by simp only [List.length_nil]; omega) zH ?_
 intro B2 j2
 rw [List.nil_append]
 refine go_freeze_ol (xs := a) (A := B2) zM ?_
 refine zC 0 (impKeys l LA lc gl a B2 j2 all[i] A7 c7 most hfa (by omega) (by omega) (fun c hc F R N new h => big14 fp (by omega) N c hc F R new h)) ?_
 rintro _ _ _ ⟨A10, k10, e10, hE10, rfl, rfl, rfl⟩
 obtain rfl := hE8.one gl hE10
 refine zE 6 [0, 2, 5, 19, 22, 23, 24, 25, 26, 27, 28] ?_
 refine zI 6 ?_
 refine zL 0 ?_
 refine zC 1 (ref30Keys l LA lc gl hbl hlen.1 (fun c hc F N hF => Nat.le_trans (small60 (fp.2.2.2 c hc) (n := 60) hF (by omega)) (by decide)) a A k all[i] A7 c7 most (by omega) (by omega)) ?_
 rintro _ _ _ ⟨A11, k11, e11, hE11, rfl, rfl, rfl⟩
 obtain rfl := hE8.one gl hE11
 refine zR 11 ?_
 refine go_re 173 (.bool false) (by show some (Value.bool _) = _; simp) ?_
 refine zR 4 ?_
 refine go_re 177 (.bool false) (by show some (Value.bool _) = _; simp) ?_
 refine zC3 4 (ref30Same A8 k8 (if e8 = 0 then cs (restL (fun g => isW l (kq g a a.length) all[i] most) a.length) else []) A9 k9 (if e8 = 0 then cs (restL (fun g => isW l (kq g a a.length) all[i] most) a.length) else [])) ?_
 refine zR 1 ?_
 refine go_re 183 (.bool false) (by show some (Value.bool _) = _; simp) ?_
 refine zC3 4 (ref30Same A10 k10 (if e8 = 0 then cs (keysP (fun g => isW l (kq g a a.length) all[i] most) a.length a.length) else []) A11 k11 (if e8 = 0 then cs (keysP (fun g => isW l (kq g a a.length) all[i] most) a.length a.length) else [])) ?_
 refine zR 1 ?_
 refine go_re 189 (.bool false) (by show some (Value.bool _) = _; simp) ?_
 refine zE 2 [0, 2, 5, 19, 22, 175, 176, 177, 180, 181, 182, 183, 186, 187, 188, 189, 190] ?_
 refine zDf 0 ?_
 refine zR 7 ?_
 refine zi 22 ?_
 refine zz (i + 1) (by omega) (by omega)
end Go.Proofs.YtmomkfedcmogmaaGreat.SL
namespace Go.Proofs.YtmomkfedcmogmaaGreat.SL
open Go.RowKit Go.Deep
def Opens (P : Program) (t : TypeId) {α : Type} (T : Ty α) (G : α → Prop) : Prop :=
  ∀ {H : Type} {enc : TypeId × Value → H} {W : World} {base : Nat} {sp : Nat → Bool} {hd : Bool} {fuel : Nat} {cs : List Value} {x : DataW H × List MemPlace}, DataW.trod enc P W base sp hd fuel t cs = some x → ∃ v, T.rep (hpOf W) v cs ∧ G v
theorem wf_u32 {n : Int} (h : (Lit.int .u32 n).wf = true) : 0 ≤ n ∧ n < 4294967296 := by
  simp [Lit.wf, IntKind.min, IntKind.max, IntKind.signed, IntKind.bits] at h; omega
theorem wf_u8 {n : Int} (h : (Lit.int .u8 n).wf = true) : 0 ≤ n ∧ n < 256 := by
  simp [Lit.wf, IntKind.min, IntKind.max, IntKind.signed, IntKind.bits] at h; omega
theorem wf_i64 {n : Int} (h : (Lit.int .i64 n).wf = true) : -9223372036854775808 ≤ n ∧ n ≤ 9223372036854775807 := by
  simp [Lit.wf, IntKind.min, IntKind.max, IntKind.signed, IntKind.bits] at h; omega
section
variable {P : Program}
theorem opens_int {t : TypeId} {k : IntKind} (ht : P.underlying t = some (.int k)) : Opens P t (tInt k) (fun n => (Lit.int k n).wf = true) := fun h => by
  obtain ⟨n, rfl, _, hw⟩ := DataW.trod_int ht h
  exact ⟨n, rfl, hw⟩
theorem opens_bool {t : TypeId} (ht : P.underlying t = some .bool) : Opens P t tBool (fun _ => True) := fun h => by
  obtain ⟨n, rfl, _⟩ := DataW.trod_bool ht h
  exact ⟨n, rfl, trivial⟩
theorem opens_iso {t : TypeId} {α β : Type} {T : Ty β} {G : β → Prop} {G' : α → Prop} (f : α → β) (g : β → α) (o : Opens P t T G) (hg : ∀ b, f (g b) = b) (hG : ∀ b, G b → G' (g b)) : Opens P t (tIso T f) G' := fun h => by
  obtain ⟨v, r, q⟩ := o h
  exact ⟨g v, by show T.rep _ (f (g v)) _; rw [hg]; exact r, hG v q⟩
theorem opens_pair {t : TypeId} {f0 f1 : Field} {α β : Type} {T : Ty α} {U : Ty β} {G : α → Prop} {K : β → Prop} (ht : P.underlying t = some (.struct #[f0, f1])) (o0 : Opens P f0.type T G) (o1 : Opens P f1.type U K)
    (h0 : f0.offset = 0) (h1 : f1.offset = T.size) (c0 : P.cellsOf f0.type = T.size) (c1 : P.cellsOf f1.type = U.size) (ct : P.cellsOf t = T.size + U.size) : Opens P t (tPair T U) (fun x => G x.1 ∧ K x.2) := fun h => by
  obtain ⟨xs, n, _, rfl, hl, hlen, hf⟩ := DataW.trod_struct ht h
  match xs, hlen with
  | [y0, y1], _ =>
    have e0 := hf 0 f0 rfl
    have e1 := hf 1 f1 rfl
    obtain ⟨v0, r0, g0⟩ := o0 (by simpa using e0)
    obtain ⟨v1, r1, g1⟩ := o1 (by simpa using e1)
    refine ⟨(v0, v1), ⟨_, _, ?_, r0, r1⟩, g0, g1⟩
    rw [h0, h1, c0, c1, List.drop_zero]
    rw [ct] at hl
    rw [List.take_of_length_le (l := List.drop _ _) (by simp; omega), List.take_append_drop]
theorem opens_slice {t e : TypeId} {α : Type} {T : Ty α} {G : α → Prop} (ht : P.underlying t = some (.slice e)) (o : Opens P e T G) (hc : P.cellsOf e = T.size) (hp : 0 < T.size) : Opens P t (tSl T) (fun xs => ∀ x ∈ xs, G x) := fun {H enc W base sp hd fuel cs x} h => by
  rcases open_slice ht h with ⟨rfl, _⟩ | ⟨a, len, cap, m, n, D, Pl, rfl, hb, hl, hm, hmm, rfl, hx⟩
  · exact ⟨[], ⟨none, 0, rfl, by simp, by simp [maxLen], fun _ => rfl, fun j x hj => by simp at hj⟩, fun x hx => by cases hx⟩
  · have hlm : len ≤ m := by rw [hmm]; split <;> omega
    have el : ∀ i, i < len → ∃ v, (∃ cs, T.rep (hpOf W) v cs ∧ W.cells? base (a.add (i * T.size)) T.size = some cs) ∧ G v := fun i hi => by
      obtain ⟨cs', h1, h2⟩ := hx i (by omega)
      obtain ⟨v, r, g⟩ := o h2
      rw [hc] at h1
      exact ⟨v, ⟨cs', r, h1⟩, g⟩
    have ex : ∃ xs : List α, xs.length = len ∧ ∀ i x, xs[i]? = some x → (∃ cs, T.rep (hpOf W) x cs ∧ W.cells? base (a.add (i * T.size)) T.size = some cs) ∧ G x := by
      have key : ∀ k, k ≤ len → ∃ xs : List α, xs.length = k ∧ ∀ i x, xs[i]? = some x → (∃ cs, T.rep (hpOf W) x cs ∧ W.cells? base (a.add (i * T.size)) T.size = some cs) ∧ G x := by
        intro k
        induction k with
        | zero => exact fun _ => ⟨[], rfl, fun i x hx => by simp at hx⟩
        | succ k ih =>
          intro hk
          obtain ⟨xs, h1, h2⟩ := ih (by omega)
          obtain ⟨v, hv⟩ := el k (by omega)
          refine ⟨xs ++ [v], by simp [h1], fun i x hx => ?_⟩
          rw [List.getElem?_append] at hx
          split at hx
          · exact h2 i x hx
          · rename_i hlt
            have : i = k := by
              rcases Nat.eq_or_lt_of_le (show xs.length ≤ i by omega) with q | q
              · omega
              · rw [List.getElem?_eq_none (by simp; omega)] at hx; cases hx
            subst this
            simp [h1] at hx
            subst hx
            exact hv
      exact key len (Nat.le_refl _)
    obtain ⟨xs, h1, h2⟩ := ex
    refine ⟨xs, ⟨some a, cap, by rw [h1], by omega, hm, fun e => (by cases e), fun j x hj => ?_⟩, fun x hx => ?_⟩
    · obtain ⟨⟨cs, r, hcs⟩, _⟩ := h2 j x hj
      obtain ⟨_, hln, hget⟩ := World.cells?_some hcs
      have hspot : a.spot = none := by
        obtain ⟨v0, hv0⟩ : ∃ v, xs[0]? = some v := by
          cases xs with
          | nil => simp at hj
          | cons v l => exact ⟨v, rfl⟩
        obtain ⟨⟨cs0, _, hcs0⟩, _⟩ := h2 0 v0 hv0
        obtain ⟨_, hln0, hget0⟩ := World.cells?_some hcs0
        have := hget0 0 hp
        rw [List.getElem?_eq_getElem (by omega)] at this
        simp only [Nat.zero_mul, Addr.add, if_true, World.cell?] at this
        split at this
        · cases hs : a.spot with
          | none => rfl
          | some q => rw [hs] at this; simp at this
        · cases this
      obtain ⟨b, oo, sp0⟩ := a
      cases hspot
      refine ⟨b, oo, cs, rfl, r, fun i v hi => ?_⟩
      have hlt : i < T.size := by
        rw [← hln]
        rcases Nat.lt_or_ge i cs.length with q | q
        · exact q
        · simp [q] at hi
      have := hget i hlt
      rw [run_addOff, run_addOff, hi] at this
      unfold World.cell? at this
      unfold cellH hpOf
      rw [Nat.add_assoc] at this
      simp only at this ⊢
      split at this
      · rename_i e
        simp only [e]
        simpa using this
      · cases this
    · obtain ⟨j, hj, rfl⟩ := List.getElem_of_mem hx
      exact (h2 j _ (List.getElem?_eq_getElem hj)).2
theorem Spec.law {f : FuncId} {args : Array Value} {Ps : List PA} (s : Spec P f args Ps [] (fun v Ps' Os' => v = .bool true ∧ Ps' = [] ∧ Os' = [])) (W : World) (h : ∀ p, p ∈ Ps → p.p (hpOf W)) :
    Calls P f args W fun e W' => e = .returned (.bool true) ∧ Below W.heap.size W W' := by
  refine (s.calls W (hpOf W) Heap.nil Heap.nil ⟨Heap.le_refl _, Heap.nil_le _, Heap.dj_symm (Heap.nil_dj _), h, trivial⟩ (Heap.nil_le _) (Heap.nil_dj _) (Heap.nil_dj _)).mono ?_
  rintro e w' ⟨v, hp', ho', Ps', Os', rfl, ⟨rfl, _, _⟩, hs, hle, _, _, _, hr⟩
  refine ⟨rfl, hr.os, hr.tape, hr.output, hr.size, fun k hk => ?_⟩
  have h1 : hpOf W k = some W.heap[k] := by simp [hpOf, hk]
  have h2 := hs.inp _ _ (hle _ _ h1)
  unfold hpOf at h1 h2
  rw [h1, h2]
theorem okWide_agg {t : TypeId} {fs : Array Field} {w : World} {r : Reach} {b : Nat} {v : Value} (ht : P.underlying t = some (.struct fs)) (h : Value.okWide P w r b t v) : ∃ cs : Array Value, v = .agg cs := by
  simp only [Value.okWide, ht] at h
  obtain ⟨cs, e, _⟩ := h
  exact ⟨cs, e⟩
end
end Go.Proofs.YtmomkfedcmogmaaGreat.SL
namespace Go.Proofs.YtmomkfedcmogmaaGreat.SL
theorem opU : Opens Tryz.prog 24 tU (fun n => 0 ≤ n ∧ n < 4294967296) := fun h => (opens_int Tryz.underlying24 h).imp fun v q => ⟨q.1, wf_u32 q.2⟩
theorem opUs : Opens Tryz.prog 25 (tSl tU) (fun xs => ∀ x ∈ xs, (fun n : Int => 0 ≤ n ∧ n < 4294967296) x) := opens_slice Tryz.underlying25 opU (by kernel_rfl) (by decide)
theorem opFa : Opens Tryz.prog 27 tFa Fa.ok := opens_iso (fun x : Fa => (x.p, x.a)) (fun b => ⟨b.1, b.2⟩) (opens_pair Tryz.underlying27 opU opUs rfl rfl (by kernel_rfl) (by kernel_rfl) (by kernel_rfl)) (fun b => rfl) (fun b g => g)
theorem opFas : Opens Tryz.prog 23 (tSl tFa) (fun xs => ∀ x ∈ xs, Fa.ok x) := opens_slice Tryz.underlying23 opFa (by kernel_rfl) (by decide)
theorem opTm : Opens Tryz.prog 58 tTm Tm.ok := opens_iso (fun x : Tm => (x.v, x.n)) (fun b => ⟨b.1, b.2⟩) (opens_pair Tryz.underlying58 (opens_bool Tryz.underlying4) opU rfl rfl (by kernel_rfl) (by kernel_rfl) (by kernel_rfl)) (fun b => rfl) (fun b g => g.2)
theorem opTms : Opens Tryz.prog 41 (tSl tTm) (fun xs => ∀ x ∈ xs, Tm.ok x) := opens_slice Tryz.underlying41 opTm (by kernel_rfl) (by decide)
theorem opAm : Opens Tryz.prog 43 tAm Am.ok := opens_iso (fun x : Am => (x.p, x.a)) (fun b => ⟨b.1, b.2⟩) (opens_pair Tryz.underlying43 opU opTms rfl rfl (by kernel_rfl) (by kernel_rfl) (by kernel_rfl)) (fun b => rfl) (fun b g => g)
theorem opLi : Opens Tryz.prog 48 tLi (fun x : Li => x.a.ok) := opens_iso (fun x : Li => (x.no, x.a)) (fun b => ⟨b.1, b.2⟩) (opens_pair Tryz.underlying48 (opens_bool Tryz.underlying4) opAm rfl rfl (by kernel_rfl) (by kernel_rfl) (by kernel_rfl)) (fun b => rfl) (fun b g => g.2)
theorem opLis : Opens Tryz.prog 44 (tSl tLi) (fun xs => ∀ x ∈ xs, (fun x : Li => x.a.ok) x) := opens_slice Tryz.underlying44 opLi (by kernel_rfl) (by decide)
theorem opCl : Opens Tryz.prog 46 tCl Cl.ok := opens_iso (fun x : Cl => (x.h, x.b)) (fun b => ⟨b.1, b.2⟩) (opens_pair Tryz.underlying46 opAm opLis rfl rfl (by kernel_rfl) (by kernel_rfl) (by kernel_rfl)) (fun b => rfl) (fun b g => ⟨g.1, g.2⟩)
theorem opCls : Opens Tryz.prog 22 (tSl tCl) (fun xs => ∀ x ∈ xs, Cl.ok x) := opens_slice Tryz.underlying22 opCl (by kernel_rfl) (by decide)
theorem sized_len {H : Type} {enc : TypeId × Value → H} {P : Program} {W : World} {base : Nat} {sp : Nat → Bool} {hd : Bool} {fuel : Nat} {ts : List TypeId} {ds : List (DataW H)} {j : Nat} {t e : TypeId} {cs : List Value} {x : DataW H × List MemPlace} {A : Option Addr} {n c : Nat}
    (h : (DataW.weightsEach P ts ds).all (· ≤ reachBytes) = true) (ht : ts[j]? = some t) (hd' : ds[j]? = some x.1) (hu : P.underlying t = some (.slice e)) (hx : DataW.trod enc P W base sp hd fuel t cs = some x) (hc : cs = [.slice A n c]) (hb : Nat.ble 1 (P.bytesOf e) = true) : n ≤ 140737488351232 := by
  subst hc
  rcases Deep.open_slice hu hx with ⟨h1, _⟩ | ⟨a, len, cap, m, q, D, Pl, h1, _, _, _, _, rfl, _⟩
  · cases h1; omega
  · cases h1
    have := sized_slice h ht hd' hu
    have hb' := Nat.le_of_ble_eq_true hb
    have h2 : n ≤ n * P.bytesOf e := Nat.le_mul_of_pos_right _ hb'
    simp only [List.length_map, List.length_range] at this
    rw [Nat.add_mul] at this
    have h3 : reachBytes = 140737488351232 := rfl
    omega
end Go.Proofs.YtmomkfedcmogmaaGreat.SL

