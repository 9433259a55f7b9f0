/- Contracts of functions of the program (Queryb): what each call comes to, for the laws' proofs. -/
import Derived.Test.YtdkfpgdfjnaciaaQuery
set_option linter.unusedVariables false
set_option linter.unusedSimpArgs false
namespace Go.Proofs.Ytdkfpgdfjnaciaa.SL
open Go 

/-- A box that bears a list of one's own; what its elements lead to is read. -/
def boxL (b : Nat) (l : List Fa) : OA := OA.ex fun A : Option Addr => OA.ex fun c : Nat => OA.all [pt b 49 [.slice A l.length c], ol tFa 31 A c l]
theorem boxL_mk {b : Nat} {A : Option Addr} {c : Nat} {l : List Fa} {hp h : Heap} (q : Sep hp [pt b 49 [.slice A l.length c], ol tFa 31 A c l] h) : (boxL b l).p hp h := ⟨A, c, q⟩
theorem go_boxL {C : Ctx} {k : List It} {E : Env} {Ps : List PA} {Os : List OA} {b : Nat} {l : List Fa} {rr : List OA} (h : Rem (boxL b l) Os rr) (g : ∀ (A : Option Addr) (c : Nat), Go C k E Ps ([pt b 49 [.slice A l.length c], ol tFa 31 A c l] ++ rr)) : Go C k E Ps Os :=
  go_oex h fun A => go_oex .here fun c => go_oall .here (g A c)
/-- A function that is told of facts. -/
def TellSpec (g : FuncId) (cap : Array Value) (R : List Fa → OA) : Prop := ∀ (done : List Fa) (x : Fa) (A : Option Addr) (c : Nat), x.a.length ≤ 100000 → done.length ≤ 1000000 →
  Spec Try.prog g (Value.agg #[.int .u32 x.p, .slice A x.a.length c] :: cap.toList).toArray [sl tU A c x.a] [R done] (fun v Ps' Os' => v = .tuple #[] ∧ Ps' = [] ∧ Os' = [R (done ++ [x])])

set_option maxHeartbeats 2000000 in
set_option maxRecDepth 20000 in
theorem ask1 (b : Nat) (done : List Fa) (x : Fa) (A : Option Addr) (c : Nat) (h1 : x.a.length ≤ 100000) (h2 : done.length ≤ 1000000) :
    Spec Try.prog 88 #[.agg #[.int .u32 x.p, .slice A x.a.length c], .pointer (some ⟨b, 0, none⟩)] [sl tU A c x.a] [boxL b done] (fun v Ps' Os' => v = .tuple #[] ∧ Ps' = [] ∧ Os' = [boxL b (done ++ [x])]) := by
  refine spec_of (fn := Try.f88) (args := [.agg #[.int .u32 x.p, .slice A x.a.length c], .pointer (some ⟨b, 0, none⟩)]) 11 Try.func88 rfl (by kernel_rfl) Try.ntmps88 (Nat.le_of_ble_eq_true rfl) (fun w0 hp0 hf0 => ?_)
  refine go_seq ?_
  refine go_region rfl ?_
  refine go_box Tk rfl rfl rfl rfl (by rfl) rfl rfl (fun h => nomatch h) ?_
  intro b1
  refine go_nil ?_
  refine go_env [(1, _), (2, _)] ⟨rfl, rfl, trivial⟩ ?_
  refine go_seq ?_
  refine go_region rfl ?_
  refine go_pure0 Tk rfl rfl rfl ?_
  refine go_val0 rfl (load_val Tk rfl rfl rfl (by first | exact at_pt (by repeat constructor) (by rfl) | exact at_cl 0 (by repeat constructor) (by rfl) | exact at_cl 1 (by repeat constructor) (by rfl) | exact at_cl 2 (by repeat constructor) (by rfl) | exact at_cl 3 (by repeat constructor) (by rfl) | exact at_cl 4 (by repeat constructor) (by rfl) | exact at_cl 5 (by repeat constructor) (by rfl) | exact at_cl 6 (by repeat constructor) (by rfl) | exact at_cl 7 (by repeat constructor) (by rfl)) (by rfl)) rfl ?_
  refine go_call (cloneU A c x.a h1) rfl rfl (by rfl) rfl (by repeat constructor) (by repeat constructor) (fun h => nomatch h) ?_
  rintro _ _ _ ⟨A', c', rfl, rfl, rfl⟩
  refine go_freeze_ol (A := A') (xs := x.a) (by repeat constructor) ?_
  refine go_pure0 Tk rfl rfl rfl ?_
  refine go_store Tk rfl rfl rfl rfl rfl rfl (by repeat constructor) rfl rfl (by rfl) (fun h => nomatch h) ?_
  refine go_nil ?_
  refine go_env [(1, _), (2, _)] ⟨rfl, rfl, trivial⟩ ?_
  refine go_boxL (b := b) (by repeat constructor) (fun A1 c1 => ?_)
  refine go_region rfl ?_
  refine go_val0 rfl (load_val Tk rfl rfl rfl (by first | exact at_pt (by repeat constructor) (by rfl) | exact at_cl 0 (by repeat constructor) (by rfl) | exact at_cl 1 (by repeat constructor) (by rfl) | exact at_cl 2 (by repeat constructor) (by rfl) | exact at_cl 3 (by repeat constructor) (by rfl) | exact at_cl 4 (by repeat constructor) (by rfl) | exact at_cl 5 (by repeat constructor) (by rfl) | exact at_cl 6 (by repeat constructor) (by rfl) | exact at_cl 7 (by repeat constructor) (by rfl)) (by rfl)) rfl ?_
  refine go_val0 rfl (load_val Tk rfl rfl rfl (by first | exact at_pt (by repeat constructor) (by rfl) | exact at_cl 0 (by repeat constructor) (by rfl) | exact at_cl 1 (by repeat constructor) (by rfl) | exact at_cl 2 (by repeat constructor) (by rfl) | exact at_cl 3 (by repeat constructor) (by rfl) | exact at_cl 4 (by repeat constructor) (by rfl) | exact at_cl 5 (by repeat constructor) (by rfl) | exact at_cl 6 (by repeat constructor) (by rfl) | exact at_cl 7 (by repeat constructor) (by rfl)) (by rfl)) rfl ?_
  refine go_bslice Tk rfl rfl rfl rfl rfl rfl rfl rfl (fun h => nomatch h) ?_
  intro bn
  refine go_append1 (T := tFa) (xs := done) Tk (x) rfl rfl rfl rfl rfl rfl rfl rfl rfl (by repeat constructor) (by repeat constructor) rfl (ent_fa (by repeat constructor)) (by omega) (by first | exact (fun _ _ _ => satS (by repeat constructor) (by repeat constructor)) | exact (fun h => nomatch h) | exact (fun h => nomatch (Eq.symm h).trans (show _ = false by kernel_rfl))) ?_
  intro A3 c3
  refine go_store Tk rfl rfl rfl rfl rfl rfl (by repeat constructor) rfl rfl (by rfl) (fun h => nomatch h) ?_
  refine go_nil ?_
  refine go_fold [pt b 49 [.slice A3 (done ++ [x]).length c3], ol tFa 31 A3 c3 (done ++ [x])] (boxL b (done ++ [x])) (by repeat constructor) (fun _ _ q => boxL_mk q) ?_
  refine go_end ⟨rfl, rfl⟩ _ _ (fun a w hp ho hf hs => res0 (by rfl) a w hp ho hf hs) ⟨rfl, rfl, rfl⟩ (by repeat constructor) (by repeat constructor)

set_option maxHeartbeats 2000000 in
set_option maxRecDepth 20000 in
theorem queryEach (L : Option Addr) (lc : Nat) (l : List Fa) (a : Am) (AA : Option Addr) (ac : Nat) (g : FuncId) (cap : Array Value) (R : List Fa → OA) (hT : TellSpec g cap R) (ha : ∀ t ∈ a.a, 0 ≤ t.n) (hm : a.a.length ≤ 1000000) (hn : l.length ≤ 1000000) (hb : ∀ x ∈ l, x.a.length ≤ 100000) :
    Spec Try.prog 87 #[.slice L l.length lc, .agg #[.int .u32 a.p, .slice AA a.a.length ac], .func (.func g) #[] cap] [sl tFa L lc l, sl tTm AA ac a.a] [R []] (fun v Ps' Os' => v = .tuple #[] ∧ Ps' = [] ∧ Os' = [R (l.filter (mtch a))]) := by
  refine spec_of (fn := Try.f87) (args := [.slice L l.length lc, .agg #[.int .u32 a.p, .slice AA a.a.length ac], .func (.func g) #[] cap]) 21 Try.func87 rfl (by kernel_rfl) Try.ntmps87 (Nat.le_of_ble_eq_true rfl) (fun w0 hp0 hf0 => ?_)
  refine go_seq ?_
  refine go_region rfl ?_
  refine go_box Tk rfl rfl rfl rfl (by rfl) rfl rfl (fun h => nomatch h) ?_
  intro bt
  refine go_freeze_pt (b := bt) (by repeat constructor) ?_
  refine go_nil ?_
  refine go_env [(0, _), (2, _), (4, _)] ⟨rfl, rfl, rfl, trivial⟩ ?_
  refine go_seq ?_
  refine go_len (xs := l) (by repeat constructor) (fun l0 m0 => ?_)
  refine go_region rfl ?_
  refine go_pure0 Tk rfl rfl rfl ?_
  refine go_pure0 Tk rfl rfl rfl ?_
  refine go_pure0 Tk rfl rfl rfl ?_
  refine go_nil ?_
  refine go_env [(2, _), (4, _), (8, _), (9, _), (10, _)] ⟨rfl, rfl, rfl, rfl, rfl, trivial⟩ ?_
  refine go_block ?_
  refine go_loop' (X := Nat) (fun k => [(10, .int .i64 (k : Int))]) [(2, _), (4, _), (8, _), (9, _)] (fun k => [R ((l.take k).filter (mtch a))]) (fun k => k ≤ l.length) (fun k => l.length - k) (0) ⟨rfl, rfl, rfl, rfl, rfl, trivial⟩ (by repeat constructor) (by omega) ?_
  intro k hk
  have hfl := filter_len (mtch a) l k
  refine go_seq ?_
  refine go_region rfl ?_
  refine go_pure0 Tk rfl rfl rfl ?_
  refine go_nil ?_
  refine go_env [(2, _), (4, _), (8, _), (9, _), (10, _), (11, _)] ⟨rfl, rfl, rfl, rfl, rfl, rfl, trivial⟩ ?_
  refine go_seq ?_
  refine go_condD rfl ?_ ?_
  · intro hq1
    refine go_skip ?_
    refine go_seq ?_
    refine go_block ?_
    refine go_seq ?_
    refine go_elem_fa (xs := l) (by repeat constructor) (k) (List.getElem?_eq_getElem (by omega)) (fun b0 o0 A0 c0 hA => ?_); cases hA
    refine go_region rfl ?_
    refine go_val0 rfl (idx_val Tk rfl rfl rfl rfl rfl (by omega)) rfl ?_
    refine go_val0 rfl (load_val Tk rfl rfl rfl (by first | exact at_pt (by repeat constructor) (by rfl) | exact at_cl 0 (by repeat constructor) (by rfl) | exact at_cl 1 (by repeat constructor) (by rfl) | exact at_cl 2 (by repeat constructor) (by rfl) | exact at_cl 3 (by repeat constructor) (by rfl) | exact at_cl 4 (by repeat constructor) (by rfl) | exact at_cl 5 (by repeat constructor) (by rfl) | exact at_cl 6 (by repeat constructor) (by rfl) | exact at_cl 7 (by repeat constructor) (by rfl)) (by rfl)) rfl ?_
    refine go_alloc Tk rfl rfl rfl (by rfl) rfl rfl (fun h => nomatch h) ?_
    intro b1
    refine go_store Tk rfl rfl rfl rfl rfl rfl (by repeat constructor) rfl rfl (by rfl) (fun h => nomatch h) ?_
    refine go_nil ?_
    refine go_env [(2, _), (4, _), (7, _), (8, _), (9, _), (10, _)] ⟨rfl, rfl, rfl, rfl, rfl, rfl, trivial⟩ ?_
    refine go_seq ?_
    refine go_region rfl ?_
    refine go_val0 rfl (load_val Tk rfl rfl rfl (by first | exact at_pt (by repeat constructor) (by rfl) | exact at_cl 0 (by repeat constructor) (by rfl) | exact at_cl 1 (by repeat constructor) (by rfl) | exact at_cl 2 (by repeat constructor) (by rfl) | exact at_cl 3 (by repeat constructor) (by rfl) | exact at_cl 4 (by repeat constructor) (by rfl) | exact at_cl 5 (by repeat constructor) (by rfl) | exact at_cl 6 (by repeat constructor) (by rfl) | exact at_cl 7 (by repeat constructor) (by rfl)) (by rfl)) rfl ?_
    refine go_val0 rfl (load_val Tk rfl rfl rfl (by first | exact at_pt (by repeat constructor) (by rfl) | exact at_cl 0 (by repeat constructor) (by rfl) | exact at_cl 1 (by repeat constructor) (by rfl) | exact at_cl 2 (by repeat constructor) (by rfl) | exact at_cl 3 (by repeat constructor) (by rfl) | exact at_cl 4 (by repeat constructor) (by rfl) | exact at_cl 5 (by repeat constructor) (by rfl) | exact at_cl 6 (by repeat constructor) (by rfl) | exact at_cl 7 (by repeat constructor) (by rfl)) (by rfl)) rfl ?_
    refine go_call (atomsMatch a AA ac l[k] A0 c0 ha hm) rfl rfl (by rfl) rfl (by repeat constructor) (by repeat constructor) (fun h => nomatch h) ?_
    rintro _ _ _ ⟨rfl, rfl, rfl⟩
    refine go_nil ?_
    refine go_env [(2, _), (4, _), (7, _), (8, _), (9, _), (10, _), (16, _)] ⟨rfl, rfl, rfl, rfl, rfl, rfl, rfl, trivial⟩ ?_
    refine go_cond rfl ?_ ?_
    · intro g1
      (try simp only [decide_eq_true_eq, decide_eq_false_iff_not, Bool.not_eq_true', Bool.not_eq_false', Bool.not_eq_eq_eq_not, Bool.not_true, Bool.not_false, Int.not_lt, Int.not_le, beq_iff_eq, beq_eq_false_iff_ne, ne_eq] at g1)
      refine go_region rfl ?_
      refine go_pure0 Tk rfl rfl rfl ?_
      refine go_val0 rfl (load_val Tk rfl rfl rfl (by first | exact at_pt (by repeat constructor) (by rfl) | exact at_cl 0 (by repeat constructor) (by rfl) | exact at_cl 1 (by repeat constructor) (by rfl) | exact at_cl 2 (by repeat constructor) (by rfl) | exact at_cl 3 (by repeat constructor) (by rfl) | exact at_cl 4 (by repeat constructor) (by rfl) | exact at_cl 5 (by repeat constructor) (by rfl) | exact at_cl 6 (by repeat constructor) (by rfl) | exact at_cl 7 (by repeat constructor) (by rfl)) (by rfl)) rfl ?_
      refine go_call (hT ((l.take k).filter (mtch a)) l[k] A0 c0 (hb _ (List.getElem_mem _)) (by omega)) rfl rfl (by rfl) rfl (by repeat constructor) (by repeat constructor) (fun h => nomatch h) ?_
      rintro _ _ _ ⟨rfl, rfl, rfl⟩
      refine go_nil ?_
      refine go_env [(2, _), (4, _), (8, _), (9, _), (10, _)] ⟨rfl, rfl, rfl, rfl, rfl, trivial⟩ ?_
      refine go_blk ?_
      refine go_region rfl ?_
      refine go_pure0 Tk rfl rfl rfl ?_
      refine go_pure0 Tk rfl rfl rfl ?_
      refine go_nil ?_
      rw [← filter_yes (by omega) g1]
      refine go_i64 10 rfl (by omega) (by omega) ?_
      refine go_back (k + 1) ⟨rfl, rfl, rfl, rfl, rfl, trivial⟩ (by repeat constructor) (by repeat constructor) (by omega) (by omega)
    · intro g1
      (try simp only [decide_eq_true_eq, decide_eq_false_iff_not, Bool.not_eq_true', Bool.not_eq_false', Bool.not_eq_eq_eq_not, Bool.not_true, Bool.not_false, Int.not_lt, Int.not_le, beq_iff_eq, beq_eq_false_iff_ne, ne_eq] at g1)
      refine go_skip ?_
      refine go_blk ?_
      refine go_region rfl ?_
      refine go_pure0 Tk rfl rfl rfl ?_
      refine go_pure0 Tk rfl rfl rfl ?_
      refine go_nil ?_
      rw [← filter_no (by omega) g1]
      refine go_i64 10 rfl (by omega) (by omega) ?_
      refine go_back (k + 1) ⟨rfl, rfl, rfl, rfl, rfl, trivial⟩ (by repeat constructor) (by repeat constructor) (by omega) (by omega)
  · intro hq1
    refine go_exit rfl ?_
    refine go_end ⟨rfl, rfl⟩ [] [R ((l.take k).filter (mtch a))] (fun a w hp ho hf hs => res0 (by rfl) a w hp ho hf hs) ⟨rfl, rfl, by rw [List.take_of_length_le (show l.length ≤ k by omega)]⟩ (by repeat constructor) (by repeat constructor)

set_option maxHeartbeats 2000000 in
set_option maxRecDepth 20000 in
theorem queryAsk (L : Option Addr) (lc : Nat) (l : List Fa) (a : Am) (AA : Option Addr) (ac : Nat) (ha : ∀ t ∈ a.a, 0 ≤ t.n) (hm : a.a.length ≤ 1000000) (hn : l.length ≤ 1000000) (hb : ∀ x ∈ l, x.a.length ≤ 100000) :
    Spec Try.prog 57 #[.slice L l.length lc, .agg #[.int .u32 a.p, .slice AA a.a.length ac]] [sl tFa L lc l, sl tTm AA ac a.a] [] (fun v Ps' Os' => ∃ A' c', v = .slice A' (fof (l.filter (mtch a))).length c' ∧ Ps' = [] ∧ Os' = [ol tFa 31 A' c' (fof (l.filter (mtch a)))]) := by
  refine spec_of (fn := Try.f57) (args := [.slice L l.length lc, .agg #[.int .u32 a.p, .slice AA a.a.length ac]]) 14 Try.func57 rfl (by kernel_rfl) Try.ntmps57 (Nat.le_of_ble_eq_true rfl) (fun w0 hp0 hf0 => ?_)
  refine go_seq ?_
  refine go_region rfl ?_
  refine go_box Tk rfl rfl rfl rfl (by rfl) rfl rfl (fun h => nomatch h) ?_
  intro b1
  refine go_pure0 Tk rfl rfl rfl ?_
  refine go_nil ?_
  refine go_env [(0, _), (3, _)] ⟨rfl, rfl, trivial⟩ ?_
  refine go_seq ?_
  refine go_region rfl ?_
  refine go_alloc Tk rfl rfl rfl (by rfl) rfl rfl (fun h => nomatch h) ?_
  intro bl
  refine go_own_nil tFa 31 none ?_
  refine go_fold [pt bl 49 [.slice none ([]).length 0], ol tFa 31 none 0 ([])] (boxL bl ([])) (by repeat constructor) (fun _ _ q => boxL_mk q) ?_
  refine go_nil ?_
  refine go_env [(0, _), (3, _), (5, _)] ⟨rfl, rfl, rfl, trivial⟩ ?_
  refine go_seq ?_
  refine go_region rfl ?_
  refine go_pure0 Tk rfl rfl rfl ?_
  refine go_val0 rfl (load_val Tk rfl rfl rfl (by first | exact at_pt (by repeat constructor) (by rfl) | exact at_cl 0 (by repeat constructor) (by rfl) | exact at_cl 1 (by repeat constructor) (by rfl) | exact at_cl 2 (by repeat constructor) (by rfl) | exact at_cl 3 (by repeat constructor) (by rfl) | exact at_cl 4 (by repeat constructor) (by rfl) | exact at_cl 5 (by repeat constructor) (by rfl) | exact at_cl 6 (by repeat constructor) (by rfl) | exact at_cl 7 (by repeat constructor) (by rfl)) (by rfl)) rfl ?_
  refine go_pure0 Tk rfl rfl rfl ?_
  refine go_call (queryEach L lc l a AA ac 88 #[.pointer (some ⟨bl, 0, none⟩)] (boxL bl) (fun done x A c h1 h2 => ask1 bl done x A c h1 h2) ha hm hn hb) rfl rfl (by rfl) rfl (by repeat constructor) (by repeat constructor) (fun h => nomatch h) ?_
  rintro _ _ _ ⟨rfl, rfl, rfl⟩
  refine go_nil ?_
  refine go_env [(5, _)] ⟨rfl, trivial⟩ ?_
  refine go_seq ?_
  have hfl := List.length_filter_le (mtch a) l
  refine go_boxL (b := bl) (by repeat constructor) (fun A1 c1 => ?_)
  refine go_region rfl ?_
  refine go_val0 rfl (load_val Tk rfl rfl rfl (by first | exact at_pt (by repeat constructor) (by rfl) | exact at_cl 0 (by repeat constructor) (by rfl) | exact at_cl 1 (by repeat constructor) (by rfl) | exact at_cl 2 (by repeat constructor) (by rfl) | exact at_cl 3 (by repeat constructor) (by rfl) | exact at_cl 4 (by repeat constructor) (by rfl) | exact at_cl 5 (by repeat constructor) (by rfl) | exact at_cl 6 (by repeat constructor) (by rfl) | exact at_cl 7 (by repeat constructor) (by rfl)) (by rfl)) rfl ?_
  refine go_call (sortFa A1 c1 (l.filter (mtch a)) (by omega)) rfl rfl (by rfl) rfl (by repeat constructor) (by repeat constructor) (fun h => nomatch h) ?_
  rintro _ _ _ ⟨m, hs, rfl, rfl, rfl⟩
  have hlm := hs.1.length_eq
  rw [hlm]
  refine go_nil ?_
  refine go_env [(5, _)] ⟨rfl, trivial⟩ ?_
  refine go_seq ?_
  refine go_region rfl ?_
  refine go_val0 rfl (load_val Tk rfl rfl rfl (by first | exact at_pt (by repeat constructor) (by rfl) | exact at_cl 0 (by repeat constructor) (by rfl) | exact at_cl 1 (by repeat constructor) (by rfl) | exact at_cl 2 (by repeat constructor) (by rfl) | exact at_cl 3 (by repeat constructor) (by rfl) | exact at_cl 4 (by repeat constructor) (by rfl) | exact at_cl 5 (by repeat constructor) (by rfl) | exact at_cl 6 (by repeat constructor) (by rfl) | exact at_cl 7 (by repeat constructor) (by rfl)) (by rfl)) rfl ?_
  refine go_call (compactFa A1 c1 m (by omega)) rfl rfl (by rfl) rfl (by repeat constructor) (by repeat constructor) (fun h => nomatch h) ?_
  rintro _ _ _ ⟨rfl, rfl, rfl⟩
  rw [dd_sorted hs.1 hs.2]
  refine go_pure0 Tk rfl rfl rfl ?_
  refine go_nil ?_
  refine go_env [(4, _)] ⟨rfl, trivial⟩ ?_
  refine go_ret ⟨rfl, rfl⟩ _ _ (fun a w hp ho hf hs => res1 (by rfl) (.tmp rfl) a w hp ho hf hs) ⟨A1, c1, rfl, rfl, rfl⟩ (by repeat constructor) (by repeat constructor)

set_option maxHeartbeats 2000000 in
set_option maxRecDepth 20000 in
theorem ref13Has (L : Option Addr) (lc : Nat) (l : List Fa) (q : Fa) (QA : Option Addr) (qc : Nat) :
    Spec Try.prog 60 #[.slice L l.length lc, .agg #[.int .u32 q.p, .slice QA q.a.length qc]] [sl tFa L lc l, sl tU QA qc q.a] [] (fun v Ps' Os' => v = .bool (decide (q ∈ l)) ∧ Ps' = [] ∧ Os' = []) := by
  refine spec_of (fn := Try.f60) (args := [.slice L l.length lc, .agg #[.int .u32 q.p, .slice QA q.a.length qc]]) 19 Try.func60 rfl (by kernel_rfl) Try.ntmps60 (Nat.le_of_ble_eq_true rfl) (fun w0 hp0 hf0 => ?_)
  refine go_seq ?_
  refine go_region rfl ?_
  refine go_box Tk rfl rfl rfl rfl (by rfl) rfl rfl (fun h => nomatch h) ?_
  intro b1
  refine go_pure0 Tk rfl rfl rfl ?_
  refine go_nil ?_
  refine go_env [(0, _), (3, _)] ⟨rfl, rfl, trivial⟩ ?_
  refine go_seq ?_
  refine go_seq ?_
  refine go_len (xs := l) (by repeat constructor) (fun l0 m0 => ?_)
  refine go_region rfl ?_
  refine go_pure0 Tk rfl rfl rfl ?_
  refine go_nil ?_
  refine go_env [(0, _), (3, _), (5, _)] ⟨rfl, rfl, rfl, trivial⟩ ?_
  refine go_block ?_
  refine go_loop' (X := Nat) (fun k => [(5, .int .i64 (k : Int))]) [(0, _), (3, _)] (fun _ => []) (fun k => k ≤ l.length ∧ ¬ q ∈ l.take k) (fun k => l.length - k) (0) ⟨rfl, rfl, rfl, trivial⟩ (by repeat constructor) ⟨by omega, by simp⟩ ?_
  intro k ⟨hk, hz⟩
  refine go_seq ?_
  refine go_seq ?_
  refine go_region rfl ?_
  refine go_pure0 Tk rfl rfl rfl ?_
  refine go_pure0 Tk rfl rfl rfl ?_
  refine go_pure0 Tk rfl rfl rfl ?_
  refine go_pure0 Tk rfl rfl rfl ?_
  refine go_nil ?_
  refine go_env [(0, _), (3, _), (5, _), (9, _)] ⟨rfl, rfl, rfl, rfl, trivial⟩ ?_
  refine go_condD rfl ?_ ?_
  · intro hq1
    refine go_skip ?_
    refine go_seq ?_
    refine go_block ?_
    refine go_seq ?_
    refine go_elem_fa (xs := l) (by repeat constructor) (k) (List.getElem?_eq_getElem (by omega)) (fun b0 o0 A0 c0 hA => ?_); cases hA
    refine go_draw'  [3, 4] (SL.pre [(1, 0), (1, 1), (1, 2), (2, 3), (2, 4), (0, 5), (1, 6)] .nil) mixed rfl (by kernel_rfl) ?_
    refine go_pure1 Tk rfl rfl rfl ?_
    refine go_pure1 Tk rfl rfl rfl ?_
    refine go_val1 rfl (idx_val Tk rfl rfl rfl rfl rfl (by omega)) rfl ?_
    refine go_val2 rfl (load_val Tk rfl rfl rfl (by first | exact at_pt (by repeat constructor) (by rfl) | exact at_cl 0 (by repeat constructor) (by rfl) | exact at_cl 1 (by repeat constructor) (by rfl) | exact at_cl 2 (by repeat constructor) (by rfl) | exact at_cl 3 (by repeat constructor) (by rfl) | exact at_cl 4 (by repeat constructor) (by rfl) | exact at_cl 5 (by repeat constructor) (by rfl) | exact at_cl 6 (by repeat constructor) (by rfl) | exact at_cl 7 (by repeat constructor) (by rfl)) (by rfl)) (by repeat constructor) (by repeat constructor) rfl ?_
    refine go_val2 rfl (load_val Tk rfl rfl rfl (by first | exact at_pt (by repeat constructor) (by rfl) | exact at_cl 0 (by repeat constructor) (by rfl) | exact at_cl 1 (by repeat constructor) (by rfl) | exact at_cl 2 (by repeat constructor) (by rfl) | exact at_cl 3 (by repeat constructor) (by rfl) | exact at_cl 4 (by repeat constructor) (by rfl) | exact at_cl 5 (by repeat constructor) (by rfl) | exact at_cl 6 (by repeat constructor) (by rfl) | exact at_cl 7 (by repeat constructor) (by rfl)) (by rfl)) (by repeat constructor) (by repeat constructor) rfl ?_
    refine go_call (refCompare _ _ _ _ _ _ _ _) rfl rfl (by rfl) rfl (by repeat constructor) (by repeat constructor) (fun h => nomatch h) ?_
    rintro _ _ _ ⟨rfl, rfl, rfl⟩
    refine go_pure1 Tk rfl rfl rfl ?_
    refine go_nil ?_
    refine go_env [(0, _), (3, _), (5, _), (18, _)] ⟨rfl, rfl, rfl, rfl, trivial⟩ ?_
    refine go_condD rfl ?_ ?_
    · intro g1
      refine go_seq ?_
      refine go_region rfl ?_
      refine go_pure0 Tk rfl rfl rfl ?_
      refine go_nil ?_
      refine go_env [(4, _)] ⟨rfl, trivial⟩ ?_
      refine go_ret ⟨rfl, rfl⟩ _ _ (fun a w hp ho hf hs => res1 (by rfl) (.tmp rfl) a w hp ho hf hs) ⟨by rw [decide_eq_true (show q ∈ l from (cmpF_zero (x := l[k]) (q := q)).1 g1 ▸ List.getElem_mem _)], rfl, rfl⟩ (by repeat constructor) (by repeat constructor)
    · intro g1
      refine go_skip ?_
      refine go_blk ?_
      refine go_region rfl ?_
      refine go_pure0 Tk rfl rfl rfl ?_
      refine go_pure0 Tk rfl rfl rfl ?_
      refine go_pure0 Tk rfl rfl rfl ?_
      refine go_nil ?_
      refine go_i64 5 rfl (by omega) (by omega) ?_
      refine go_back (k + 1) ⟨rfl, rfl, rfl, trivial⟩ (by repeat constructor) (by repeat constructor) (⟨by omega, not_next (by omega) hz g1⟩) (by omega)
  · intro hq1
    refine go_exit rfl ?_
    refine go_seq ?_
    refine go_region rfl ?_
    refine go_pure0 Tk rfl rfl rfl ?_
    refine go_nil ?_
    refine go_env [(4, _)] ⟨rfl, trivial⟩ ?_
    refine go_ret ⟨rfl, rfl⟩ _ _ (fun a w hp ho hf hs => res1 (by rfl) (.tmp rfl) a w hp ho hf hs) ⟨by rw [List.take_of_length_le (by omega)] at hz; rw [decide_eq_false hz], rfl, rfl⟩ (by repeat constructor) (by repeat constructor)

set_option maxHeartbeats 2000000 in
set_option maxRecDepth 20000 in
theorem ref13With (L : Option Addr) (lc : Nat) (l : List Fa) (q : Fa) (QA : Option Addr) (qc : Nat) (hr : rises l) (hn : l.length ≤ 1000000) :
    Spec Try.prog 93 #[.slice L l.length lc, .agg #[.int .u32 q.p, .slice QA q.a.length qc]] [sl tFa L lc l, sl tU QA qc q.a] [] (fun v Ps' Os' => ∃ A' c', v = .slice A' (fput l q).length c' ∧ Ps' = [sl tFa A' c' (fput l q)] ∧ Os' = []) := by
  refine spec_of (fn := Try.f93) (args := [.slice L l.length lc, .agg #[.int .u32 q.p, .slice QA q.a.length qc]]) 46 Try.func93 rfl (by kernel_rfl) Try.ntmps93 (Nat.le_of_ble_eq_true rfl) (fun w0 hp0 hf0 => ?_)
  refine go_seq ?_
  refine go_len (xs := l) (by repeat constructor) (fun l0 m0 => ?_)
  refine go_region rfl ?_
  refine go_box Tk rfl rfl rfl rfl (by rfl) rfl rfl (fun h => nomatch h) ?_
  intro bq
  refine go_freeze_pt (b := bq) (by repeat constructor) ?_
  refine go_pure0 Tk rfl rfl rfl ?_
  refine go_nil ?_
  refine go_env [(0, _), (3, _)] ⟨rfl, rfl, trivial⟩ ?_
  refine go_seq ?_
  refine go_seq ?_
  refine go_region rfl ?_
  refine go_pure0 Tk rfl rfl rfl ?_
  refine go_val0 rfl (load_val Tk rfl rfl rfl (by first | exact at_pt (by repeat constructor) (by rfl) | exact at_cl 0 (by repeat constructor) (by rfl) | exact at_cl 1 (by repeat constructor) (by rfl) | exact at_cl 2 (by repeat constructor) (by rfl) | exact at_cl 3 (by repeat constructor) (by rfl) | exact at_cl 4 (by repeat constructor) (by rfl) | exact at_cl 5 (by repeat constructor) (by rfl) | exact at_cl 6 (by repeat constructor) (by rfl) | exact at_cl 7 (by repeat constructor) (by rfl)) (by rfl)) rfl ?_
  refine go_call (ref13Has L lc l q QA qc) rfl rfl (by rfl) rfl (by repeat constructor) (by repeat constructor) (fun h => nomatch h) ?_
  rintro _ _ _ ⟨rfl, rfl, rfl⟩
  refine go_nil ?_
  refine go_env [(0, _), (3, _), (9, _)] ⟨rfl, rfl, rfl, trivial⟩ ?_
  refine go_cond rfl ?_ ?_
  · intro g1
    (try simp only [decide_eq_true_eq, decide_eq_false_iff_not, Bool.not_eq_true', Bool.not_eq_false', Bool.not_eq_eq_eq_not, Bool.not_true, Bool.not_false, Int.not_lt, Int.not_le, beq_iff_eq, beq_eq_false_iff_ne, ne_eq] at g1)
    refine go_seq ?_
    refine go_region rfl ?_
    refine go_pure0 Tk rfl rfl rfl ?_
    refine go_pure0 Tk rfl rfl rfl ?_
    refine go_nil ?_
    refine go_env [(4, _)] ⟨rfl, trivial⟩ ?_
    refine go_ret ⟨rfl, rfl⟩ [sl tFa L lc l] [] (fun a w hp ho hf hs => res1 (by rfl) (.tmp rfl) a w hp ho hf hs) ⟨L, lc, by rw [fput_yes g1], by rw [fput_yes g1], rfl⟩ (by repeat constructor) (by repeat constructor)
  · intro g1
    (try simp only [decide_eq_true_eq, decide_eq_false_iff_not, Bool.not_eq_true', Bool.not_eq_false', Bool.not_eq_eq_eq_not, Bool.not_true, Bool.not_false, Int.not_lt, Int.not_le, beq_iff_eq, beq_eq_false_iff_ne, ne_eq] at g1)
    refine go_skip ?_
    refine go_seq ?_
    refine go_region rfl ?_
    refine go_pure0 Tk rfl rfl rfl ?_
    refine go_pure0 Tk rfl rfl rfl ?_
    refine go_pure0 Tk rfl rfl rfl ?_
    refine go_nil ?_
    refine go_env [(0, _), (3, _), (5, _)] ⟨rfl, rfl, rfl, trivial⟩ ?_
    refine go_seq ?_
    refine go_region rfl ?_
    refine go_pure0 Tk rfl rfl rfl ?_
    refine go_own_nil tFa 31 none ?_
    refine go_nil ?_
    refine go_env [(0, _), (3, _), (5, _), (6, _)] ⟨rfl, rfl, rfl, rfl, trivial⟩ ?_
    refine go_seq ?_
    refine go_draw ([cl bq 0 [.int .u32 q.p, .slice QA q.a.length qc]]) ([]) [3] (SL.pre [(1, 0), (1, 1), (2, 3)] (.two (SL.pre [(0, 2), (0, 4), (0, 5), (1, 6)] .nil) (SL.pre [(0, 4), (0, 2), (0, 5), (1, 6)] .nil))) mixed rfl (by kernel_rfl) ?_
    refine go_pure1 Tk rfl rfl rfl ?_
    refine go_pure1 Tk rfl rfl rfl ?_
    refine go_val2 rfl (load_val Tk rfl rfl rfl (by first | exact at_pt (by repeat constructor) (by rfl) | exact at_cl 0 (by repeat constructor) (by rfl) | exact at_cl 1 (by repeat constructor) (by rfl) | exact at_cl 2 (by repeat constructor) (by rfl) | exact at_cl 3 (by repeat constructor) (by rfl) | exact at_cl 4 (by repeat constructor) (by rfl) | exact at_cl 5 (by repeat constructor) (by rfl) | exact at_cl 6 (by repeat constructor) (by rfl) | exact at_cl 7 (by repeat constructor) (by rfl)) (by rfl)) (by repeat constructor) (by repeat constructor) rfl ?_
    refine go_two ?_ ?_
    · skip
      refine go_appendN (T := tFa) (xs := []) (ys := l) Tk rfl rfl rfl rfl rfl rfl rfl rfl rfl (by repeat constructor) rfl (by repeat constructor) (by simp; omega) (by first | exact (fun _ _ _ => satS (by repeat constructor) (by repeat constructor)) | exact (fun h => nomatch h) | exact (fun h => nomatch (Eq.symm h).trans (show _ = false by kernel_rfl))) ?_
      intro A2 c2
      rw [List.nil_append]
      refine go_bslice Tk rfl rfl rfl rfl rfl rfl rfl rfl (fun h => nomatch h) ?_
      intro bn
      refine go_append1 (T := tFa) (xs := l) Tk (q) rfl rfl rfl rfl rfl rfl rfl rfl rfl (by repeat constructor) (by repeat constructor) rfl (ent_fa (by repeat constructor)) (by omega) (by first | exact (fun _ _ _ => satS (by repeat constructor) (by repeat constructor)) | exact (fun h => nomatch h) | exact (fun h => nomatch (Eq.symm h).trans (show _ = false by kernel_rfl))) ?_
      intro A3 c3
      refine go_pure1 Tk rfl rfl rfl ?_
      refine go_nil ?_
      refine go_ol_addr (xs := l ++ [q]) (by repeat constructor) (by simp) (fun bo hA => ?_); subst hA
      refine go_len_ol (xs := l ++ [q]) (by repeat constructor) (fun l3 m3 => ?_)
      have hll : (l ++ [q]).length = l.length + 1 := by simp
      refine go_toY (l := l ++ [q]) (by repeat constructor) (fun ys hy hyl => ?_)
      obtain ⟨xs, w0, rfl, hx, hw⟩ := split_last hy
      have hxl : xs.length = l.length := by rw [← hx]; simp
      rw [show xs ++ [w0] = xs.take l.length ++ w0 :: xs.drop l.length from by rw [← hxl]; simp]
      refine go_env [(3, _), (5, _), (6, _)] ⟨rfl, rfl, rfl, trivial⟩ ?_
      refine go_seq ?_
      refine go_block ?_
      refine go_loop' (X := Nat × Fy) (fun x => [(5, .int .i64 (x.1 : Int))]) [(3, _), (6, _)] (fun x => [ol tFy 31 (some ⟨bo, 0, none⟩) c3 (xs.take x.1 ++ x.2 :: xs.drop x.1)]) (fun x => x.1 ≤ l.length ∧ ∀ y ∈ l.drop x.1, 0 < cF y q) (fun x => x.1) ((l.length, w0)) ⟨rfl, rfl, rfl, trivial⟩ (by repeat constructor) ⟨by omega, by simp⟩ ?_
      intro ⟨n, w⟩ ⟨hk, hz⟩
      simp only at hk hz ⊢
      have hmid := mid_len (l := xs) (n := n) (w := w) (by omega)
      refine go_seq ?_
      refine go_seq ?_
      by_cases hn0 : 0 < n
      · skip
        refine go_atY (xs := (xs.take n ++ w :: xs.drop n)) (by repeat constructor) (n - 1) (mid_get (by omega) (by omega)) ?_
        refine go_draw'  [7, 8] (SL.pre [(1, 0), (1, 1), (1, 2), (1, 3), (1, 4), (1, 5), (1, 6), (2, 7), (2, 8), (0, 9), (1, 10), (1, 11)] .nil) mixed rfl (by kernel_rfl) ?_
        refine go_pure1 Tk rfl rfl rfl ?_
        refine go_pure1 Tk rfl rfl rfl ?_
        refine go_re 20 (.bool true) (by show some (Value.bool (decide _)) = _; rw [decide_eq_true (by omega)]) ?_
        refine go_pure1 Tk rfl rfl rfl ?_
        refine go_pure1 Tk rfl rfl rfl ?_
        refine go_pure1 Tk rfl rfl rfl ?_
        refine go_pure1 Tk rfl rfl rfl ?_
        refine go_i64 24 rfl (by omega) (by omega) ?_
        refine go_re 24 (.int .i64 ((n - 1 : Nat) : Int)) (by show some (Value.int _ _) = _; rw [show ((n - 1 : Nat) : Int) = (n : Int) - 1 by omega]) ?_
        refine go_val1 rfl (idx_val Tk rfl rfl rfl rfl rfl (by simp; omega)) rfl ?_
        refine go_val2 rfl (load_val Tk rfl rfl rfl (at_olp fcY fcY_eq (xs := (xs.take n ++ w :: xs.drop n)) (by repeat constructor) (n - 1) (mid_get (by omega) (by omega)) rfl rfl) rfl) (by repeat constructor) (by repeat constructor) rfl ?_
        refine go_val2 rfl (load_val Tk rfl rfl rfl (by first | exact at_pt (by repeat constructor) (by rfl) | exact at_cl 0 (by repeat constructor) (by rfl) | exact at_cl 1 (by repeat constructor) (by rfl) | exact at_cl 2 (by repeat constructor) (by rfl) | exact at_cl 3 (by repeat constructor) (by rfl) | exact at_cl 4 (by repeat constructor) (by rfl) | exact at_cl 5 (by repeat constructor) (by rfl) | exact at_cl 6 (by repeat constructor) (by rfl) | exact at_cl 7 (by repeat constructor) (by rfl)) (by rfl)) (by repeat constructor) (by repeat constructor) rfl ?_
        refine go_call (refCompare xs[n - 1].f.p xs[n - 1].A xs[n - 1].f.a xs[n - 1].c _ _ _ _) rfl rfl (by rfl) rfl (by repeat constructor) (by repeat constructor) (fun h => nomatch h) ?_
        rintro _ _ _ ⟨rfl, rfl, rfl⟩
        refine go_pure1 Tk rfl rfl rfl ?_
        refine go_pure1 Tk rfl rfl rfl ?_
        refine go_nil ?_
        refine go_env [(3, _), (5, _), (6, _), (22, _), (23, _), (24, _), (25, _), (26, _), (27, _), (28, _), (29, _), (30, _)] ⟨rfl, rfl, rfl, rfl, rfl, rfl, rfl, rfl, rfl, rfl, rfl, rfl, trivial⟩ ?_
        refine go_cond rfl ?_ ?_
        · intro g2
          (try simp only [decide_eq_true_eq, decide_eq_false_iff_not, Bool.not_eq_true', Bool.not_eq_false', Bool.not_eq_eq_eq_not, Bool.not_true, Bool.not_false, Int.not_lt, Int.not_le, beq_iff_eq, beq_eq_false_iff_ne, ne_eq] at g2)
          refine go_skip ?_
          refine go_block ?_
          refine go_seq ?_
          refine go_region rfl ?_
          refine go_pure0 Tk rfl rfl rfl ?_
          refine go_pure0 Tk rfl rfl rfl ?_
          refine go_pure0 Tk rfl rfl rfl ?_
          refine go_pure0 Tk rfl rfl rfl ?_
          refine go_pure0 Tk rfl rfl rfl ?_
          refine go_i64 35 rfl (by omega) (by omega) ?_
          refine go_re 35 (.int .i64 ((n - 1 : Nat) : Int)) (by show some (Value.int _ _) = _; rw [show ((n - 1 : Nat) : Int) = (n : Int) - 1 by omega]) ?_
          refine go_val0 rfl (idx_val Tk rfl rfl rfl rfl rfl (by simp; omega)) rfl ?_
          refine go_val0 rfl (load_val Tk rfl rfl rfl (at_olp fcY fcY_eq (xs := (xs.take n ++ w :: xs.drop n)) (by repeat constructor) (n - 1) (mid_get (by omega) (by omega)) rfl rfl) rfl) rfl ?_
          refine go_val0 rfl (idx_val Tk rfl rfl rfl rfl rfl (by simp; omega)) rfl ?_
          refine go_store_el (T := tFy) (xs := (xs.take n ++ w :: xs.drop n)) (j := n) Tk (xs[n - 1]) rfl rfl rfl rfl rfl rfl (by repeat constructor) (by omega) rfl rfl (ent_Y (by repeat constructor)) (fun h => nomatch h) ?_
          rw [set_mid (by omega), mid_back (by omega) (by omega)]
          refine go_nil ?_
          refine go_env [(3, _), (5, _), (6, _), (22, _), (23, _), (24, _), (25, _), (26, _), (27, _), (28, _), (29, _)] ⟨rfl, rfl, rfl, rfl, rfl, rfl, rfl, rfl, rfl, rfl, rfl, trivial⟩ ?_
          refine go_region rfl ?_
          refine go_pure0 Tk rfl rfl rfl ?_
          refine go_pure0 Tk rfl rfl rfl ?_
          refine go_i64 40 rfl (by omega) (by omega) ?_
          refine go_re 40 (.int .i64 ((n - 1 : Nat) : Int)) (by show some (Value.int _ _) = _; rw [show ((n - 1 : Nat) : Int) = (n : Int) - 1 by omega]) ?_
          refine go_pure0 Tk rfl rfl rfl ?_
          refine go_nil ?_
          refine go_env [(3, _), (5, _), (6, _), (22, _), (23, _), (24, _), (25, _), (26, _), (27, _), (28, _), (29, _)] ⟨rfl, rfl, rfl, rfl, rfl, rfl, rfl, rfl, rfl, rfl, rfl, trivial⟩ ?_
          refine go_blk ?_
          refine go_back (n - 1, xs[n - 1]) ⟨rfl, rfl, rfl, trivial⟩ (by repeat constructor) (by repeat constructor) ⟨by show n - 1 ≤ _; omega, drop_more (by omega) (by omega) hz (by rw [← getF hx (show n - 1 < xs.length by omega)]; exact g2)⟩ (by show n - 1 < n; omega)
        · intro g2
          (try simp only [decide_eq_true_eq, decide_eq_false_iff_not, Bool.not_eq_true', Bool.not_eq_false', Bool.not_eq_eq_eq_not, Bool.not_true, Bool.not_false, Int.not_lt, Int.not_le, beq_iff_eq, beq_eq_false_iff_ne, ne_eq] at g2)
          refine go_exit rfl ?_
          refine go_seq ?_
          have hlast : ∀ (h : 0 < n), ¬ 0 < cF (l[n - 1]'(by omega)) q := by
            intro h
            first
            | omega
            | (rw [← getF hx (show n - 1 < xs.length by omega)]; unfold cF; omega)
          refine go_region rfl ?_
          refine go_pure0 Tk rfl rfl rfl ?_
          refine go_pure0 Tk rfl rfl rfl ?_
          refine go_val0 rfl (load_val Tk rfl rfl rfl (by first | exact at_pt (by repeat constructor) (by rfl) | exact at_cl 0 (by repeat constructor) (by rfl) | exact at_cl 1 (by repeat constructor) (by rfl) | exact at_cl 2 (by repeat constructor) (by rfl) | exact at_cl 3 (by repeat constructor) (by rfl) | exact at_cl 4 (by repeat constructor) (by rfl) | exact at_cl 5 (by repeat constructor) (by rfl) | exact at_cl 6 (by repeat constructor) (by rfl) | exact at_cl 7 (by repeat constructor) (by rfl)) (by rfl)) rfl ?_
          refine go_val0 rfl (idx_val Tk rfl rfl rfl rfl rfl (by simp; omega)) rfl ?_
          refine go_store_el (T := tFy) (xs := (xs.take n ++ w :: xs.drop n)) (j := n) Tk (⟨q, QA, qc⟩ : Fy) rfl rfl rfl rfl rfl rfl (by repeat constructor) (by omega) rfl rfl (ent_Y (x := ⟨q, QA, qc⟩) (by repeat constructor)) (fun h => nomatch h) ?_
          rw [set_mid (by omega)]
          refine go_ofY (xs := xs.take n ++ (⟨q, QA, qc⟩ : Fy) :: xs.drop n) (by repeat constructor) ?_
          rw [mid_map hx, fput_at g1 hr (by omega) hz hlast, show (l ++ [q]).length = (fput l q).length from by rw [fput_no g1]; simp; omega]
          refine go_freeze_ol (xs := fput l q) (by repeat constructor) ?_
          refine go_nil ?_
          refine go_env [(6, _)] ⟨rfl, trivial⟩ ?_
          refine go_seq ?_
          refine go_region rfl ?_
          refine go_pure0 Tk rfl rfl rfl ?_
          refine go_pure0 Tk rfl rfl rfl ?_
          refine go_nil ?_
          refine go_env [(4, _)] ⟨rfl, trivial⟩ ?_
          refine go_ret ⟨rfl, rfl⟩ _ _ (fun a w hp ho hf hs => res1 (by rfl) (.tmp rfl) a w hp ho hf hs) ⟨some ⟨bo, 0, none⟩, c3, rfl, rfl, rfl⟩ (by repeat constructor) (by repeat constructor)
      · skip
        refine go_draw'  [7, 8] (SL.pre [(1, 0), (1, 1), (1, 2), (1, 3), (1, 4), (1, 5), (1, 6), (2, 7), (2, 8), (0, 9), (1, 10), (1, 11)] .nil) mixed rfl (by kernel_rfl) ?_
        refine go_pure1 Tk rfl rfl rfl ?_
        refine go_pure1 Tk rfl rfl rfl ?_
        refine go_re 20 (.bool false) (by show some (Value.bool (decide _)) = _; rw [decide_eq_false (by omega)]) ?_
        refine go_pure1 Tk rfl rfl rfl ?_
        refine go_skip1 rfl rfl ?_
        refine go_skip1 rfl rfl ?_
        refine go_skip1 rfl rfl ?_
        refine go_skip1 rfl rfl ?_
        refine go_skip2 rfl (by repeat constructor) (by repeat constructor) rfl ?_
        refine go_skip2 rfl (by repeat constructor) (by repeat constructor) rfl ?_
        refine go_skip0 rfl rfl ?_
        refine go_skip1 rfl rfl ?_
        refine go_pure1 Tk rfl rfl rfl ?_
        refine go_nil ?_
        refine go_env [(3, _), (5, _), (6, _), (22, _), (23, _), (24, _), (25, _), (26, _), (27, _), (28, _), (29, _), (30, _)] ⟨rfl, rfl, rfl, rfl, rfl, rfl, rfl, rfl, rfl, rfl, rfl, rfl, trivial⟩ ?_
        refine go_cond_f rfl ?_
        refine go_exit rfl ?_
        refine go_seq ?_
        have hlast : ∀ (h : 0 < n), ¬ 0 < cF (l[n - 1]'(by omega)) q := by
          intro h
          first
          | omega
          | (rw [← getF hx (show n - 1 < xs.length by omega)]; unfold cF; omega)
        refine go_region rfl ?_
        refine go_pure0 Tk rfl rfl rfl ?_
        refine go_pure0 Tk rfl rfl rfl ?_
        refine go_val0 rfl (load_val Tk rfl rfl rfl (by first | exact at_pt (by repeat constructor) (by rfl) | exact at_cl 0 (by repeat constructor) (by rfl) | exact at_cl 1 (by repeat constructor) (by rfl) | exact at_cl 2 (by repeat constructor) (by rfl) | exact at_cl 3 (by repeat constructor) (by rfl) | exact at_cl 4 (by repeat constructor) (by rfl) | exact at_cl 5 (by repeat constructor) (by rfl) | exact at_cl 6 (by repeat constructor) (by rfl) | exact at_cl 7 (by repeat constructor) (by rfl)) (by rfl)) rfl ?_
        refine go_val0 rfl (idx_val Tk rfl rfl rfl rfl rfl (by simp; omega)) rfl ?_
        refine go_store_el (T := tFy) (xs := (xs.take n ++ w :: xs.drop n)) (j := n) Tk (⟨q, QA, qc⟩ : Fy) rfl rfl rfl rfl rfl rfl (by repeat constructor) (by omega) rfl rfl (ent_Y (x := ⟨q, QA, qc⟩) (by repeat constructor)) (fun h => nomatch h) ?_
        rw [set_mid (by omega)]
        refine go_ofY (xs := xs.take n ++ (⟨q, QA, qc⟩ : Fy) :: xs.drop n) (by repeat constructor) ?_
        rw [mid_map hx, fput_at g1 hr (by omega) hz hlast, show (l ++ [q]).length = (fput l q).length from by rw [fput_no g1]; simp; omega]
        refine go_freeze_ol (xs := fput l q) (by repeat constructor) ?_
        refine go_nil ?_
        refine go_env [(6, _)] ⟨rfl, trivial⟩ ?_
        refine go_seq ?_
        refine go_region rfl ?_
        refine go_pure0 Tk rfl rfl rfl ?_
        refine go_pure0 Tk rfl rfl rfl ?_
        refine go_nil ?_
        refine go_env [(4, _)] ⟨rfl, trivial⟩ ?_
        refine go_ret ⟨rfl, rfl⟩ _ _ (fun a w hp ho hf hs => res1 (by rfl) (.tmp rfl) a w hp ho hf hs) ⟨some ⟨bo, 0, none⟩, c3, rfl, rfl, rfl⟩ (by repeat constructor) (by repeat constructor)
    refine go_bslice Tk rfl rfl rfl rfl rfl rfl rfl rfl (fun h => nomatch h) ?_
    intro bn
    refine go_appendN (T := tFa) (xs := []) (ys := l) Tk rfl rfl rfl rfl rfl rfl rfl rfl rfl (by repeat constructor) rfl (by repeat constructor) (by simp; omega) (by first | exact (fun _ _ _ => satS (by repeat constructor) (by repeat constructor)) | exact (fun h => nomatch h) | exact (fun h => nomatch (Eq.symm h).trans (show _ = false by kernel_rfl))) ?_
    intro A2 c2
    rw [List.nil_append]
    refine go_append1 (T := tFa) (xs := l) Tk (q) rfl rfl rfl rfl rfl rfl rfl rfl rfl (by repeat constructor) (by repeat constructor) rfl (ent_fa (by repeat constructor)) (by omega) (by first | exact (fun _ _ _ => satS (by repeat constructor) (by repeat constructor)) | exact (fun h => nomatch h) | exact (fun h => nomatch (Eq.symm h).trans (show _ = false by kernel_rfl))) ?_
    intro A3 c3
    refine go_pure1 Tk rfl rfl rfl ?_
    refine go_nil ?_
    refine go_ol_addr (xs := l ++ [q]) (by repeat constructor) (by simp) (fun bo hA => ?_); subst hA
    refine go_len_ol (xs := l ++ [q]) (by repeat constructor) (fun l3 m3 => ?_)
    have hll : (l ++ [q]).length = l.length + 1 := by simp
    refine go_toY (l := l ++ [q]) (by repeat constructor) (fun ys hy hyl => ?_)
    obtain ⟨xs, w0, rfl, hx, hw⟩ := split_last hy
    have hxl : xs.length = l.length := by rw [← hx]; simp
    rw [show xs ++ [w0] = xs.take l.length ++ w0 :: xs.drop l.length from by rw [← hxl]; simp]
    refine go_env [(3, _), (5, _), (6, _)] ⟨rfl, rfl, rfl, trivial⟩ ?_
    refine go_seq ?_
    refine go_block ?_
    refine go_loop' (X := Nat × Fy) (fun x => [(5, .int .i64 (x.1 : Int))]) [(3, _), (6, _)] (fun x => [ol tFy 31 (some ⟨bo, 0, none⟩) c3 (xs.take x.1 ++ x.2 :: xs.drop x.1)]) (fun x => x.1 ≤ l.length ∧ ∀ y ∈ l.drop x.1, 0 < cF y q) (fun x => x.1) ((l.length, w0)) ⟨rfl, rfl, rfl, trivial⟩ (by repeat constructor) ⟨by omega, by simp⟩ ?_
    intro ⟨n, w⟩ ⟨hk, hz⟩
    simp only at hk hz ⊢
    have hmid := mid_len (l := xs) (n := n) (w := w) (by omega)
    refine go_seq ?_
    refine go_seq ?_
    by_cases hn0 : 0 < n
    · skip
      refine go_atY (xs := (xs.take n ++ w :: xs.drop n)) (by repeat constructor) (n - 1) (mid_get (by omega) (by omega)) ?_
      refine go_draw'  [7, 8] (SL.pre [(1, 0), (1, 1), (1, 2), (1, 3), (1, 4), (1, 5), (1, 6), (2, 7), (2, 8), (0, 9), (1, 10), (1, 11)] .nil) mixed rfl (by kernel_rfl) ?_
      refine go_pure1 Tk rfl rfl rfl ?_
      refine go_pure1 Tk rfl rfl rfl ?_
      refine go_re 20 (.bool true) (by show some (Value.bool (decide _)) = _; rw [decide_eq_true (by omega)]) ?_
      refine go_pure1 Tk rfl rfl rfl ?_
      refine go_pure1 Tk rfl rfl rfl ?_
      refine go_pure1 Tk rfl rfl rfl ?_
      refine go_pure1 Tk rfl rfl rfl ?_
      refine go_i64 24 rfl (by omega) (by omega) ?_
      refine go_re 24 (.int .i64 ((n - 1 : Nat) : Int)) (by show some (Value.int _ _) = _; rw [show ((n - 1 : Nat) : Int) = (n : Int) - 1 by omega]) ?_
      refine go_val1 rfl (idx_val Tk rfl rfl rfl rfl rfl (by simp; omega)) rfl ?_
      refine go_val2 rfl (load_val Tk rfl rfl rfl (at_olp fcY fcY_eq (xs := (xs.take n ++ w :: xs.drop n)) (by repeat constructor) (n - 1) (mid_get (by omega) (by omega)) rfl rfl) rfl) (by repeat constructor) (by repeat constructor) rfl ?_
      refine go_val2 rfl (load_val Tk rfl rfl rfl (by first | exact at_pt (by repeat constructor) (by rfl) | exact at_cl 0 (by repeat constructor) (by rfl) | exact at_cl 1 (by repeat constructor) (by rfl) | exact at_cl 2 (by repeat constructor) (by rfl) | exact at_cl 3 (by repeat constructor) (by rfl) | exact at_cl 4 (by repeat constructor) (by rfl) | exact at_cl 5 (by repeat constructor) (by rfl) | exact at_cl 6 (by repeat constructor) (by rfl) | exact at_cl 7 (by repeat constructor) (by rfl)) (by rfl)) (by repeat constructor) (by repeat constructor) rfl ?_
      refine go_call (refCompare xs[n - 1].f.p xs[n - 1].A xs[n - 1].f.a xs[n - 1].c _ _ _ _) rfl rfl (by rfl) rfl (by repeat constructor) (by repeat constructor) (fun h => nomatch h) ?_
      rintro _ _ _ ⟨rfl, rfl, rfl⟩
      refine go_pure1 Tk rfl rfl rfl ?_
      refine go_pure1 Tk rfl rfl rfl ?_
      refine go_nil ?_
      refine go_env [(3, _), (5, _), (6, _), (22, _), (23, _), (24, _), (25, _), (26, _), (27, _), (28, _), (29, _), (30, _)] ⟨rfl, rfl, rfl, rfl, rfl, rfl, rfl, rfl, rfl, rfl, rfl, rfl, trivial⟩ ?_
      refine go_cond rfl ?_ ?_
      · intro g2
        (try simp only [decide_eq_true_eq, decide_eq_false_iff_not, Bool.not_eq_true', Bool.not_eq_false', Bool.not_eq_eq_eq_not, Bool.not_true, Bool.not_false, Int.not_lt, Int.not_le, beq_iff_eq, beq_eq_false_iff_ne, ne_eq] at g2)
        refine go_skip ?_
        refine go_block ?_
        refine go_seq ?_
        refine go_region rfl ?_
        refine go_pure0 Tk rfl rfl rfl ?_
        refine go_pure0 Tk rfl rfl rfl ?_
        refine go_pure0 Tk rfl rfl rfl ?_
        refine go_pure0 Tk rfl rfl rfl ?_
        refine go_pure0 Tk rfl rfl rfl ?_
        refine go_i64 35 rfl (by omega) (by omega) ?_
        refine go_re 35 (.int .i64 ((n - 1 : Nat) : Int)) (by show some (Value.int _ _) = _; rw [show ((n - 1 : Nat) : Int) = (n : Int) - 1 by omega]) ?_
        refine go_val0 rfl (idx_val Tk rfl rfl rfl rfl rfl (by simp; omega)) rfl ?_
        refine go_val0 rfl (load_val Tk rfl rfl rfl (at_olp fcY fcY_eq (xs := (xs.take n ++ w :: xs.drop n)) (by repeat constructor) (n - 1) (mid_get (by omega) (by omega)) rfl rfl) rfl) rfl ?_
        refine go_val0 rfl (idx_val Tk rfl rfl rfl rfl rfl (by simp; omega)) rfl ?_
        refine go_store_el (T := tFy) (xs := (xs.take n ++ w :: xs.drop n)) (j := n) Tk (xs[n - 1]) rfl rfl rfl rfl rfl rfl (by repeat constructor) (by omega) rfl rfl (ent_Y (by repeat constructor)) (fun h => nomatch h) ?_
        rw [set_mid (by omega), mid_back (by omega) (by omega)]
        refine go_nil ?_
        refine go_env [(3, _), (5, _), (6, _), (22, _), (23, _), (24, _), (25, _), (26, _), (27, _), (28, _), (29, _)] ⟨rfl, rfl, rfl, rfl, rfl, rfl, rfl, rfl, rfl, rfl, rfl, trivial⟩ ?_
        refine go_region rfl ?_
        refine go_pure0 Tk rfl rfl rfl ?_
        refine go_pure0 Tk rfl rfl rfl ?_
        refine go_i64 40 rfl (by omega) (by omega) ?_
        refine go_re 40 (.int .i64 ((n - 1 : Nat) : Int)) (by show some (Value.int _ _) = _; rw [show ((n - 1 : Nat) : Int) = (n : Int) - 1 by omega]) ?_
        refine go_pure0 Tk rfl rfl rfl ?_
        refine go_nil ?_
        refine go_env [(3, _), (5, _), (6, _), (22, _), (23, _), (24, _), (25, _), (26, _), (27, _), (28, _), (29, _)] ⟨rfl, rfl, rfl, rfl, rfl, rfl, rfl, rfl, rfl, rfl, rfl, trivial⟩ ?_
        refine go_blk ?_
        refine go_back (n - 1, xs[n - 1]) ⟨rfl, rfl, rfl, trivial⟩ (by repeat constructor) (by repeat constructor) ⟨by show n - 1 ≤ _; omega, drop_more (by omega) (by omega) hz (by rw [← getF hx (show n - 1 < xs.length by omega)]; exact g2)⟩ (by show n - 1 < n; omega)
      · intro g2
        (try simp only [decide_eq_true_eq, decide_eq_false_iff_not, Bool.not_eq_true', Bool.not_eq_false', Bool.not_eq_eq_eq_not, Bool.not_true, Bool.not_false, Int.not_lt, Int.not_le, beq_iff_eq, beq_eq_false_iff_ne, ne_eq] at g2)
        refine go_exit rfl ?_
        refine go_seq ?_
        have hlast : ∀ (h : 0 < n), ¬ 0 < cF (l[n - 1]'(by omega)) q := by
          intro h
          first
          | omega
          | (rw [← getF hx (show n - 1 < xs.length by omega)]; unfold cF; omega)
        refine go_region rfl ?_
        refine go_pure0 Tk rfl rfl rfl ?_
        refine go_pure0 Tk rfl rfl rfl ?_
        refine go_val0 rfl (load_val Tk rfl rfl rfl (by first | exact at_pt (by repeat constructor) (by rfl) | exact at_cl 0 (by repeat constructor) (by rfl) | exact at_cl 1 (by repeat constructor) (by rfl) | exact at_cl 2 (by repeat constructor) (by rfl) | exact at_cl 3 (by repeat constructor) (by rfl) | exact at_cl 4 (by repeat constructor) (by rfl) | exact at_cl 5 (by repeat constructor) (by rfl) | exact at_cl 6 (by repeat constructor) (by rfl) | exact at_cl 7 (by repeat constructor) (by rfl)) (by rfl)) rfl ?_
        refine go_val0 rfl (idx_val Tk rfl rfl rfl rfl rfl (by simp; omega)) rfl ?_
        refine go_store_el (T := tFy) (xs := (xs.take n ++ w :: xs.drop n)) (j := n) Tk (⟨q, QA, qc⟩ : Fy) rfl rfl rfl rfl rfl rfl (by repeat constructor) (by omega) rfl rfl (ent_Y (x := ⟨q, QA, qc⟩) (by repeat constructor)) (fun h => nomatch h) ?_
        rw [set_mid (by omega)]
        refine go_ofY (xs := xs.take n ++ (⟨q, QA, qc⟩ : Fy) :: xs.drop n) (by repeat constructor) ?_
        rw [mid_map hx, fput_at g1 hr (by omega) hz hlast, show (l ++ [q]).length = (fput l q).length from by rw [fput_no g1]; simp; omega]
        refine go_freeze_ol (xs := fput l q) (by repeat constructor) ?_
        refine go_nil ?_
        refine go_env [(6, _)] ⟨rfl, trivial⟩ ?_
        refine go_seq ?_
        refine go_region rfl ?_
        refine go_pure0 Tk rfl rfl rfl ?_
        refine go_pure0 Tk rfl rfl rfl ?_
        refine go_nil ?_
        refine go_env [(4, _)] ⟨rfl, trivial⟩ ?_
        refine go_ret ⟨rfl, rfl⟩ _ _ (fun a w hp ho hf hs => res1 (by rfl) (.tmp rfl) a w hp ho hf hs) ⟨some ⟨bo, 0, none⟩, c3, rfl, rfl, rfl⟩ (by repeat constructor) (by repeat constructor)
    · skip
      refine go_draw'  [7, 8] (SL.pre [(1, 0), (1, 1), (1, 2), (1, 3), (1, 4), (1, 5), (1, 6), (2, 7), (2, 8), (0, 9), (1, 10), (1, 11)] .nil) mixed rfl (by kernel_rfl) ?_
      refine go_pure1 Tk rfl rfl rfl ?_
      refine go_pure1 Tk rfl rfl rfl ?_
      refine go_re 20 (.bool false) (by show some (Value.bool (decide _)) = _; rw [decide_eq_false (by omega)]) ?_
      refine go_pure1 Tk rfl rfl rfl ?_
      refine go_skip1 rfl rfl ?_
      refine go_skip1 rfl rfl ?_
      refine go_skip1 rfl rfl ?_
      refine go_skip1 rfl rfl ?_
      refine go_skip2 rfl (by repeat constructor) (by repeat constructor) rfl ?_
      refine go_skip2 rfl (by repeat constructor) (by repeat constructor) rfl ?_
      refine go_skip0 rfl rfl ?_
      refine go_skip1 rfl rfl ?_
      refine go_pure1 Tk rfl rfl rfl ?_
      refine go_nil ?_
      refine go_env [(3, _), (5, _), (6, _), (22, _), (23, _), (24, _), (25, _), (26, _), (27, _), (28, _), (29, _), (30, _)] ⟨rfl, rfl, rfl, rfl, rfl, rfl, rfl, rfl, rfl, rfl, rfl, rfl, trivial⟩ ?_
      refine go_cond_f rfl ?_
      refine go_exit rfl ?_
      refine go_seq ?_
      have hlast : ∀ (h : 0 < n), ¬ 0 < cF (l[n - 1]'(by omega)) q := by
        intro h
        first
        | omega
        | (rw [← getF hx (show n - 1 < xs.length by omega)]; unfold cF; omega)
      refine go_region rfl ?_
      refine go_pure0 Tk rfl rfl rfl ?_
      refine go_pure0 Tk rfl rfl rfl ?_
      refine go_val0 rfl (load_val Tk rfl rfl rfl (by first | exact at_pt (by repeat constructor) (by rfl) | exact at_cl 0 (by repeat constructor) (by rfl) | exact at_cl 1 (by repeat constructor) (by rfl) | exact at_cl 2 (by repeat constructor) (by rfl) | exact at_cl 3 (by repeat constructor) (by rfl) | exact at_cl 4 (by repeat constructor) (by rfl) | exact at_cl 5 (by repeat constructor) (by rfl) | exact at_cl 6 (by repeat constructor) (by rfl) | exact at_cl 7 (by repeat constructor) (by rfl)) (by rfl)) rfl ?_
      refine go_val0 rfl (idx_val Tk rfl rfl rfl rfl rfl (by simp; omega)) rfl ?_
      refine go_store_el (T := tFy) (xs := (xs.take n ++ w :: xs.drop n)) (j := n) Tk (⟨q, QA, qc⟩ : Fy) rfl rfl rfl rfl rfl rfl (by repeat constructor) (by omega) rfl rfl (ent_Y (x := ⟨q, QA, qc⟩) (by repeat constructor)) (fun h => nomatch h) ?_
      rw [set_mid (by omega)]
      refine go_ofY (xs := xs.take n ++ (⟨q, QA, qc⟩ : Fy) :: xs.drop n) (by repeat constructor) ?_
      rw [mid_map hx, fput_at g1 hr (by omega) hz hlast, show (l ++ [q]).length = (fput l q).length from by rw [fput_no g1]; simp; omega]
      refine go_freeze_ol (xs := fput l q) (by repeat constructor) ?_
      refine go_nil ?_
      refine go_env [(6, _)] ⟨rfl, trivial⟩ ?_
      refine go_seq ?_
      refine go_region rfl ?_
      refine go_pure0 Tk rfl rfl rfl ?_
      refine go_pure0 Tk rfl rfl rfl ?_
      refine go_nil ?_
      refine go_env [(4, _)] ⟨rfl, trivial⟩ ?_
      refine go_ret ⟨rfl, rfl⟩ _ _ (fun a w hp ho hf hs => res1 (by rfl) (.tmp rfl) a w hp ho hf hs) ⟨some ⟨bo, 0, none⟩, c3, rfl, rfl, rfl⟩ (by repeat constructor) (by repeat constructor)

end Go.Proofs.Ytdkfpgdfjnaciaa.SL
