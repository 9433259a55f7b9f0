/- Contracts of functions of the program (Relp): what each call comes to, for the laws' proofs. -/
import Derived.Test.YtdkfpgdfjnaciaaRelput
import Derived.Test.YtdkfpgdfjnaciaaD6
set_option linter.unusedVariables false
set_option linter.unusedSimpArgs false
namespace Go.Proofs.Ytdkfpgdfjnaciaa.SL
open Go 

/-- A set of facts that is read. -/
def relP (b : Nat) (l : List Fa) : PA := ⟨fun h => ∃ (A : Option Addr) (c : Nat), (cl b 0 [.slice A l.length c]).p h ∧ Sl tFa h A c l, fun hl ⟨A, c, h1, h2⟩ => ⟨A, c, PA.up _ hl h1, h2.up hl⟩⟩
theorem go_relP {C : Ctx} {k : List It} {E : Env} {Ps : List PA} {Os : List OA} {b : Nat} {l : List Fa} (h : relP b l ∈ Ps) (g : ∀ (A : Option Addr) (c : Nat), Go C k E (cl b 0 [.slice A l.length c] :: sl tFa A c l :: Ps) Os) : Go C k E Ps Os := fun a w hp ho hf hs hb => by
  obtain ⟨A, c, h1, h2⟩ := hs.ps _ h
  exact g A c a w hp ho hf ((hs.addp (q := sl tFa A c l) h2).addp h1) hb
theorem pt_cl {b ty : Nat} {cs : List Value} {hp h H : Heap} (hl : h.le H) (q : (pt b ty cs).p hp h) : (cl b 0 cs).p H := fun j v hj => by
  have q' : h b = some (.cells cs.toArray ty (0, 0)) := q
  refine cellH_le hl ?_
  simp only [cellH, q', Nat.zero_add]
  simpa using hj
theorem lend_rel {b : Nat} {l : List Fa} : ∀ (hp h1 H : Heap), hp.le H → h1.le H → (relO b l).p hp h1 → (relP b l).p H := fun hp h1 H l1 l2 ⟨A, c, q⟩ => by
  obtain ⟨g1, g2, x1, x2, _, d1, g3, g4, y1, _, _, ⟨cs, r, s⟩, _⟩ := (show Sep hp [pt b 110 [.slice A (l).length c], ol tFa 31 A c (l)] h1 from q)
  exact ⟨A, c, pt_cl (x1.tr l2) d1, sl_of_row r (y1.tr (x2.tr l2)) (s.up l1)⟩
theorem go_freeze_rel {C : Ctx} {k : List It} {E : Env} {Ps : List PA} {Os rr : List OA} {b : Nat} {l : List Fa} (h : Rem (relO b l) Os rr) (g : Go C k E (relP b l :: Ps) rr) : Go C k E Ps Os := go_freeze _ (relP b l) h lend_rel g
/-- A contract that only reads a set, where the set is one's own. -/
theorem Spec.own {P : Program} {f : FuncId} {args : Array Value} {b : Nat} {l : List Fa} {Ps : List PA} {Q : Value → Prop} (s : Spec P f args (relP b l :: Ps) [] (fun v Ps' Os' => Q v ∧ Ps' = [] ∧ Os' = [])) : Spec P f args Ps [relO b l] (fun v Ps' Os' => Q v ∧ Ps' = [] ∧ Os' = [relO b l]) :=
  (s.lend (relO b l) lend_rel (fun v P' O' h => ⟨h.2.1, by rw [h.2.2]; intro B hB; cases hB⟩)).imp fun v P' O' ⟨O2, ⟨h1, _, h3⟩, h4, h5⟩ => ⟨h1, h4, by rw [h5, h3]⟩

set_option maxHeartbeats 2000000 in
set_option maxRecDepth 20000 in
theorem binSearchP (A : Option Addr) (c : Nat) (l : List Fa) (q : Fa) (QA : Option Addr) (qc : Nat) (hr : rises l) (hn : l.length ≤ 1000000) :
    Spec Try.prog 99 #[.slice A l.length c, .agg #[.int .u32 q.p, .slice QA q.a.length qc], .func (.func 49) #[] #[]] [sl tFa A c l, sl tU QA qc q.a] [] (fun v Ps' Os' => v = .tuple #[.int .i64 (at_ l q : Int), .bool (decide (q ∈ l))] ∧ Ps' = [] ∧ Os' = []) := by
  refine spec_of (fn := Try.f99) (args := [.slice A l.length c, .agg #[.int .u32 q.p, .slice QA q.a.length qc], .func (.func 49) #[] #[]]) 49 Try.func99 rfl (by kernel_rfl) Try.ntmps99 (Nat.le_of_ble_eq_true rfl) (fun w0 hp0 hf0 => ?_)
  refine go_seq ?_
  refine go_region rfl ?_
  refine go_box Tk rfl rfl rfl rfl (by rfl) rfl rfl (fun h => nomatch h) ?_
  intro b1
  refine go_pure0 Tk rfl rfl rfl ?_
  refine go_pure0 Tk rfl rfl rfl ?_
  refine go_nil ?_
  refine go_env [(0, _), (2, _), (4, _)] ⟨rfl, rfl, rfl, trivial⟩ ?_
  refine go_seq ?_
  refine go_region rfl ?_
  refine go_pure0 Tk rfl rfl rfl ?_
  refine go_pure0 Tk rfl rfl rfl ?_
  refine go_pure0 Tk rfl rfl rfl ?_
  refine go_nil ?_
  refine go_env [(0, _), (2, _), (4, _), (8, _)] ⟨rfl, rfl, rfl, rfl, trivial⟩ ?_
  refine go_seq ?_
  refine go_region rfl ?_
  refine go_pure0 Tk rfl rfl rfl ?_
  refine go_pure0 Tk rfl rfl rfl ?_
  refine go_pure0 Tk rfl rfl rfl ?_
  refine go_nil ?_
  refine go_env [(0, _), (2, _), (4, _), (8, _), (9, _), (10, _)] ⟨rfl, rfl, rfl, rfl, rfl, rfl, trivial⟩ ?_
  refine go_seq ?_
  refine go_block ?_
  refine go_loop' (X := Nat × Nat) (fun x => [(9, .int .i64 (x.1 : Int)), (10, .int .i64 (x.2 : Int))]) [(0, _), (2, _), (4, _), (8, _)] (fun _ => []) (fun x => x.1 ≤ x.2 ∧ x.2 ≤ l.length ∧ (∀ y ∈ l.take x.1, cF y q < 0) ∧ ∀ y ∈ l.drop x.2, ¬ cF y q < 0) (fun x => x.2 - x.1) ((0, l.length)) ⟨rfl, rfl, rfl, rfl, rfl, rfl, trivial⟩ (by repeat constructor) ⟨by omega, by omega, by simp, by simp⟩ ?_
  intro ⟨i, j⟩ ⟨hij, hj, hlo, hhi⟩
  simp only at hij hj hlo hhi ⊢
  refine go_seq ?_
  refine go_seq ?_
  refine go_region rfl ?_
  refine go_pure0 Tk rfl rfl rfl ?_
  refine go_pure0 Tk rfl rfl rfl ?_
  refine go_pure0 Tk rfl rfl rfl ?_
  refine go_nil ?_
  refine go_env [(0, _), (2, _), (4, _), (8, _), (9, _), (10, _), (17, _)] ⟨rfl, rfl, rfl, rfl, rfl, rfl, rfl, trivial⟩ ?_
  refine go_condD rfl ?_ ?_
  · intro c1
    refine go_skip ?_
    refine go_block ?_
    refine go_seq ?_
    refine go_region rfl ?_
    refine go_pure0 Tk rfl rfl rfl ?_
    refine go_pure0 Tk rfl rfl rfl ?_
    refine go_pure0 Tk rfl rfl rfl ?_
    refine go_i64 20 rfl (by omega) (by omega) ?_
    refine go_pure0 Tk rfl rfl rfl ?_
    refine go_re 21 (.int .u64 ((i + j : Nat) : Int)) (by show some (Value.int _ _) = _; rw [wrap_u64 (by omega)]; rfl) ?_
    refine go_pure0 Tk rfl rfl rfl ?_
    refine go_re 22 (.int .u64 (((i + j) / 2 : Nat) : Int)) (by show some (Value.int _ _) = _; rw [← half]) ?_
    refine go_pure0 Tk rfl rfl rfl ?_
    refine go_i64 23 rfl (by omega) (by omega) ?_
    obtain ⟨h, hh⟩ : ∃ h, h = (i + j) / 2 := ⟨_, rfl⟩
    rw [← hh]
    have hih : i ≤ h ∧ h < j := by omega
    refine go_pure0 Tk rfl rfl rfl ?_
    refine go_nil ?_
    refine go_env [(0, _), (2, _), (4, _), (8, _), (9, _), (10, _), (11, _)] ⟨rfl, rfl, rfl, rfl, rfl, rfl, rfl, trivial⟩ ?_
    refine go_seq ?_
    refine go_elem_fa (xs := l) (by repeat constructor) (h) (List.getElem?_eq_getElem (by omega)) (fun b0 o0 A0 c0 hA => ?_); cases hA
    refine go_draw'  [4, 5] (SL.pre [(1, 0), (1, 1), (1, 2), (1, 3), (2, 4), (2, 5), (0, 6), (1, 7)] .nil) mixed rfl (by kernel_rfl) ?_
    refine go_pure1 Tk rfl rfl rfl ?_
    refine go_pure1 Tk rfl rfl rfl ?_
    refine go_pure1 Tk rfl rfl rfl ?_
    refine go_val1 rfl (idx_val Tk rfl rfl rfl rfl rfl (by omega)) rfl ?_
    refine go_val2 rfl (load_val Tk rfl rfl rfl (by first | exact at_pt (by repeat constructor) (by rfl) | exact at_cl 0 (by repeat constructor) (by rfl) | exact at_cl 1 (by repeat constructor) (by rfl) | exact at_cl 2 (by repeat constructor) (by rfl) | exact at_cl 3 (by repeat constructor) (by rfl) | exact at_cl 4 (by repeat constructor) (by rfl) | exact at_cl 5 (by repeat constructor) (by rfl) | exact at_cl 6 (by repeat constructor) (by rfl) | exact at_cl 7 (by repeat constructor) (by rfl)) (by rfl)) (by repeat constructor) (by repeat constructor) rfl ?_
    refine go_val2 rfl (load_val Tk rfl rfl rfl (by first | exact at_pt (by repeat constructor) (by rfl) | exact at_cl 0 (by repeat constructor) (by rfl) | exact at_cl 1 (by repeat constructor) (by rfl) | exact at_cl 2 (by repeat constructor) (by rfl) | exact at_cl 3 (by repeat constructor) (by rfl) | exact at_cl 4 (by repeat constructor) (by rfl) | exact at_cl 5 (by repeat constructor) (by rfl) | exact at_cl 6 (by repeat constructor) (by rfl) | exact at_cl 7 (by repeat constructor) (by rfl)) (by rfl)) (by repeat constructor) (by repeat constructor) rfl ?_
    refine go_call (atomsCompare _ _ _ _ _ _ _ _) rfl rfl (by rfl) rfl (by repeat constructor) (by repeat constructor) (fun h => nomatch h) ?_
    rintro _ _ _ ⟨rfl, rfl, rfl⟩
    refine go_pure1 Tk rfl rfl rfl ?_
    refine go_nil ?_
    refine go_env [(0, _), (2, _), (4, _), (8, _), (9, _), (10, _), (11, _), (31, _)] ⟨rfl, rfl, rfl, rfl, rfl, rfl, rfl, rfl, trivial⟩ ?_
    refine go_condD rfl ?_ ?_
    · intro c2
      refine go_region rfl ?_
      refine go_pure0 Tk rfl rfl rfl ?_
      refine go_pure0 Tk rfl rfl rfl ?_
      refine go_i64 33 rfl (by omega) (by omega) ?_
      refine go_pure0 Tk rfl rfl rfl ?_
      refine go_nil ?_
      refine go_env [(0, _), (2, _), (4, _), (8, _), (9, _), (10, _)] ⟨rfl, rfl, rfl, rfl, rfl, rfl, trivial⟩ ?_
      refine go_blk ?_
      refine go_back (h + 1, j) ⟨rfl, rfl, rfl, rfl, rfl, rfl, trivial⟩ (by repeat constructor) (by repeat constructor) ⟨by show h + 1 ≤ j; omega, hj, rises_take hr (by omega) c2, hhi⟩ (by show j - (h + 1) < j - i; omega)
    · intro c2
      refine go_region rfl ?_
      refine go_pure0 Tk rfl rfl rfl ?_
      refine go_pure0 Tk rfl rfl rfl ?_
      refine go_nil ?_
      refine go_env [(0, _), (2, _), (4, _), (8, _), (9, _), (10, _)] ⟨rfl, rfl, rfl, rfl, rfl, rfl, trivial⟩ ?_
      refine go_blk ?_
      refine go_back (i, h) ⟨rfl, rfl, rfl, rfl, rfl, rfl, trivial⟩ (by repeat constructor) (by repeat constructor) ⟨by show i ≤ h; omega, by show h ≤ _; omega, hlo, rises_drop hr (by omega) c2⟩ (by show h - i < j - i; omega)
  · intro c1
    refine go_exit rfl ?_
    refine go_seq ?_
    by_cases hin : i < l.length
    · skip
      refine go_elem_fa (xs := l) (by repeat constructor) (i) (List.getElem?_eq_getElem (by omega)) (fun b0 o0 A0 c0 hA => ?_); cases hA
      refine go_draw'  [9, 10] (SL.pre [(1, 0), (1, 1), (1, 2), (1, 3), (1, 4), (1, 5), (1, 6), (1, 7), (1, 8), (2, 9), (2, 10), (0, 11), (1, 12), (1, 13), (1, 14), (1, 15)] .nil) mixed rfl (by kernel_rfl) ?_
      refine go_pure1 Tk rfl rfl rfl ?_
      refine go_pure1 Tk rfl rfl rfl ?_
      refine go_pure1 Tk rfl rfl rfl ?_
      refine go_pure1 Tk rfl rfl rfl ?_
      refine go_re 38 (.bool true) (by show some (Value.bool (decide _)) = _; rw [decide_eq_true (by omega)]) ?_
      refine go_pure1 Tk rfl rfl rfl ?_
      refine go_pure1 Tk rfl rfl rfl ?_
      refine go_pure1 Tk rfl rfl rfl ?_
      refine go_pure1 Tk rfl rfl rfl ?_
      refine go_val1 rfl (idx_val Tk rfl rfl rfl rfl rfl (by omega)) rfl ?_
      refine go_val2 rfl (load_val Tk rfl rfl rfl (by first | exact at_pt (by repeat constructor) (by rfl) | exact at_cl 0 (by repeat constructor) (by rfl) | exact at_cl 1 (by repeat constructor) (by rfl) | exact at_cl 2 (by repeat constructor) (by rfl) | exact at_cl 3 (by repeat constructor) (by rfl) | exact at_cl 4 (by repeat constructor) (by rfl) | exact at_cl 5 (by repeat constructor) (by rfl) | exact at_cl 6 (by repeat constructor) (by rfl) | exact at_cl 7 (by repeat constructor) (by rfl)) (by rfl)) (by repeat constructor) (by repeat constructor) rfl ?_
      refine go_val2 rfl (load_val Tk rfl rfl rfl (by first | exact at_pt (by repeat constructor) (by rfl) | exact at_cl 0 (by repeat constructor) (by rfl) | exact at_cl 1 (by repeat constructor) (by rfl) | exact at_cl 2 (by repeat constructor) (by rfl) | exact at_cl 3 (by repeat constructor) (by rfl) | exact at_cl 4 (by repeat constructor) (by rfl) | exact at_cl 5 (by repeat constructor) (by rfl) | exact at_cl 6 (by repeat constructor) (by rfl) | exact at_cl 7 (by repeat constructor) (by rfl)) (by rfl)) (by repeat constructor) (by repeat constructor) rfl ?_
      refine go_call (atomsCompare _ _ _ _ _ _ _ _) rfl rfl (by rfl) rfl (by repeat constructor) (by repeat constructor) (fun h => nomatch h) ?_
      rintro _ _ _ ⟨rfl, rfl, rfl⟩
      refine go_pure1 Tk rfl rfl rfl ?_
      refine go_pure1 Tk rfl rfl rfl ?_
      refine go_pure1 Tk rfl rfl rfl ?_
      refine go_pure1 Tk rfl rfl rfl ?_
      refine go_nil ?_
      refine go_env [(6, _), (7, _)] ⟨rfl, rfl, trivial⟩ ?_
      refine go_ret ⟨rfl, rfl⟩ _ _ (fun a w hp ho hf hs => res2 (by rfl) (.tmp rfl) (.tmp rfl) a w hp ho hf hs) ⟨by rw [bin_yes hr hin (by omega) hlo (by have := hhi; rwa [show j = i from by omega] at this)], rfl, rfl⟩ (by repeat constructor) (by repeat constructor)
    · skip
      refine go_draw'  [9, 10] (SL.pre [(1, 0), (1, 1), (1, 2), (1, 3), (1, 4), (1, 5), (1, 6), (1, 7), (1, 8), (2, 9), (2, 10), (0, 11), (1, 12), (1, 13), (1, 14), (1, 15)] .nil) mixed rfl (by kernel_rfl) ?_
      refine go_pure1 Tk rfl rfl rfl ?_
      refine go_pure1 Tk rfl rfl rfl ?_
      refine go_pure1 Tk rfl rfl rfl ?_
      refine go_pure1 Tk rfl rfl rfl ?_
      refine go_re 38 (.bool false) (by show some (Value.bool (decide _)) = _; rw [decide_eq_false (by omega)]) ?_
      refine go_pure1 Tk rfl rfl rfl ?_
      refine go_skip1 rfl rfl ?_
      refine go_skip1 rfl rfl ?_
      refine go_skip1 rfl rfl ?_
      refine go_skip1 rfl rfl ?_
      refine go_skip2 rfl (by repeat constructor) (by repeat constructor) rfl ?_
      refine go_skip2 rfl (by repeat constructor) (by repeat constructor) rfl ?_
      refine go_skip0 rfl rfl ?_
      refine go_skip1 rfl rfl ?_
      refine go_pure1 Tk rfl rfl rfl ?_
      refine go_pure1 Tk rfl rfl rfl ?_
      refine go_pure1 Tk rfl rfl rfl ?_
      refine go_nil ?_
      refine go_env [(6, _), (7, _)] ⟨rfl, rfl, trivial⟩ ?_
      refine go_ret ⟨rfl, rfl⟩ _ _ (fun a w hp ho hf hs => res2 (by rfl) (.tmp rfl) (.tmp rfl) a w hp ho hf hs) ⟨by rw [bin_no hr (by omega) hlo], rfl, rfl⟩ (by repeat constructor) (by repeat constructor)

set_option maxHeartbeats 2000000 in
set_option maxRecDepth 20000 in
theorem relPlaceP (b : Nat) (l : List Fa) (q : Fa) (QA : Option Addr) (qc : Nat) (hr : rises l) (hn : l.length ≤ 1000000) :
    Spec Try.prog 70 #[.pointer (some ⟨b, 0, none⟩), .agg #[.int .u32 q.p, .slice QA q.a.length qc]] [relP b l, sl tU QA qc q.a] [] (fun v Ps' Os' => v = .tuple #[.int .i64 (at_ l q : Int), .bool (decide (q ∈ l))] ∧ Ps' = [] ∧ Os' = []) := by
  refine spec_of (fn := Try.f70) (args := [.pointer (some ⟨b, 0, none⟩), .agg #[.int .u32 q.p, .slice QA q.a.length qc]]) 16 Try.func70 rfl (by kernel_rfl) Try.ntmps70 (Nat.le_of_ble_eq_true rfl) (fun w0 hp0 hf0 => ?_)
  refine go_seq ?_
  refine go_region rfl ?_
  refine go_box Tk rfl rfl rfl rfl (by rfl) rfl rfl (fun h => nomatch h) ?_
  intro b1
  refine go_pure0 Tk rfl rfl rfl ?_
  refine go_pure0 Tk rfl rfl rfl ?_
  refine go_nil ?_
  refine go_env [(0, _), (3, _)] ⟨rfl, rfl, trivial⟩ ?_
  refine go_seq ?_
  refine go_seq ?_
  refine go_region rfl ?_
  refine go_pure0 Tk rfl rfl rfl ?_
  refine go_pure0 Tk rfl rfl rfl ?_
  refine go_nil ?_
  refine go_env [(0, _), (3, _), (7, _)] ⟨rfl, rfl, rfl, trivial⟩ ?_
  refine go_cond_f rfl ?_
  refine go_skip ?_
  refine go_seq ?_
  refine go_relP (b := b) (by repeat constructor) (fun A1 c1 => ?_)
  refine go_draw'  [3, 4] (SL.pre [(1, 0), (1, 1), (1, 2), (2, 3), (2, 4), (0, 5), (1, 6), (1, 7), (1, 8), (1, 9)] .nil) mixed rfl (by kernel_rfl) ?_
  refine go_pure1 Tk rfl rfl rfl ?_
  refine go_pure1 Tk rfl rfl rfl ?_
  refine go_pure1 Tk rfl rfl rfl ?_
  refine go_val2 rfl (load_val Tk rfl rfl rfl (by first | exact at_pt (by repeat constructor) (by rfl) | exact at_cl 0 (by repeat constructor) (by rfl) | exact at_cl 1 (by repeat constructor) (by rfl) | exact at_cl 2 (by repeat constructor) (by rfl) | exact at_cl 3 (by repeat constructor) (by rfl) | exact at_cl 4 (by repeat constructor) (by rfl) | exact at_cl 5 (by repeat constructor) (by rfl) | exact at_cl 6 (by repeat constructor) (by rfl) | exact at_cl 7 (by repeat constructor) (by rfl)) (by rfl)) (by repeat constructor) (by repeat constructor) rfl ?_
  refine go_val2 rfl (load_val Tk rfl rfl rfl (by first | exact at_pt (by repeat constructor) (by rfl) | exact at_cl 0 (by repeat constructor) (by rfl) | exact at_cl 1 (by repeat constructor) (by rfl) | exact at_cl 2 (by repeat constructor) (by rfl) | exact at_cl 3 (by repeat constructor) (by rfl) | exact at_cl 4 (by repeat constructor) (by rfl) | exact at_cl 5 (by repeat constructor) (by rfl) | exact at_cl 6 (by repeat constructor) (by rfl) | exact at_cl 7 (by repeat constructor) (by rfl)) (by rfl)) (by repeat constructor) (by repeat constructor) rfl ?_
  refine go_call (binSearchP A1 c1 l q QA qc hr hn) rfl rfl (by rfl) rfl (by repeat constructor) (by repeat constructor) (fun h => nomatch h) ?_
  rintro _ _ _ ⟨rfl, rfl, rfl⟩
  refine go_pure1 Tk rfl rfl rfl ?_
  refine go_pure1 Tk rfl rfl rfl ?_
  refine go_pure1 Tk rfl rfl rfl ?_
  refine go_pure1 Tk rfl rfl rfl ?_
  refine go_nil ?_
  refine go_env [(4, _), (5, _)] ⟨rfl, rfl, trivial⟩ ?_
  refine go_ret ⟨rfl, rfl⟩ _ _ (fun a w hp ho hf hs => res2 (by rfl) (.tmp rfl) (.tmp rfl) a w hp ho hf hs) ⟨rfl, rfl, rfl⟩ (by repeat constructor) (by repeat constructor)

set_option maxHeartbeats 2000000 in
set_option maxRecDepth 20000 in
theorem relHasP (b : Nat) (l : List Fa) (q : Fa) (QA : Option Addr) (qc : Nat) (hr : rises l) (hn : l.length ≤ 1000000) :
    Spec Try.prog 35 #[.pointer (some ⟨b, 0, none⟩), .agg #[.int .u32 q.p, .slice QA q.a.length qc]] [relP b l, sl tU QA qc q.a] [] (fun v Ps' Os' => v = .bool (decide (q ∈ l)) ∧ Ps' = [] ∧ Os' = []) := by
  refine spec_of (fn := Try.f35) (args := [.pointer (some ⟨b, 0, none⟩), .agg #[.int .u32 q.p, .slice QA q.a.length qc]]) 14 Try.func35 rfl (by kernel_rfl) Try.ntmps35 (Nat.le_of_ble_eq_true rfl) (fun w0 hp0 hf0 => ?_)
  refine go_seq ?_
  refine go_region rfl ?_
  refine go_box Tk rfl rfl rfl rfl (by rfl) rfl rfl (fun h => nomatch h) ?_
  intro b1
  refine go_pure0 Tk rfl rfl rfl ?_
  refine go_nil ?_
  refine go_env [(0, _), (3, _)] ⟨rfl, rfl, trivial⟩ ?_
  refine go_seq ?_
  refine go_region rfl ?_
  refine go_pure0 Tk rfl rfl rfl ?_
  refine go_val0 rfl (load_val Tk rfl rfl rfl (by first | exact at_pt (by repeat constructor) (by rfl) | exact at_cl 0 (by repeat constructor) (by rfl) | exact at_cl 1 (by repeat constructor) (by rfl) | exact at_cl 2 (by repeat constructor) (by rfl) | exact at_cl 3 (by repeat constructor) (by rfl) | exact at_cl 4 (by repeat constructor) (by rfl) | exact at_cl 5 (by repeat constructor) (by rfl) | exact at_cl 6 (by repeat constructor) (by rfl) | exact at_cl 7 (by repeat constructor) (by rfl)) (by rfl)) rfl ?_
  refine go_call (relPlaceP b l q QA qc hr hn) rfl rfl (by rfl) rfl (by repeat constructor) (by repeat constructor) (fun h => nomatch h) ?_
  rintro _ _ _ ⟨rfl, rfl, rfl⟩
  refine go_pure0 Tk rfl rfl rfl ?_
  refine go_pure0 Tk rfl rfl rfl ?_
  refine go_pure0 Tk rfl rfl rfl ?_
  refine go_pure0 Tk rfl rfl rfl ?_
  refine go_pure0 Tk rfl rfl rfl ?_
  refine go_nil ?_
  refine go_env [(6, _)] ⟨rfl, trivial⟩ ?_
  refine go_seq ?_
  refine go_region rfl ?_
  refine go_pure0 Tk rfl rfl rfl ?_
  refine go_pure0 Tk rfl rfl rfl ?_
  refine go_nil ?_
  refine go_env [(4, _)] ⟨rfl, trivial⟩ ?_
  refine go_ret ⟨rfl, rfl⟩ _ _ (fun a w hp ho hf hs => res1 (by rfl) (.tmp rfl) a w hp ho hf hs) ⟨rfl, rfl, rfl⟩ (by repeat constructor) (by repeat constructor)

set_option maxHeartbeats 2000000 in
set_option maxRecDepth 20000 in
theorem relLenP (b : Nat) (l : List Fa) :
    Spec Try.prog 40 #[.pointer (some ⟨b, 0, none⟩)] [relP b l] [] (fun v Ps' Os' => v = .int .i64 (l.length : Int) ∧ Ps' = [] ∧ Os' = []) := by
  refine spec_of (fn := Try.f40) (args := [.pointer (some ⟨b, 0, none⟩)]) 10 Try.func40 rfl (by kernel_rfl) Try.ntmps40 (Nat.le_of_ble_eq_true rfl) (fun w0 hp0 hf0 => ?_)
  refine go_seq ?_
  refine go_region rfl ?_
  refine go_pure0 Tk rfl rfl rfl ?_
  refine go_nil ?_
  refine go_env [(0, _)] ⟨rfl, trivial⟩ ?_
  refine go_seq ?_
  refine go_seq ?_
  refine go_region rfl ?_
  refine go_pure0 Tk rfl rfl rfl ?_
  refine go_pure0 Tk rfl rfl rfl ?_
  refine go_nil ?_
  refine go_env [(0, _), (4, _)] ⟨rfl, rfl, trivial⟩ ?_
  refine go_cond_f rfl ?_
  refine go_skip ?_
  refine go_seq ?_
  refine go_relP (b := b) (by repeat constructor) (fun A1 c1 => ?_)
  refine go_region rfl ?_
  refine go_pure0 Tk rfl rfl rfl ?_
  refine go_pure0 Tk rfl rfl rfl ?_
  refine go_pure0 Tk rfl rfl rfl ?_
  refine go_val0 rfl (load_val Tk rfl rfl rfl (by first | exact at_pt (by repeat constructor) (by rfl) | exact at_cl 0 (by repeat constructor) (by rfl) | exact at_cl 1 (by repeat constructor) (by rfl) | exact at_cl 2 (by repeat constructor) (by rfl) | exact at_cl 3 (by repeat constructor) (by rfl) | exact at_cl 4 (by repeat constructor) (by rfl) | exact at_cl 5 (by repeat constructor) (by rfl) | exact at_cl 6 (by repeat constructor) (by rfl) | exact at_cl 7 (by repeat constructor) (by rfl)) (by rfl)) rfl ?_
  refine go_pure0 Tk rfl rfl rfl ?_
  refine go_pure0 Tk rfl rfl rfl ?_
  refine go_nil ?_
  refine go_env [(2, _)] ⟨rfl, trivial⟩ ?_
  refine go_ret ⟨rfl, rfl⟩ _ _ (fun a w hp ho hf hs => res1 (by rfl) (.tmp rfl) a w hp ho hf hs) ⟨rfl, rfl, rfl⟩ (by repeat constructor) (by repeat constructor)

/-- A set that is read, or none. -/
def relN (p : Option Addr) (l : List Fa) : PA := ⟨fun h => (p = none ∧ l = []) ∨ ∃ b, p = some ⟨b, 0, none⟩ ∧ (relP b l).p h, fun hl q => q.imp id fun ⟨b, e, r⟩ => ⟨b, e, (relP b l).up hl r⟩⟩
theorem relN_nil {h : Heap} : (relN none []).p h := .inl ⟨rfl, rfl⟩
theorem relN_some {b : Nat} {l : List Fa} {h : Heap} (q : (relP b l).p h) : (relN (some ⟨b, 0, none⟩) l).p h := .inr ⟨b, rfl, q⟩
theorem go_relN {C : Ctx} {k : List It} {E : Env} {Ps : List PA} {Os : List OA} {p : Option Addr} {l : List Fa} (h : relN p l ∈ Ps) (hp : 0 < l.length) (g : ∀ b, p = some ⟨b, 0, none⟩ → Go C k E (relP b l :: Ps) Os) : Go C k E Ps Os := fun a w hp' ho hf hs hb => by
  rcases hs.ps _ h with ⟨_, e⟩ | ⟨b, e, q⟩
  · subst e; simp at hp
  · exact g b e a w hp' ho hf (hs.addp q) hb
theorem Spec.onN {P : Program} {f : FuncId} {args : Option Addr → Array Value} {p : Option Addr} {l : List Fa} {Ps : List PA} {Os : List OA} {Q : Value → List PA → List OA → Prop}
    (s1 : l = [] → Spec P f (args none) Ps Os Q) (s2 : ∀ b, Spec P f (args (some ⟨b, 0, none⟩)) (relP b l :: Ps) Os Q) : Spec P f (args p) (relN p l :: Ps) Os Q :=
  ⟨(s2 0).fn, fun w hp ho hf hs a b c => by
    rcases hs.ps _ (.head _) with ⟨e1, e2⟩ | ⟨b', e, q⟩
    · subst e1; exact (s1 e2).calls w hp ho hf ⟨hs.inp, hs.ino, hs.dj, fun p hp => hs.ps p (.tail _ hp), hs.os⟩ a b c
    · subst e; exact (s2 b').calls w hp ho hf ⟨hs.inp, hs.ino, hs.dj, forall_cons q fun p hp => hs.ps p (.tail _ hp), hs.os⟩ a b c⟩

set_option maxHeartbeats 2000000 in
set_option maxRecDepth 20000 in
theorem relHas0P (q : Fa) (QA : Option Addr) (qc : Nat) :
    Spec Try.prog 35 #[.pointer none, .agg #[.int .u32 q.p, .slice QA q.a.length qc]] [sl tU QA qc q.a] [] (fun v Ps' Os' => v = .bool false ∧ Ps' = [] ∧ Os' = []) := by
  refine spec_of (fn := Try.f35) (args := [.pointer none, .agg #[.int .u32 q.p, .slice QA q.a.length qc]]) 14 Try.func35 rfl (by kernel_rfl) Try.ntmps35 (Nat.le_of_ble_eq_true rfl) (fun w0 hp0 hf0 => ?_)
  refine go_seq ?_
  refine go_region rfl ?_
  refine go_box Tk rfl rfl rfl rfl (by rfl) rfl rfl (fun h => nomatch h) ?_
  intro b1
  refine go_pure0 Tk rfl rfl rfl ?_
  refine go_nil ?_
  refine go_env [(0, _), (3, _)] ⟨rfl, rfl, trivial⟩ ?_
  refine go_seq ?_
  refine go_region rfl ?_
  refine go_pure0 Tk rfl rfl rfl ?_
  refine go_val0 rfl (load_val Tk rfl rfl rfl (by first | exact at_pt (by repeat constructor) (by rfl) | exact at_cl 0 (by repeat constructor) (by rfl) | exact at_cl 1 (by repeat constructor) (by rfl) | exact at_cl 2 (by repeat constructor) (by rfl) | exact at_cl 3 (by repeat constructor) (by rfl) | exact at_cl 4 (by repeat constructor) (by rfl) | exact at_cl 5 (by repeat constructor) (by rfl) | exact at_cl 6 (by repeat constructor) (by rfl) | exact at_cl 7 (by repeat constructor) (by rfl)) (by rfl)) rfl ?_
  refine go_call (relPlace0 q QA qc) rfl rfl (by rfl) rfl (by repeat constructor) (by repeat constructor) (fun h => nomatch h) ?_
  rintro _ _ _ ⟨rfl, rfl, rfl⟩
  refine go_pure0 Tk rfl rfl rfl ?_
  refine go_pure0 Tk rfl rfl rfl ?_
  refine go_pure0 Tk rfl rfl rfl ?_
  refine go_pure0 Tk rfl rfl rfl ?_
  refine go_pure0 Tk rfl rfl rfl ?_
  refine go_nil ?_
  refine go_env [(6, _)] ⟨rfl, trivial⟩ ?_
  refine go_seq ?_
  refine go_region rfl ?_
  refine go_pure0 Tk rfl rfl rfl ?_
  refine go_pure0 Tk rfl rfl rfl ?_
  refine go_nil ?_
  refine go_env [(4, _)] ⟨rfl, trivial⟩ ?_
  refine go_ret ⟨rfl, rfl⟩ _ _ (fun a w hp ho hf hs => res1 (by rfl) (.tmp rfl) a w hp ho hf hs) ⟨rfl, rfl, rfl⟩ (by repeat constructor) (by repeat constructor)

theorem relHasN (p : Option Addr) (l : List Fa) (q : Fa) (QA : Option Addr) (qc : Nat) (hr : rises l) (hn : l.length ≤ 1000000) : Spec Try.prog 35 #[.pointer p, .agg #[.int .u32 q.p, .slice QA q.a.length qc]] [relN p l, sl tU QA qc q.a] [] (fun v Ps' Os' => v = .bool (decide (q ∈ l)) ∧ Ps' = [] ∧ Os' = []) :=
  Spec.onN (args := fun p => #[.pointer p, .agg #[.int .u32 q.p, .slice QA q.a.length qc]]) (fun e => by subst e; simpa using relHas0P q QA qc) (fun b => relHasP b l q QA qc hr hn)
theorem relLenN (p : Option Addr) (l : List Fa) : Spec Try.prog 40 #[.pointer p] [relN p l] [] (fun v Ps' Os' => v = .int .i64 (l.length : Int) ∧ Ps' = [] ∧ Os' = []) :=
  Spec.onN (args := fun p => #[.pointer p]) (fun e => by subst e; exact relLen0) (fun b => relLenP b l)

/-- What a loop over facts is handed: a fact, and where its Args lie. -/
abbrev Fx := Fa × Option Addr × Nat
def encX (x : Fx) : Value := .agg #[.int .u32 x.1.p, .slice x.2.1 x.1.a.length x.2.2]
def pxX (pre : List Fx) (x : Fx) : List PA := [PA.and (x.1.a.length ≤ 100000 ∧ pre.length ≤ 1000000) (sl tU x.2.1 x.2.2 x.1.a)]
/-- A box that bears a list that is owned through and through. -/
def ptl (b t : Nat) (l : List Fa) : OA := OA.ex fun A : Option Addr => OA.ex fun c : Nat => OA.all [pt b t [.slice A l.length c], dl tFa 31 A c l]
theorem ptl_mk {b t : Nat} {A : Option Addr} {c : Nat} {l : List Fa} {hp h : Heap} (q : Sep hp [pt b t [.slice A l.length c], dl tFa 31 A c l] h) : (ptl b t l).p hp h := ⟨A, c, q⟩
theorem go_ptl {C : Ctx} {k : List It} {E : Env} {Ps : List PA} {Os : List OA} {b t : Nat} {l : List Fa} {rr : List OA} (h : Rem (ptl b t l) Os rr) (g : ∀ (A : Option Addr) (c : Nat), Go C k E Ps ([pt b t [.slice A l.length c], dl tFa 31 A c l] ++ rr)) : Go C k E Ps Os :=
  go_oex h fun A => go_oex .here fun c => go_oall .here (g A c)
/-- A function of facts that answers p, with what it needs. -/
def SoSpec (g : FuncId) (cap : Array Value) (p : Fa → Bool) (PsS : List PA) : Prop :=
  ∀ (x : Fa) (A : Option Addr) (c : Nat), Spec Try.prog g (Value.agg #[.int .u32 x.p, .slice A x.a.length c] :: cap.toList).toArray (sl tU A c x.a :: PsS) [] (fun v Ps' Os' => v = .bool (p x) ∧ Ps' = [] ∧ Os' = [])
theorem filter_next {l : List Fa} {p : Fa → Bool} {k : Nat} (hk : k < l.length) {D : List Fx} (h : D.map (fun y : Fx => y.1) = (l.take k).filter p) : (p l[k] = true → ∀ (A : Option Addr) (c : Nat), (D ++ [((l[k], A, c) : Fx)]).map (fun y : Fx => y.1) = (l.take (k + 1)).filter p) ∧ (p l[k] = false → D.map (fun y : Fx => y.1) = (l.take (k + 1)).filter p) := by
  rw [List.take_succ_eq_append_getElem hk, List.filter_append]
  constructor
  · intro e A c; simp [h, e]
  · intro e; simp [h, e]

set_option maxHeartbeats 2000000 in
set_option maxRecDepth 20000 in
theorem those1 (ly bR bS : Nat) (R : List Fx → OA) (hY : Yld Try.prog ly encX pxX R) (p0 : Option Addr) (l : List Fa) (g : FuncId) (cap : Array Value) (p : Fa → Bool) (PS : PA) (hso : SoSpec g cap p [PS]) (hn : l.length ≤ 1000000) (hb : ∀ x ∈ l, x.a.length ≤ 100000) :
    Spec Try.prog 110 #[.func (.yield ly) #[] #[], .pointer (some ⟨bR, 0, none⟩), .pointer (some ⟨bS, 0, none⟩)] [cl bR 0 [.pointer p0], cl bS 0 [.func (.func g) #[] cap], relN p0 l, PS] [R []] (fun v Ps' Os' => ∃ xs : List Fx, xs.map (·.1) = l.filter p ∧ v = .tuple #[] ∧ Ps' = [] ∧ Os' = [R xs]) := by
  refine spec_of (fn := Try.f110) (args := [.func (.yield ly) #[] #[], .pointer (some ⟨bR, 0, none⟩), .pointer (some ⟨bS, 0, none⟩)]) 28 Try.func110 rfl (by kernel_rfl) Try.ntmps110 (Nat.le_of_ble_eq_true rfl) (fun w0 hp0 hf0 => ?_)
  refine go_seq ?_
  refine go_region rfl ?_
  refine go_val0 rfl (load_val Tk rfl rfl rfl (by first | exact at_pt (by repeat constructor) (by rfl) | exact at_cl 0 (by repeat constructor) (by rfl) | exact at_cl 1 (by repeat constructor) (by rfl) | exact at_cl 2 (by repeat constructor) (by rfl) | exact at_cl 3 (by repeat constructor) (by rfl) | exact at_cl 4 (by repeat constructor) (by rfl) | exact at_cl 5 (by repeat constructor) (by rfl) | exact at_cl 6 (by repeat constructor) (by rfl) | exact at_cl 7 (by repeat constructor) (by rfl)) (by rfl)) rfl ?_
  refine go_call (relLenN p0 l) rfl rfl (by rfl) rfl (by repeat constructor) (by repeat constructor) (fun h => nomatch h) ?_
  rintro _ _ _ ⟨rfl, rfl, rfl⟩
  refine go_pure0 Tk rfl rfl rfl ?_
  refine go_nil ?_
  refine go_env [(0, _), (1, _), (2, _), (7, _), (8, _)] ⟨rfl, rfl, rfl, rfl, rfl, trivial⟩ ?_
  refine go_block ?_
  refine go_loop' (X := Nat × List Fx) (fun x => [(8, .int .i64 (x.1 : Int))]) [(0, _), (1, _), (2, _), (7, _)] (fun x => [R x.2]) (fun x => x.1 ≤ l.length ∧ x.2.map (·.1) = (l.take x.1).filter p) (fun x => l.length - x.1) ((0, [])) ⟨rfl, rfl, rfl, rfl, rfl, trivial⟩ (by repeat constructor) ⟨by omega, by simp⟩ ?_
  intro ⟨k, D⟩ ⟨hk, hD⟩
  simp only at hk hD ⊢
  have hDl : D.length ≤ 1000000 := by
    have h1 := congrArg List.length hD
    have h2 := List.length_filter_le p (l.take k)
    rw [List.length_map] at h1
    rw [List.length_take] at h2
    omega
  refine go_seq ?_
  refine go_region rfl ?_
  refine go_pure0 Tk rfl rfl rfl ?_
  refine go_nil ?_
  refine go_env [(0, _), (1, _), (2, _), (7, _), (8, _), (9, _)] ⟨rfl, rfl, rfl, rfl, rfl, rfl, trivial⟩ ?_
  refine go_seq ?_
  refine go_condD rfl ?_ ?_
  · intro c1
    refine go_skip ?_
    refine go_seq ?_
    refine go_block ?_
    refine go_seq ?_
    refine go_region rfl ?_
    refine go_pure0 Tk rfl rfl rfl ?_
    refine go_pure0 Tk rfl rfl rfl ?_
    refine go_nil ?_
    refine go_env [(0, _), (1, _), (2, _), (4, _), (7, _), (8, _)] ⟨rfl, rfl, rfl, rfl, rfl, rfl, trivial⟩ ?_
    refine go_seq ?_
    refine go_relN (p := p0) (l := l) (by repeat constructor) (by omega) (fun b hb0 => ?_); subst hb0
    refine go_relP (b := b) (by repeat constructor) (fun A1 c1 => ?_)
    refine go_elem_fa (xs := l) (by repeat constructor) (k) (List.getElem?_eq_getElem (by omega)) (fun b0 o0 FA fc hA => ?_); cases hA
    refine go_region rfl ?_
    refine go_val0 rfl (load_val Tk rfl rfl rfl (by first | exact at_pt (by repeat constructor) (by rfl) | exact at_cl 0 (by repeat constructor) (by rfl) | exact at_cl 1 (by repeat constructor) (by rfl) | exact at_cl 2 (by repeat constructor) (by rfl) | exact at_cl 3 (by repeat constructor) (by rfl) | exact at_cl 4 (by repeat constructor) (by rfl) | exact at_cl 5 (by repeat constructor) (by rfl) | exact at_cl 6 (by repeat constructor) (by rfl) | exact at_cl 7 (by repeat constructor) (by rfl)) (by rfl)) rfl ?_
    refine go_pure0 Tk rfl rfl rfl ?_
    refine go_pure0 Tk rfl rfl rfl ?_
    refine go_val0 rfl (load_val Tk rfl rfl rfl (by first | exact at_pt (by repeat constructor) (by rfl) | exact at_cl 0 (by repeat constructor) (by rfl) | exact at_cl 1 (by repeat constructor) (by rfl) | exact at_cl 2 (by repeat constructor) (by rfl) | exact at_cl 3 (by repeat constructor) (by rfl) | exact at_cl 4 (by repeat constructor) (by rfl) | exact at_cl 5 (by repeat constructor) (by rfl) | exact at_cl 6 (by repeat constructor) (by rfl) | exact at_cl 7 (by repeat constructor) (by rfl)) (by rfl)) rfl ?_
    refine go_pure0 Tk rfl rfl rfl ?_
    refine go_val0 rfl (idx_val Tk rfl rfl rfl rfl rfl (by omega)) rfl ?_
    refine go_val0 rfl (load_val Tk rfl rfl rfl (by first | exact at_pt (by repeat constructor) (by rfl) | exact at_cl 0 (by repeat constructor) (by rfl) | exact at_cl 1 (by repeat constructor) (by rfl) | exact at_cl 2 (by repeat constructor) (by rfl) | exact at_cl 3 (by repeat constructor) (by rfl) | exact at_cl 4 (by repeat constructor) (by rfl) | exact at_cl 5 (by repeat constructor) (by rfl) | exact at_cl 6 (by repeat constructor) (by rfl) | exact at_cl 7 (by repeat constructor) (by rfl)) (by rfl)) rfl ?_
    refine go_alloc Tk rfl rfl rfl (by rfl) rfl rfl (fun h => nomatch h) ?_
    intro b1
    refine go_store Tk rfl rfl rfl rfl rfl rfl (by repeat constructor) rfl rfl (by rfl) (fun h => nomatch h) ?_
    refine go_nil ?_
    refine go_env [(0, _), (1, _), (2, _), (5, _), (7, _), (8, _)] ⟨rfl, rfl, rfl, rfl, rfl, rfl, trivial⟩ ?_
    refine go_seq ?_
    refine go_regionY [false, false, false, false, false, false, true] rfl ?_
    refine go_val0 rfl (load_val Tk rfl rfl rfl (by first | exact at_pt (by repeat constructor) (by rfl) | exact at_cl 0 (by repeat constructor) (by rfl) | exact at_cl 1 (by repeat constructor) (by rfl) | exact at_cl 2 (by repeat constructor) (by rfl) | exact at_cl 3 (by repeat constructor) (by rfl) | exact at_cl 4 (by repeat constructor) (by rfl) | exact at_cl 5 (by repeat constructor) (by rfl) | exact at_cl 6 (by repeat constructor) (by rfl) | exact at_cl 7 (by repeat constructor) (by rfl)) (by rfl)) rfl ?_
    refine go_val0 rfl (load_val Tk rfl rfl rfl (by first | exact at_pt (by repeat constructor) (by rfl) | exact at_cl 0 (by repeat constructor) (by rfl) | exact at_cl 1 (by repeat constructor) (by rfl) | exact at_cl 2 (by repeat constructor) (by rfl) | exact at_cl 3 (by repeat constructor) (by rfl) | exact at_cl 4 (by repeat constructor) (by rfl) | exact at_cl 5 (by repeat constructor) (by rfl) | exact at_cl 6 (by repeat constructor) (by rfl) | exact at_cl 7 (by repeat constructor) (by rfl)) (by rfl)) rfl ?_
    refine go_call (hso l[k] FA fc) rfl rfl (by rfl) rfl (by repeat constructor) (by repeat constructor) (fun h => nomatch h) ?_
    rintro _ _ _ ⟨rfl, rfl, rfl⟩
    refine go_ent (PA.and (l[k].a.length ≤ 100000 ∧ D.length ≤ 1000000) (sl tU FA fc l[k].a)) (fun hh a => ⟨⟨hb _ (List.getElem_mem _), hDl⟩, a (sl tU FA fc l[k].a) (by repeat constructor)⟩) ?_
    refine go_pure0 Tk rfl rfl rfl ?_
    refine go_known 21 rfl ?_ ?_
    · intro g1
      (try simp only [decide_eq_true_eq, decide_eq_false_iff_not, Bool.not_eq_true', Bool.not_eq_false', Bool.not_eq_eq_eq_not, Bool.not_true, Bool.not_false, Int.not_lt, Int.not_le, beq_iff_eq, beq_eq_false_iff_ne, ne_eq] at g1)
      refine go_pure0 Tk rfl rfl rfl ?_
      refine go_val0 rfl (load_val Tk rfl rfl rfl (by first | exact at_pt (by repeat constructor) (by rfl) | exact at_cl 0 (by repeat constructor) (by rfl) | exact at_cl 1 (by repeat constructor) (by rfl) | exact at_cl 2 (by repeat constructor) (by rfl) | exact at_cl 3 (by repeat constructor) (by rfl) | exact at_cl 4 (by repeat constructor) (by rfl) | exact at_cl 5 (by repeat constructor) (by rfl) | exact at_cl 6 (by repeat constructor) (by rfl) | exact at_cl 7 (by repeat constructor) (by rfl)) (by rfl)) rfl ?_
      refine go_yield hY (D) ((l[k], FA, fc)) rfl rfl rfl rfl rfl (by repeat constructor) (by repeat constructor) ?_
      refine go_pure0 Tk rfl rfl rfl ?_
      refine go_pure0 Tk rfl rfl rfl ?_
      refine go_nil ?_
      refine go_env [(0, _), (1, _), (2, _), (7, _), (8, _), (22, _), (23, _), (24, _), (25, _), (26, _)] ⟨rfl, rfl, rfl, rfl, rfl, rfl, rfl, rfl, rfl, rfl, trivial⟩ ?_
      refine go_cond_f rfl ?_
      refine go_skip ?_
      refine go_blk ?_
      refine go_region rfl ?_
      refine go_pure0 Tk rfl rfl rfl ?_
      refine go_pure0 Tk rfl rfl rfl ?_
      refine go_nil ?_
      refine go_i64 8 rfl (by omega) (by omega) ?_
      refine go_back (k + 1, _) ⟨rfl, rfl, rfl, rfl, rfl, trivial⟩ (by repeat constructor) (by repeat constructor) ⟨by show k + 1 ≤ _; omega, (filter_next (by omega) hD).1 g1 _ _⟩ (by show l.length - (k + 1) < l.length - k; omega)
    · intro g1
      (try simp only [decide_eq_true_eq, decide_eq_false_iff_not, Bool.not_eq_true', Bool.not_eq_false', Bool.not_eq_eq_eq_not, Bool.not_true, Bool.not_false, Int.not_lt, Int.not_le, beq_iff_eq, beq_eq_false_iff_ne, ne_eq] at g1)
      refine go_skip0 rfl rfl ?_
      refine go_skip0 rfl rfl ?_
      refine go_skipY rfl rfl ?_
      refine go_skip0 rfl rfl ?_
      refine go_pure0 Tk rfl rfl rfl ?_
      refine go_nil ?_
      refine go_env [(0, _), (1, _), (2, _), (7, _), (8, _), (22, _), (23, _), (24, _), (25, _), (26, _)] ⟨rfl, rfl, rfl, rfl, rfl, rfl, rfl, rfl, rfl, rfl, trivial⟩ ?_
      refine go_cond_f rfl ?_
      refine go_skip ?_
      refine go_blk ?_
      refine go_region rfl ?_
      refine go_pure0 Tk rfl rfl rfl ?_
      refine go_pure0 Tk rfl rfl rfl ?_
      refine go_nil ?_
      refine go_i64 8 rfl (by omega) (by omega) ?_
      refine go_back (k + 1, D) ⟨rfl, rfl, rfl, rfl, rfl, trivial⟩ (by repeat constructor) (by repeat constructor) ⟨by show k + 1 ≤ _; omega, (filter_next (by omega) hD).2 g1⟩ (by show l.length - (k + 1) < l.length - k; omega)
  · intro c1
    refine go_exit rfl ?_
    refine go_end ⟨rfl, rfl⟩ _ _ (fun a w hp ho hf hs => res0 (by rfl) a w hp ho hf hs) ⟨D, by rw [List.take_of_length_le (by omega)] at hD; exact hD, rfl, rfl, rfl⟩ (by repeat constructor) (by repeat constructor)

set_option maxHeartbeats 2000000 in
set_option maxRecDepth 20000 in
theorem relThose (p0 : Option Addr) (g : FuncId) (cap : Array Value) :
    Spec Try.prog 102 #[.pointer p0, .func (.func g) #[] cap] [] [] (fun v Ps' Os' => ∃ bR bS, v = .func (.func 110) #[] #[.pointer (some ⟨bR, 0, none⟩), .pointer (some ⟨bS, 0, none⟩)] ∧ Ps' = [cl bR 0 [.pointer p0], cl bS 0 [.func (.func g) #[] cap]] ∧ Os' = []) := by
  refine spec_of (fn := Try.f102) (args := [.pointer p0, .func (.func g) #[] cap]) 6 Try.func102 rfl (by kernel_rfl) Try.ntmps102 (Nat.le_of_ble_eq_true rfl) (fun w0 hp0 hf0 => ?_)
  refine go_seq ?_
  refine go_region rfl ?_
  refine go_box Tk rfl rfl rfl rfl (by rfl) rfl rfl (fun h => nomatch h) ?_
  intro bR
  refine go_box Tk rfl rfl rfl rfl (by rfl) rfl rfl (fun h => nomatch h) ?_
  intro bS
  refine go_freeze_pt (b := bR) (by repeat constructor) ?_
  refine go_freeze_pt (b := bS) (by repeat constructor) ?_
  refine go_pure0 Tk rfl rfl rfl ?_
  refine go_nil ?_
  refine go_env [(2, _), (3, _)] ⟨rfl, rfl, trivial⟩ ?_
  refine go_seq ?_
  refine go_region rfl ?_
  refine go_pure0 Tk rfl rfl rfl ?_
  refine go_pure0 Tk rfl rfl rfl ?_
  refine go_nil ?_
  refine go_env [(4, _)] ⟨rfl, trivial⟩ ?_
  refine go_ret ⟨rfl, rfl⟩ _ _ (fun a w hp ho hf hs => res1 (by rfl) (.tmp rfl) a w hp ho hf hs) ⟨bR, bS, rfl, rfl, rfl⟩ (by repeat constructor) (by repeat constructor)

set_option maxHeartbeats 2000000 in
set_option maxRecDepth 20000 in
theorem relList_ (p0 : Option Addr) (l : List Fa) (g : FuncId) (cap : Array Value) (p : Fa → Bool) (PS : PA) (hso : SoSpec g cap p [PS]) (hn : l.length ≤ 1000000) (hb : ∀ x ∈ l, x.a.length ≤ 100000) :
    Spec Try.prog 74 #[.pointer p0, .func (.func g) #[] cap] [relN p0 l, PS] [] (fun v Ps' Os' => ∃ A c, v = .slice A (l.filter p).length c ∧ Ps' = [] ∧ Os' = [dl tFa 31 A c (l.filter p)]) := by
  refine spec_of (fn := Try.f74) (args := [.pointer p0, .func (.func g) #[] cap]) 16 Try.func74 rfl (by kernel_rfl) Try.ntmps74 (Nat.le_of_ble_eq_true rfl) (fun w0 hp0 hf0 => ?_)
  refine go_seq ?_
  refine go_region rfl ?_
  refine go_alloc Tk rfl rfl rfl (by rfl) rfl rfl (fun h => nomatch h) ?_
  intro br
  refine go_nil ?_
  refine go_env [(0, _), (1, _), (4, _)] ⟨rfl, rfl, rfl, trivial⟩ ?_
  refine go_seq ?_
  refine go_seq ?_
  refine go_region rfl ?_
  refine go_pure0 Tk rfl rfl rfl ?_
  refine go_pure0 Tk rfl rfl rfl ?_
  refine go_call (relThose p0 g cap) rfl rfl (by rfl) rfl (by repeat constructor) (by repeat constructor) (fun h => nomatch h) ?_
  rintro _ _ _ ⟨bR, bS, rfl, rfl, rfl⟩
  refine go_down_nil tFa 31 none ?_
  refine go_fold [pt br 49 [.slice none 0 0], dl tFa 31 none 0 []] (ptl br 49 []) (by repeat constructor) (fun _ _ q => ⟨none, 0, q⟩) ?_
  refine go_nil ?_
  refine go_env [(4, _), (8, _)] ⟨rfl, rfl, trivial⟩ ?_
  refine go_block ?_
  refine go_range (α := Fx) (enc := encX) (Px := pxX) rfl rfl rfl (fun D => [ptl br 49 (D.map (fun y : Fx => y.1))]) ([]) ([]) (by repeat constructor) (by repeat constructor) ([cl bR 0 [.pointer p0], cl bS 0 [.func (.func g) #[] cap], relN p0 l, PS]) (by repeat constructor) (fun xs => xs.map (·.1) = l.filter p) (fun ly R hY => (those1 ly bR bS R hY p0 l g cap p PS hso hn hb).imp fun v P' O' ⟨xs, h1, _, h2, h3⟩ => ⟨xs, h1, h2, h3⟩) (X := Nat) (fun x => [(5, .pointer (some ⟨x, 0, none⟩))]) [(4, .pointer (some ⟨br, 0, none⟩))] (fun pre x y => [pt y 31 [.int .u32 x.1.p, .slice x.2.1 x.1.a.length x.2.2], ptl br 49 (pre.map (fun y : Fx => y.1))]) (fun _ _ _ => True) (fun ly pre x w0' hp0' hf0' => ?_) (fun ly pre x y _ w0' hp0' hf0' => ?_) (fun D xs hdj hxs => ?_)
  · skip
    refine go_region rfl ?_
    refine go_alloc Tk rfl rfl rfl (by rfl) rfl rfl (fun h => nomatch h) ?_
    intro b1
    refine go_store Tk rfl rfl rfl rfl rfl rfl (by repeat constructor) rfl rfl (by rfl) (fun h => nomatch h) ?_
    refine go_nil ?_
    refine go_back _ ⟨rfl, rfl, trivial⟩ (by repeat constructor) (by repeat constructor) trivial (by decide)
  · skip
    refine go_pand (fun hxa => ?_)
    refine go_ptl (b := br) (by repeat constructor) (fun A1 c1 => ?_)
    refine go_block ?_
    refine go_draw'  [0, 1] (SL.pre [(2, 0), (2, 1), (0, 2), (0, 3), (0, 4), (0, 5)] .nil) mixed rfl (by kernel_rfl) ?_
    refine go_val2 rfl (load_val Tk rfl rfl rfl (by first | exact at_pt (by repeat constructor) (by rfl) | exact at_cl 0 (by repeat constructor) (by rfl) | exact at_cl 1 (by repeat constructor) (by rfl) | exact at_cl 2 (by repeat constructor) (by rfl) | exact at_cl 3 (by repeat constructor) (by rfl) | exact at_cl 4 (by repeat constructor) (by rfl) | exact at_cl 5 (by repeat constructor) (by rfl) | exact at_cl 6 (by repeat constructor) (by rfl) | exact at_cl 7 (by repeat constructor) (by rfl)) (by rfl)) (by repeat constructor) (by repeat constructor) rfl ?_
    refine go_val2 rfl (load_val Tk rfl rfl rfl (by first | exact at_pt (by repeat constructor) (by rfl) | exact at_cl 0 (by repeat constructor) (by rfl) | exact at_cl 1 (by repeat constructor) (by rfl) | exact at_cl 2 (by repeat constructor) (by rfl) | exact at_cl 3 (by repeat constructor) (by rfl) | exact at_cl 4 (by repeat constructor) (by rfl) | exact at_cl 5 (by repeat constructor) (by rfl) | exact at_cl 6 (by repeat constructor) (by rfl) | exact at_cl 7 (by repeat constructor) (by rfl)) (by rfl)) (by repeat constructor) (by repeat constructor) rfl ?_
    refine go_call (relCopied x.1 x.2.1 x.2.2 hxa.1) rfl rfl (by rfl) rfl (by repeat constructor) (by repeat constructor) (fun _ v Ps' Os' hq => by obtain ⟨A', c', rfl, rfl, rfl⟩ := hq; exact satS (by repeat constructor) (by repeat constructor)) ?_
    rintro _ _ _ ⟨A', c', rfl, rfl, rfl⟩
    refine go_vo_fa (A := A') (c := c') x.1 (by repeat constructor) ?_
    refine go_bslice Tk rfl rfl rfl rfl rfl rfl rfl rfl (fun _ _ => satS (by repeat constructor) (by repeat constructor)) ?_
    intro bn
    refine go_append1d (T := tFa) (xs := pre.map (fun y : Fx => y.1)) Tk x.1 rfl rfl rfl rfl rfl rfl rfl rfl rfl (by repeat constructor) (by repeat constructor) (by repeat constructor) rfl (by rw [List.length_map]; omega) (fun h => nomatch h) ?_
    intro A2 c2
    refine go_store Tk rfl rfl rfl rfl rfl rfl (by repeat constructor) rfl rfl (by rfl) (fun h => nomatch h) ?_
    refine go_nil ?_
    refine go_fold [pt br 49 [.slice A2 (pre.map (fun y : Fx => y.1) ++ [x.1]).length c2], dl tFa 31 A2 c2 (pre.map (fun y : Fx => y.1) ++ [x.1])] (ptl br 49 ((pre ++ [x]).map (fun y : Fx => y.1))) (by repeat constructor) (fun _ _ q => by rw [List.map_append]; exact ptl_mk q) ?_
    refine go_env [] trivial ?_
    refine go_blk ?_
    refine go_back () trivial (by repeat constructor) (by repeat constructor) trivial (by decide)
  refine go_blk ?_
  refine go_seq ?_
  rw [hxs]
  refine go_ptl (b := br) (by repeat constructor) (fun A1 c1 => ?_)
  refine go_region rfl ?_
  refine go_val0 rfl (load_val Tk rfl rfl rfl (by first | exact at_pt (by repeat constructor) (by rfl) | exact at_cl 0 (by repeat constructor) (by rfl) | exact at_cl 1 (by repeat constructor) (by rfl) | exact at_cl 2 (by repeat constructor) (by rfl) | exact at_cl 3 (by repeat constructor) (by rfl) | exact at_cl 4 (by repeat constructor) (by rfl) | exact at_cl 5 (by repeat constructor) (by rfl) | exact at_cl 6 (by repeat constructor) (by rfl) | exact at_cl 7 (by repeat constructor) (by rfl)) (by rfl)) rfl ?_
  refine go_store Tk rfl rfl rfl rfl rfl rfl (by repeat constructor) rfl rfl (by rfl) (fun h => nomatch h) ?_
  refine go_nil ?_
  refine go_env [(4, _)] ⟨rfl, trivial⟩ ?_
  refine go_retR ⟨rfl, rfl⟩ hdj _ _ (fun a w hp ho hf hs => res1 (by rfl) (.cell rfl (reads_at Tk rfl (by first | exact at_pt (by repeat constructor) (by rfl) | exact at_cl 0 (by repeat constructor) (by rfl) | exact at_cl 1 (by repeat constructor) (by rfl) | exact at_cl 2 (by repeat constructor) (by rfl) | exact at_cl 3 (by repeat constructor) (by rfl) | exact at_cl 4 (by repeat constructor) (by rfl) | exact at_cl 5 (by repeat constructor) (by rfl) | exact at_cl 6 (by repeat constructor) (by rfl) | exact at_cl 7 (by repeat constructor) (by rfl)) (by rfl))) a w hp ho hf hs) ⟨_, _, rfl, rfl, rfl⟩ (by repeat constructor) (by repeat constructor)

end Go.Proofs.Ytdkfpgdfjnaciaa.SL
