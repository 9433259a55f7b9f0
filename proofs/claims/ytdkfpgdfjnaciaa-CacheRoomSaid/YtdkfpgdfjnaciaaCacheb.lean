/- Contracts of functions of the program (Cacheb): what each call comes to, for the laws' proofs. -/
import Derived.Test.YtdkfpgdfjnaciaaCache
set_option linter.unusedVariables false
set_option linter.unusedSimpArgs false
namespace Go.Proofs.Ytdkfpgdfjnaciaa.SL
open Go 

/-- A cache in memory. -/
def cch (b : Nat) (R : Int) (l : List En) : OA := OA.ex fun A : Option Addr => OA.ex fun c : Nat => OA.all [pt b 94 [.int .i64 R, .slice A (l).length c], ol tEn 101 A c (l)]
theorem cch_mk {b : Nat} {R : Int} {A : Option Addr} {c : Nat} {l : List En} {hp h : Heap} (q : Sep hp [pt b 94 [.int .i64 R, .slice A (l).length c], ol tEn 101 A c (l)] h) : (cch b R l).p hp h := ⟨A, c, q⟩
theorem go_cch {C : Ctx} {k : List It} {E : Env} {Ps : List PA} {Os : List OA} {b : Nat} {R : Int} {l : List En} {rr : List OA} (h : Rem (cch b R l) Os rr) (g : ∀ (A : Option Addr) (c : Nat), Go C k E Ps ([pt b 94 [.int .i64 R, .slice A (l).length c], ol tEn 101 A c (l)] ++ rr)) : Go C k E Ps Os :=
  go_oex h fun A => go_oex .here fun c => go_oall .here (g A c)

set_option maxHeartbeats 2000000 in
set_option maxRecDepth 20000 in
theorem orderPut (b : Nat) (R : Int) (A : Option Addr) (c : Nat) (l : List En) (q : Fa) (v : Int) (hl : ∀ x ∈ l, x.1.ok) (hq : q.ok) (hn : l.length ≤ 100000) :
    Spec Try.prog 63 #[.pointer (some ⟨b, 1, none⟩), .agg #[.int .u32 q.p, .string (bytesOf (enc q.a))], .int .u8 v, .int .i64 R] [] [pt b 94 [.int .i64 R, .slice A (l).length c], ol tEn 101 A c (l)] (fun w Ps' Os' => ∃ A' c', w = .tuple #[] ∧ Ps' = [] ∧ Os' = [pt b 94 [.int .i64 R, .slice A' (cput R l q v).length c'], ol tEn 101 A' c' (cput R l q v)]) := by
  refine spec_of (fn := Try.f63) (args := [.pointer (some ⟨b, 1, none⟩), .agg #[.int .u32 q.p, .string (bytesOf (enc q.a))], .int .u8 v, .int .i64 R]) 52 Try.func63 rfl (by kernel_rfl) Try.ntmps63 (Nat.le_of_ble_eq_true rfl) (fun w0 hp0 hf0 => ?_)
  refine go_seq ?_
  refine go_region ?_
  refine go_box Tk rfl rfl rfl rfl (by rfl) rfl rfl (fun h => nomatch h) ?_
  intro b1
  refine go_nil ?_
  refine go_env [(0, _), (2, _), (3, _), (5, _)] ⟨rfl, rfl, rfl, rfl, trivial⟩ ?_
  refine go_seq ?_
  refine go_seq ?_
  refine go_region ?_
  refine go_pure0 Tk rfl rfl rfl ?_
  refine go_val0 rfl (load_val Tk rfl rfl rfl (by first | exact at_pt (by repeat constructor) (by rfl) | exact at_cl 0 (by repeat constructor) (by rfl) | exact at_cl 1 (by repeat constructor) (by rfl) | exact at_cl 2 (by repeat constructor) (by rfl) | exact at_cl 3 (by repeat constructor) (by rfl) | exact at_cl 4 (by repeat constructor) (by rfl) | exact at_cl 5 (by repeat constructor) (by rfl) | exact at_cl 6 (by repeat constructor) (by rfl) | exact at_cl 7 (by repeat constructor) (by rfl)) (by rfl)) rfl ?_
  refine go_call (place b R A c l q hl hq) rfl rfl (by rfl) rfl (by repeat constructor) (by repeat constructor) (fun h => nomatch h) ?_
  rintro _ _ _ ⟨rfl, rfl, rfl⟩
  refine go_pure0 Tk rfl rfl rfl ?_
  refine go_nil ?_
  refine go_env [(0, _), (2, _), (3, _), (5, _), (8, _)] ⟨rfl, rfl, rfl, rfl, rfl, trivial⟩ ?_
  refine go_seq ?_
  refine go_region ?_
  refine go_pure0 Tk rfl rfl rfl ?_
  refine go_pure0 Tk rfl rfl rfl ?_
  refine go_nil ?_
  refine go_env [(0, _), (2, _), (3, _), (5, _), (8, _), (13, _)] ⟨rfl, rfl, rfl, rfl, rfl, rfl, trivial⟩ ?_
  refine go_cutO (X := Option Addr × Nat) (fun _ => []) [(0, _), (2, _), (3, _), (5, _)] (fun x => [pt b 94 [.int .i64 R, .slice x.1 (delAt l (plc q l)).length x.2], ol tEn 101 x.1 x.2 (delAt l (plc q l))]) ([pt b 94 [.int .i64 R, .slice A (l).length c], ol tEn 101 A c (l)]) (fun _ => True) ⟨rfl, rfl, rfl, rfl, trivial⟩ (by repeat constructor) ?_ ?_
  · skip
    refine go_condD rfl ?_ ?_
    · intro c1
      obtain ⟨h1, -⟩ | ⟨k, hk, h1, h2, -⟩ := plc_cases q l
      · omega
      rw [delAt_hit h1, h1]
      refine go_len_ol (xs := l) (by repeat constructor) (fun l0 m0 => ?_)
      refine go_region ?_
      refine go_pure0 Tk rfl rfl rfl ?_
      refine go_pure0 Tk rfl rfl rfl ?_
      refine go_pure0 Tk rfl rfl rfl ?_
      refine go_pure0 Tk rfl rfl rfl ?_
      refine go_val0 rfl (load_val Tk rfl rfl rfl (by first | exact at_pt (by repeat constructor) (by rfl) | exact at_cl 0 (by repeat constructor) (by rfl) | exact at_cl 1 (by repeat constructor) (by rfl) | exact at_cl 2 (by repeat constructor) (by rfl) | exact at_cl 3 (by repeat constructor) (by rfl) | exact at_cl 4 (by repeat constructor) (by rfl) | exact at_cl 5 (by repeat constructor) (by rfl) | exact at_cl 6 (by repeat constructor) (by rfl) | exact at_cl 7 (by repeat constructor) (by rfl)) (by rfl)) rfl ?_
      refine go_pure0 Tk rfl rfl rfl ?_
      refine go_pure0 Tk rfl rfl rfl ?_
      refine go_pure0 Tk rfl rfl rfl ?_
      refine go_i64 21 rfl (by omega) (by omega) ?_
      refine go_call (deleteEn A c l k (k + 1) (by omega) (by omega)) rfl rfl (by rfl) rfl (by repeat constructor) (by repeat constructor) (fun h => nomatch h) ?_
      rintro _ _ _ ⟨rfl, rfl, rfl⟩
      refine go_pure0 Tk rfl rfl rfl ?_
      refine go_pure0 Tk rfl rfl rfl ?_
      refine go_store Tk rfl rfl rfl rfl rfl rfl (by repeat constructor) rfl rfl (by rfl) (fun h => nomatch h) ?_
      refine go_nil ?_
      refine go_back (_, _) ⟨rfl, rfl, rfl, rfl, trivial⟩ (by repeat constructor) (by repeat constructor) trivial (by decide)
    · intro c1
      rw [delAt_none (by omega)]
      refine go_skip ?_
      refine go_back (_, _) ⟨rfl, rfl, rfl, rfl, trivial⟩ (by repeat constructor) (by repeat constructor) trivial (by decide)
  intro ⟨A1, c1⟩ _
  have hdl : (delAt l (plc q l)).length ≤ 100000 := Nat.le_trans (delAt_len l _) hn
  refine go_seq ?_
  refine go_draw'  [4, 5] (pre [(1, 0), (1, 1), (1, 2), (1, 3), (1, 6), (2, 4), (2, 5), (1, 7), (0, 8), (0, 9), (1, 10), (1, 11), (0, 12)] .nil) mixed (by kernel_rfl) ?_
  refine go_pure1 Tk rfl rfl rfl ?_
  refine go_pure1 Tk rfl rfl rfl ?_
  refine go_pure1 Tk rfl rfl rfl ?_
  refine go_pure1 Tk rfl rfl rfl ?_
  refine go_pure1 Tk rfl rfl rfl ?_
  refine go_val2 rfl (load_val Tk rfl rfl rfl (by first | exact at_pt (by repeat constructor) (by rfl) | exact at_cl 0 (by repeat constructor) (by rfl) | exact at_cl 1 (by repeat constructor) (by rfl) | exact at_cl 2 (by repeat constructor) (by rfl) | exact at_cl 3 (by repeat constructor) (by rfl) | exact at_cl 4 (by repeat constructor) (by rfl) | exact at_cl 5 (by repeat constructor) (by rfl) | exact at_cl 6 (by repeat constructor) (by rfl) | exact at_cl 7 (by repeat constructor) (by rfl)) (by rfl)) (by repeat constructor) (by repeat constructor) rfl ?_
  refine go_val2 rfl (load_val Tk rfl rfl rfl (by first | exact at_pt (by repeat constructor) (by rfl) | exact at_cl 0 (by repeat constructor) (by rfl) | exact at_cl 1 (by repeat constructor) (by rfl) | exact at_cl 2 (by repeat constructor) (by rfl) | exact at_cl 3 (by repeat constructor) (by rfl) | exact at_cl 4 (by repeat constructor) (by rfl) | exact at_cl 5 (by repeat constructor) (by rfl) | exact at_cl 6 (by repeat constructor) (by rfl) | exact at_cl 7 (by repeat constructor) (by rfl)) (by rfl)) (by repeat constructor) (by repeat constructor) rfl ?_
  refine go_val1 rfl (fun a w hp ho hf hs => build_val Tk rfl rfl rfl (by rfl) a w hf) rfl ?_
  refine go_bslice Tk rfl rfl rfl rfl rfl rfl rfl rfl (fun _ _ => satS (by repeat constructor) (by repeat constructor)) ?_
  intro b2
  refine go_append1 (T := tEn) Tk (q, v) rfl rfl rfl rfl rfl rfl rfl rfl rfl (by repeat constructor) (by repeat constructor) rfl (fun _ _ => rfl) (by omega) (fun h => nomatch h) ?_
  intro A2 c2
  refine go_pure1 Tk rfl rfl rfl ?_
  refine go_pure1 Tk rfl rfl rfl ?_
  refine go_store Tk rfl rfl rfl rfl rfl rfl (by repeat constructor) rfl rfl (by rfl) (fun h => nomatch h) ?_
  refine go_nil ?_
  refine go_env [(0, _), (3, _)] ⟨rfl, rfl, trivial⟩ ?_
  refine go_seq ?_
  refine go_region ?_
  refine go_pure0 Tk rfl rfl rfl ?_
  refine go_pure0 Tk rfl rfl rfl ?_
  refine go_pure0 Tk rfl rfl rfl ?_
  refine go_val0 rfl (load_val Tk rfl rfl rfl (by first | exact at_pt (by repeat constructor) (by rfl) | exact at_cl 0 (by repeat constructor) (by rfl) | exact at_cl 1 (by repeat constructor) (by rfl) | exact at_cl 2 (by repeat constructor) (by rfl) | exact at_cl 3 (by repeat constructor) (by rfl) | exact at_cl 4 (by repeat constructor) (by rfl) | exact at_cl 5 (by repeat constructor) (by rfl) | exact at_cl 6 (by repeat constructor) (by rfl) | exact at_cl 7 (by repeat constructor) (by rfl)) (by rfl)) rfl ?_
  refine go_pure0 Tk rfl rfl rfl ?_
  refine go_pure0 Tk rfl rfl rfl ?_
  refine go_pure0 Tk rfl rfl rfl ?_
  refine go_nil ?_
  refine go_env [(0, _), (43, _)] ⟨rfl, rfl, trivial⟩ ?_
  refine go_condD rfl ?_ ?_
  · intro c3
    refine go_region ?_
    refine go_pure0 Tk rfl rfl rfl ?_
    refine go_pure0 Tk rfl rfl rfl ?_
    refine go_pure0 Tk rfl rfl rfl ?_
    refine go_pure0 Tk rfl rfl rfl ?_
    refine go_val0 rfl (load_val Tk rfl rfl rfl (by first | exact at_pt (by repeat constructor) (by rfl) | exact at_cl 0 (by repeat constructor) (by rfl) | exact at_cl 1 (by repeat constructor) (by rfl) | exact at_cl 2 (by repeat constructor) (by rfl) | exact at_cl 3 (by repeat constructor) (by rfl) | exact at_cl 4 (by repeat constructor) (by rfl) | exact at_cl 5 (by repeat constructor) (by rfl) | exact at_cl 6 (by repeat constructor) (by rfl) | exact at_cl 7 (by repeat constructor) (by rfl)) (by rfl)) rfl ?_
    refine go_call (deleteEn A2 c2 (delAt l (plc q l) ++ [(q, v)]) 0 1 (by omega) (by simp)) rfl rfl (by rfl) rfl (by repeat constructor) (by repeat constructor) (fun h => nomatch h) ?_
    rintro _ _ _ ⟨rfl, rfl, rfl⟩
    refine go_pure0 Tk rfl rfl rfl ?_
    refine go_pure0 Tk rfl rfl rfl ?_
    refine go_store Tk rfl rfl rfl rfl rfl rfl (by repeat constructor) rfl rfl (by rfl) (fun h => nomatch h) ?_
    refine go_nil ?_
    refine go_end _ _ (fun a w hp ho hf hs => res0 (by rfl) a w hp ho hf hs) ⟨A2, c2, rfl, rfl, by rw [cput_drop c3]⟩ (by repeat constructor) (by repeat constructor)
  · intro c3
    refine go_skip ?_
    refine go_end _ _ (fun a w hp ho hf hs => res0 (by rfl) a w hp ho hf hs) ⟨A2, c2, rfl, rfl, by rw [cput_keep c3]⟩ (by repeat constructor) (by repeat constructor)

end Go.Proofs.Ytdkfpgdfjnaciaa.SL
