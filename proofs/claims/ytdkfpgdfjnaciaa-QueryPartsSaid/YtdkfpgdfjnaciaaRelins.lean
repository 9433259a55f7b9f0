/- Contracts of functions of the program (Relins): what each call comes to, for the laws' proofs. -/
import Derived.Test.YtdkfpgdfjnaciaaRelb
import Derived.Test.YtdkfpgdfjnaciaaSC
set_option linter.unusedVariables false
set_option linter.unusedSimpArgs false
namespace Go.Proofs.Ytdkfpgdfjnaciaa.SL
open Go 

set_option maxHeartbeats 2000000 in
set_option maxRecDepth 20000 in
theorem insertFa (A : Option Addr) (c : Nat) (l : List Fa) (k bv : Nat) (q : Fa) (QA : Option Addr) (qc : Nat) (hk : k ≤ l.length) (hn : l.length ≤ 1000000) :
    Spec Try.prog 72 #[.slice A l.length c, .int .i64 (k : Int), .slice (some ⟨bv, 0, none⟩) 1 1] [sl tU QA qc q.a] [ol tFa 31 A c l, pt bv 31 [Value.int IntKind.u32 q.p, Value.slice QA q.a.length qc]] (fun v Ps' Os' => ∃ A2 c2, v = .slice A2 (l.take k ++ q :: l.drop k).length c2 ∧ Ps' = [] ∧ Os' = [ol tFa 31 A2 c2 (l.take k ++ q :: l.drop k)]) := by
  refine spec_of (fn := Try.f72) (args := [.slice A l.length c, .int .i64 (k : Int), .slice (some ⟨bv, 0, none⟩) 1 1]) 95 Try.func72 rfl (by kernel_rfl) Try.ntmps72 (Nat.le_of_ble_eq_true rfl) (fun w0 hp0 hf0 => ?_)
  refine go_seq ?_
  refine go_len_ol (xs := l) (by repeat constructor) (fun l0 m0 => ?_)
  refine go_region rfl ?_
  refine go_pure0 Tk rfl rfl rfl ?_
  refine go_nil ?_
  refine go_env [(0, _), (1, _), (2, _)] ⟨rfl, rfl, rfl, trivial⟩ ?_
  refine go_seq ?_
  refine go_region rfl ?_
  refine go_pure0 Tk rfl rfl rfl ?_
  refine go_pure0 Tk rfl rfl rfl ?_
  refine go_val0 rfl (slice_val' Tk rfl rfl rfl rfl k l.length c _ (by first | rfl | exact ⟨_, rfl⟩ | exact ⟨rfl, rfl⟩) (by first | rfl | exact ⟨_, rfl⟩ | exact ⟨rfl, rfl⟩) (by first | rfl | exact ⟨_, rfl⟩ | exact ⟨rfl, rfl⟩) hk (by omega) (by omega) rfl) rfl ?_
  refine go_nil ?_
  refine go_env [(0, _), (1, _), (2, _)] ⟨rfl, rfl, rfl, trivial⟩ ?_
  refine go_seq ?_
  refine go_region rfl ?_
  refine go_pure0 Tk rfl rfl rfl ?_
  refine go_pure0 Tk rfl rfl rfl ?_
  refine go_pure0 Tk rfl rfl rfl ?_
  refine go_nil ?_
  refine go_env [(0, _), (1, _), (2, _), (7, _)] ⟨rfl, rfl, rfl, rfl, trivial⟩ ?_
  refine go_seq ?_
  refine go_seq ?_
  refine go_region rfl ?_
  refine go_pure0 Tk rfl rfl rfl ?_
  refine go_pure0 Tk rfl rfl rfl ?_
  refine go_nil ?_
  refine go_env [(0, _), (1, _), (2, _), (7, _), (16, _)] ⟨rfl, rfl, rfl, rfl, rfl, trivial⟩ ?_
  refine go_condD rfl ?_ ?_
  · intro c1
    exfalso; omega
  · intro c1
    refine go_skip ?_
    refine go_seq ?_
    refine go_region rfl ?_
    refine go_pure0 Tk rfl rfl rfl ?_
    refine go_pure0 Tk rfl rfl rfl ?_
    refine go_pure0 Tk rfl rfl rfl ?_
    refine go_nil ?_
    refine go_env [(0, _), (1, _), (2, _), (7, _), (8, _)] ⟨rfl, rfl, rfl, rfl, rfl, trivial⟩ ?_
    refine go_seq ?_
    refine go_seq ?_
    refine go_region rfl ?_
    refine go_pure0 Tk rfl rfl rfl ?_
    refine go_pure0 Tk rfl rfl rfl ?_
    refine go_pure0 Tk rfl rfl rfl ?_
    refine go_nil ?_
    refine go_env [(0, _), (1, _), (2, _), (7, _), (8, _), (22, _)] ⟨rfl, rfl, rfl, rfl, rfl, rfl, trivial⟩ ?_
    refine go_condD rfl ?_ ?_
    · intro ck
      obtain rfl : k = l.length := by omega
      rw [List.take_length, List.drop_length]
      refine go_seq ?_
      refine go_region rfl ?_
      refine go_pure0 Tk rfl rfl rfl ?_
      refine go_pure0 Tk rfl rfl rfl ?_
      refine go_append1 (T := tFa) Tk q rfl rfl rfl rfl rfl rfl rfl rfl rfl (by repeat constructor) (by repeat constructor) rfl (ent_fa (by repeat constructor)) (by omega) (fun h => nomatch h) ?_
      intro A2 c2
      refine go_pure0 Tk rfl rfl rfl ?_
      refine go_nil ?_
      refine go_env [(6, _)] ⟨rfl, trivial⟩ ?_
      refine go_ret ⟨rfl, rfl⟩ _ _ (fun a w hp ho hf hs => res1 (by rfl) (.tmp rfl) a w hp ho hf hs) ⟨A2, c2, rfl, rfl, rfl⟩ (by repeat constructor) (by repeat constructor)
    · intro ck
      refine go_skip ?_
      refine go_seq ?_
      refine go_seq ?_
      refine go_region rfl ?_
      refine go_pure0 Tk rfl rfl rfl ?_
      refine go_pure0 Tk rfl rfl rfl ?_
      refine go_pure0 Tk rfl rfl rfl ?_
      refine go_i64 28 rfl (by omega) (by omega) ?_
      refine go_pure0 Tk rfl rfl rfl ?_
      refine go_pure0 Tk rfl rfl rfl ?_
      refine go_pure0 Tk rfl rfl rfl ?_
      refine go_nil ?_
      refine go_env [(0, _), (1, _), (2, _), (7, _), (8, _), (31, _)] ⟨rfl, rfl, rfl, rfl, rfl, rfl, trivial⟩ ?_
      refine go_condD rfl ?_ ?_
      · intro cc
        refine go_ol_open (xs := l) (by repeat constructor) (by omega) (fun b cs cur hA h1 h2 h3 h4 h5 => ?_); cases hA
        refine go_fact (rps tFa l cs) (by repeat constructor) (fun _ q => Reps.one q) (fun hone => ?_)
        refine go_seq ?_
        refine go_region rfl ?_
        refine go_pure0 Tk rfl rfl rfl ?_
        refine go_pure0 Tk rfl rfl rfl ?_
        refine go_val0 rfl (slice_val' Tk rfl rfl rfl rfl 0 k c (.slice (some ⟨b, 0, none⟩) k c) (by first | rfl | exact ⟨_, rfl⟩ | exact ⟨rfl, rfl⟩) (by first | rfl | exact ⟨_, rfl⟩ | exact ⟨rfl, rfl⟩) (by first | rfl | exact ⟨_, rfl⟩ | exact ⟨rfl, rfl⟩) (by omega) (by omega) (by omega) (by rw [sub0]; rfl)) rfl ?_
        refine go_pure0 Tk rfl rfl rfl ?_
        refine go_pure0 Tk rfl rfl rfl ?_
        refine go_pure0 Tk rfl rfl rfl ?_
        refine go_i64 37 rfl (by omega) (by omega) ?_
        refine go_pure0 Tk rfl rfl rfl ?_
        refine go_pure0 Tk rfl rfl rfl ?_
        refine go_i64 39 rfl (by omega) (by omega) ?_
        refine go_re 39 (.int .i64 ((l.length + 1 - k : Nat) : Int)) (by show some (Value.int _ _) = some (Value.int _ _); congr 2; omega) ?_
        refine go_append_zeros (m := l.length + 1 - k) (old := cs.take (k * tFa.size)) Tk rfl rfl rfl rfl rfl rfl rfl rfl rfl rfl (at_head (b := b) (cur := cur) (by repeat constructor) h2 (by rw [h5]; exact Nat.mul_le_mul_right _ hk) rfl) (by omega) (by omega) (by omega) rfl (fun h => nomatch h) ?_
        intro b2 c2 cur2 g1 g2 g3 g4
        rw [show k + (l.length + 1 - k) = l.length + 1 from by omega]
        have hins := ins_cells (v := [Value.int IntKind.u32 q.p, Value.slice QA q.a.length qc]) h5 rfl g1 g2 hk (by omega) (0 + k * tFa.size) (0 + (k + 1) * tFa.size) (Nat.zero_add _) (Nat.zero_add _)
        refine go_pure0 Tk rfl rfl rfl ?_
        refine go_nil ?_
        refine go_env [(0, _), (1, _), (2, _), (7, _), (9, _)] ⟨rfl, rfl, rfl, rfl, rfl, trivial⟩ ?_
        refine go_seq ?_
        refine go_region rfl ?_
        refine go_pure0 Tk rfl rfl rfl ?_
        refine go_pure0 Tk rfl rfl rfl ?_
        refine go_val0 rfl (slice_val' Tk rfl rfl rfl rfl k (l.length + 1) c2 (.slice (some ⟨b2, 0 + k * tFa.size, none⟩) (l.length + 1 - k) (c2 - k)) (by first | rfl | exact ⟨_, rfl⟩ | exact ⟨rfl, rfl⟩) (by first | rfl | exact ⟨_, rfl⟩ | exact ⟨rfl, rfl⟩) (by first | rfl | exact ⟨_, rfl⟩ | exact ⟨rfl, rfl⟩) (by omega) (by omega) (by omega) (by rw [subN (by omega)]; rfl)) rfl ?_
        refine go_pure0 Tk rfl rfl rfl ?_
        refine go_copy (b := b2) (news := [Value.int IntKind.u32 q.p, Value.slice QA q.a.length qc]) Tk rfl rfl rfl rfl rfl rfl rfl (by repeat constructor) 1 (by show Nat.min 1 _ = 1; exact Nat.min_eq_left (by omega)) (at_pt (b := bv) (by repeat constructor) rfl) rfl hins.2.2.1 (fun h => nomatch h) ?_
        refine go_nil ?_
        refine go_env [(0, _), (1, _), (7, _), (9, _)] ⟨rfl, rfl, rfl, rfl, trivial⟩ ?_
        refine go_seq ?_
        refine go_draw'  [] (SL.pre [(1, 0), (1, 1), (1, 2), (1, 3), (1, 4), (1, 5), (1, 6), (1, 7), (0, 8)] .nil) mixed rfl (by kernel_rfl) ?_
        refine go_pure1 Tk rfl rfl rfl ?_
        refine go_pure1 Tk rfl rfl rfl ?_
        refine go_pure1 Tk rfl rfl rfl ?_
        refine go_pure1 Tk rfl rfl rfl ?_
        refine go_i64 49 rfl (by omega) (by omega) ?_
        refine go_val1 rfl (slice_val' Tk rfl rfl rfl rfl (k + 1) (l.length + 1) c2 (.slice (some ⟨b2, 0 + (k + 1) * tFa.size, none⟩) (l.length + 1 - (k + 1)) (c2 - (k + 1))) (by first | rfl | exact ⟨_, rfl⟩ | exact ⟨rfl, rfl⟩) (by first | rfl | exact ⟨_, rfl⟩ | exact ⟨rfl, rfl⟩) (by first | rfl | exact ⟨_, rfl⟩ | exact ⟨rfl, rfl⟩) (by omega) (by omega) (by omega) (by rw [subN (by omega)]; rfl)) rfl ?_
        refine go_pure1 Tk rfl rfl rfl ?_
        refine go_pure1 Tk rfl rfl rfl ?_
        refine go_val1 rfl (slice_val' Tk rfl rfl rfl rfl k l.length c (.slice (some ⟨b, 0 + k * tFa.size, none⟩) (l.length - k) (c - k)) (by first | rfl | exact ⟨_, rfl⟩ | exact ⟨rfl, rfl⟩) (by first | rfl | exact ⟨_, rfl⟩ | exact ⟨rfl, rfl⟩) (by first | rfl | exact ⟨_, rfl⟩ | exact ⟨rfl, rfl⟩) (by omega) (by omega) (by omega) (by rw [subN (by omega)]; rfl)) rfl ?_
        refine go_copy (b := b2) (b2 := b) (news := cs.drop (k * tFa.size)) Tk rfl rfl rfl rfl rfl rfl rfl (by repeat constructor) (l.length - k) (by show Nat.min _ _ = _; exact Nat.min_eq_left (by omega)) (at_any (b := b) (e := 31) (cur := cur) (by repeat constructor) (by rw [List.length_drop, h5, Nat.sub_mul]; rfl) (cut_news h2 _ (.inr (Nat.zero_add _)))) (oneCells_drop _ hone) hins.2.2.2 (fun h => nomatch h) ?_
        refine go_ent (rps tFa (l.take k ++ q :: l.drop k) (cs.take (k * tFa.size) ++ ([Value.int IntKind.u32 q.p, Value.slice QA q.a.length qc] ++ cs.drop (k * tFa.size)))) (fun hh a => Reps.ins (a (rps tFa l cs) (by repeat constructor)) (tFa_mk (a (sl tU QA qc q.a) (by repeat constructor))) hk) ?_
        have hlen : (l.take k ++ q :: l.drop k).length = l.length + 1 := by simp; omega
        refine go_ol_close (l.take k ++ q :: l.drop k) (by repeat constructor) (by repeat constructor) hins.2.1 (by rw [hlen]; exact hins.1) (by omega) (by assumption) ?_
        rw [show l.length + 1 = (l.take k ++ q :: l.drop k).length from hlen.symm]
        refine go_nil ?_
        refine go_env [(9, _)] ⟨rfl, trivial⟩ ?_
        refine go_seq ?_
        refine go_region rfl ?_
        refine go_pure0 Tk rfl rfl rfl ?_
        refine go_pure0 Tk rfl rfl rfl ?_
        refine go_nil ?_
        refine go_env [(6, _)] ⟨rfl, trivial⟩ ?_
        refine go_ret ⟨rfl, rfl⟩ _ _ (fun a w hp ho hf hs => res1 (by rfl) (.tmp rfl) a w hp ho hf hs) ⟨_, c2, rfl, rfl, rfl⟩ (by repeat constructor) (by repeat constructor)
      · intro cc
        refine go_ol_open (xs := l) (by repeat constructor) (by omega) (fun b cs cur hA h1 h2 h3 h4 h5 => ?_); cases hA
        refine go_fact (rps tFa l cs) (by repeat constructor) (fun _ q => Reps.one q) (fun hone => ?_)
        refine go_skip ?_
        refine go_seq ?_
        refine go_region rfl ?_
        refine go_pure0 Tk rfl rfl rfl ?_
        refine go_pure0 Tk rfl rfl rfl ?_
        refine go_pure0 Tk rfl rfl rfl ?_
        refine go_pure0 Tk rfl rfl rfl ?_
        refine go_i64 59 rfl (by omega) (by omega) ?_
        refine go_val0 rfl (slice_val' Tk rfl rfl rfl rfl 0 (l.length + 1) c (.slice (some ⟨b, 0, none⟩) (l.length + 1) c) (by first | rfl | exact ⟨_, rfl⟩ | exact ⟨rfl, rfl⟩) (by first | rfl | exact ⟨_, rfl⟩ | exact ⟨rfl, rfl⟩) (by first | rfl | exact ⟨_, rfl⟩ | exact ⟨rfl, rfl⟩) (by omega) (by omega) (by omega) (by rw [sub0]; rfl)) rfl ?_
        refine go_pure0 Tk rfl rfl rfl ?_
        refine go_nil ?_
        refine go_env [(0, _), (1, _), (2, _), (7, _), (8, _)] ⟨rfl, rfl, rfl, rfl, rfl, trivial⟩ ?_
        refine go_seq ?_
        refine go_seq ?_
        refine go_region rfl ?_
        refine go_pure0 Tk rfl rfl rfl ?_
        refine go_pure0 Tk rfl rfl rfl ?_
        refine go_pure0 Tk rfl rfl rfl ?_
        refine go_pure0 Tk rfl rfl rfl ?_
        refine go_pure0 Tk rfl rfl rfl ?_
        refine go_i64 65 rfl (by omega) (by omega) ?_
        refine go_val0 rfl (slice_val' Tk rfl rfl rfl rfl (k + 1) (l.length + 1) c (.slice (some ⟨b, 0 + (k + 1) * tFa.size, none⟩) (l.length + 1 - (k + 1)) (c - (k + 1))) (by first | rfl | exact ⟨_, rfl⟩ | exact ⟨rfl, rfl⟩) (by first | rfl | exact ⟨_, rfl⟩ | exact ⟨rfl, rfl⟩) (by first | rfl | exact ⟨_, rfl⟩ | exact ⟨rfl, rfl⟩) (by omega) (by omega) (by omega) (by rw [subN (by omega)]; rfl)) rfl ?_
        refine go_val0 rfl (ext_val Try.func100 (by kernel_rfl) (by kernel_rfl) (by kernel_rfl) (e := Extern.SlicesOverlaps.overlaps #[49, 49] #[4]) (by kernel_rfl) rfl (by rfl) (apart_run Tk (tS := 49) rfl rfl (ba := bv) (bb := b) (by repeat constructor) (by repeat constructor) (fun e => by rw [e, List.length_nil] at h1; have := Nat.mul_pos (show 0 < c by omega) (show 0 < tFa.size by decide); omega))) rfl ?_
        refine go_pure0 Tk rfl rfl rfl ?_
        refine go_nil ?_
        refine go_env [(0, _), (1, _), (2, _), (7, _), (8, _), (68, _)] ⟨rfl, rfl, rfl, rfl, rfl, rfl, trivial⟩ ?_
        refine go_cond_t rfl ?_
        refine go_seq ?_
        have hins := ins_cells2 (v := [Value.int IntKind.u32 q.p, Value.slice QA q.a.length qc]) h5 rfl h1 h2 hk (by omega) (0 + k * tFa.size) (0 + (k + 1) * tFa.size) (Nat.zero_add _) (Nat.zero_add _)
        refine go_draw'  [] (SL.pre [(1, 0), (1, 1), (1, 2), (1, 3), (1, 4), (1, 5), (1, 6), (1, 7), (0, 8)] .nil) mixed rfl (by kernel_rfl) ?_
        refine go_pure1 Tk rfl rfl rfl ?_
        refine go_pure1 Tk rfl rfl rfl ?_
        refine go_pure1 Tk rfl rfl rfl ?_
        refine go_pure1 Tk rfl rfl rfl ?_
        refine go_i64 72 rfl (by omega) (by omega) ?_
        refine go_val1 rfl (slice_val' Tk rfl rfl rfl rfl (k + 1) (l.length + 1) c (.slice (some ⟨b, 0 + (k + 1) * tFa.size, none⟩) (l.length + 1 - (k + 1)) (c - (k + 1))) (by first | rfl | exact ⟨_, rfl⟩ | exact ⟨rfl, rfl⟩) (by first | rfl | exact ⟨_, rfl⟩ | exact ⟨rfl, rfl⟩) (by first | rfl | exact ⟨_, rfl⟩ | exact ⟨rfl, rfl⟩) (by omega) (by omega) (by omega) (by rw [subN (by omega)]; rfl)) rfl ?_
        refine go_pure1 Tk rfl rfl rfl ?_
        refine go_pure1 Tk rfl rfl rfl ?_
        refine go_val1 rfl (slice_val' Tk rfl rfl rfl rfl k (l.length + 1) c (.slice (some ⟨b, 0 + k * tFa.size, none⟩) (l.length + 1 - k) (c - k)) (by first | rfl | exact ⟨_, rfl⟩ | exact ⟨rfl, rfl⟩) (by first | rfl | exact ⟨_, rfl⟩ | exact ⟨rfl, rfl⟩) (by first | rfl | exact ⟨_, rfl⟩ | exact ⟨rfl, rfl⟩) (by omega) (by omega) (by omega) (by rw [subN (by omega)]; rfl)) rfl ?_
        refine go_copy (b := b) (b2 := b) (news := cs.drop (k * tFa.size)) Tk rfl rfl rfl rfl rfl rfl rfl (by repeat constructor) (l.length - k) (by show Nat.min _ _ = _; rw [show l.length + 1 - (k + 1) = l.length - k from by omega]; exact Nat.min_eq_right (by omega)) (at_any (b := b) (e := 31) (cur := cur) (by repeat constructor) (by rw [List.length_drop, h5, Nat.sub_mul]; rfl) (cut_news h2 _ (.inr (Nat.zero_add _)))) (oneCells_drop _ hone) hins.2.2.1 (fun h => nomatch h) ?_
        refine go_nil ?_
        refine go_env [(0, _), (1, _), (2, _)] ⟨rfl, rfl, rfl, trivial⟩ ?_
        refine go_seq ?_
        refine go_region rfl ?_
        refine go_pure0 Tk rfl rfl rfl ?_
        refine go_pure0 Tk rfl rfl rfl ?_
        refine go_val0 rfl (slice_val' Tk rfl rfl rfl rfl k (l.length + 1) c (.slice (some ⟨b, 0 + k * tFa.size, none⟩) (l.length + 1 - k) (c - k)) (by first | rfl | exact ⟨_, rfl⟩ | exact ⟨rfl, rfl⟩) (by first | rfl | exact ⟨_, rfl⟩ | exact ⟨rfl, rfl⟩) (by first | rfl | exact ⟨_, rfl⟩ | exact ⟨rfl, rfl⟩) (by omega) (by omega) (by omega) (by rw [subN (by omega)]; rfl)) rfl ?_
        refine go_pure0 Tk rfl rfl rfl ?_
        refine go_copy (b := b) (news := [Value.int IntKind.u32 q.p, Value.slice QA q.a.length qc]) Tk rfl rfl rfl rfl rfl rfl rfl (by repeat constructor) 1 (by show Nat.min 1 _ = 1; exact Nat.min_eq_left (by omega)) (at_pt (b := bv) (by repeat constructor) rfl) rfl hins.2.2.2 (fun h => nomatch h) ?_
        refine go_ent (rps tFa (l.take k ++ q :: l.drop k) (cs.take (k * tFa.size) ++ ([Value.int IntKind.u32 q.p, Value.slice QA q.a.length qc] ++ cs.drop (k * tFa.size)))) (fun hh a => Reps.ins (a (rps tFa l cs) (by repeat constructor)) (tFa_mk (a (sl tU QA qc q.a) (by repeat constructor))) hk) ?_
        have hlen : (l.take k ++ q :: l.drop k).length = l.length + 1 := by simp; omega
        refine go_ol_close (l.take k ++ q :: l.drop k) (by repeat constructor) (by repeat constructor) hins.2.1 (by rw [hlen]; exact hins.1) (by omega) (by assumption) ?_
        rw [show l.length + 1 = (l.take k ++ q :: l.drop k).length from hlen.symm]
        refine go_nil ?_
        refine go_env [(0, _)] ⟨rfl, trivial⟩ ?_
        refine go_seq ?_
        refine go_region rfl ?_
        refine go_pure0 Tk rfl rfl rfl ?_
        refine go_pure0 Tk rfl rfl rfl ?_
        refine go_nil ?_
        refine go_env [(6, _)] ⟨rfl, trivial⟩ ?_
        refine go_ret ⟨rfl, rfl⟩ _ _ (fun a w hp ho hf hs => res1 (by rfl) (.tmp rfl) a w hp ho hf hs) ⟨_, c, rfl, rfl, rfl⟩ (by repeat constructor) (by repeat constructor)

end Go.Proofs.Ytdkfpgdfjnaciaa.SL
