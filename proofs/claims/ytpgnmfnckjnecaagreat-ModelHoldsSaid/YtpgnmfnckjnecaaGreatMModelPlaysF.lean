/- Engine, data and contracts: parts of the proof of ModelPlays, put together (EA Law15a Law15p S8 Open SE Law15h). -/
import Derived.Test.YtpgnmfnckjnecaaGreatMModelPlaysE
import Derived.Test.YtpgnmfnckjnecaaGreatMModelPlaysD
import Derived.Test.YtpgnmfnckjnecaaGreatMModelPlaysB
import Derived.Test.YtpgnmfnckjnecaaGreatMModelPlaysA
import Derived.WalkKit
import Derived.ProofKit
import Derived.OpenShut
import Derived.ShutString
import Derived.ChangeOld
import Derived.Below
import Derived.Carry
import Derived.SizedLaws
import Derived.Deep.Slices
set_option maxHeartbeats 2000000
set_option maxRecDepth 20000
namespace Go.Proofs.YtpgnmfnckjnecaaGreat.SL
open Md
def RP (l : List Cl) (fs : List Fa) : Prop := (rightC l).2 = 0 ∧ (∃ lv, Levels l lv) ∧ ArOK (atomsL l) fs
theorem filterMap_len {α β : Type} (f : α → Option β) (l : List α) : (l.filterMap f).length ≤ l.length := List.length_filterMap_le ..
theorem run_perfect {l : List Cl} {fs : List Fa} {most : Int} {ss : List (List Nat)} {r : Option (List Fa)} {e : Int} (ho : ∀ c ∈ l, c.ok) (hs : StrR l ss 0) (h0 : 0 ≤ most) (h : ModelR (ss.map (clausesAt l)) most (fof fs) r e) : (∃ lv, Levels l lv) ∧ Perfect l (· ∈ fof fs) most r e := by
  generalize he : (0 : Int) = z at hs
  cases hs with
  | bad e h1 h2 => exact absurd he.symm h1
  | ok lv h1 h2 h3 h4 =>
    refine ⟨⟨lv, h2⟩, ModelR.perfect ho h2 (strata_split l lv) (strata_all l lv) (fun k hk => level_fix h1 h2 (k := k) (fun c => strata_split l lv k hk c) ?_) h0 (rises_fof _) h⟩
    have hk' : k < (strata (l.map fun c => lv c.h.p)).length := by simpa using hk
    rw [List.getElem_map]
    refine Nat.le_trans (filterMap_len _ _) ?_
    have : (strata (l.map fun c => lv c.h.p))[k] = strI (l.map fun c => lv c.h.p) k := by simp [strata]
    rw [this]
    refine Nat.le_trans (strI_len _ _) ?_
    rw [List.length_map]; exact (rightC_iff.1 h1).1
theorem StrR.right {l : List Cl} {ss : List (List Nat)} (h : StrR l ss 0) : (rightC l).2 = 0 ∧ ∃ lv, Levels l lv := by
  generalize he : (0 : Int) = z at h
  cases h with
  | bad e h1 h2 => exact absurd he.symm h1
  | ok lv h1 h2 h3 h4 => exact ⟨h1, lv, h2⟩
theorem StrR.wrong {l : List Cl} {ss : List (List Nat)} {e : Int} (h : StrR l ss e) (he : e ≠ 0) : ¬ ((rightC l).2 = 0 ∧ ∃ lv, Levels l lv) := by
  cases h with
  | bad e h1 h2 =>
    rintro ⟨q1, lv, q2⟩
    rcases h2 with ⟨a, _⟩ | ⟨_, _, b⟩
    · exact a q1
    · exact b lv q2
  | ok lv h1 h2 h3 h4 => exact absurd rfl he
theorem ModA.one {l : List Cl} {fs : List Fa} {most : Int} {r r' : Option (List Fa)} {e e' : Int} (ho : ∀ c ∈ l, c.ok) (h : ModA l fs most r e) (h' : ModA l fs most r' e') : r = r' ∧ e = e' := by
  cases h with
  | arg a =>
    cases h' with
    | arg a' => exact ⟨rfl, rfl⟩
    | strat a' s' n' => omega
    | ari a' s' n' => omega
    | run a' s' o' m' => omega
  | strat a s n =>
    cases h' with
    | arg a' => omega
    | strat a' s' n' => exact ⟨rfl, (s.one s').2⟩
    | ari a' s' n' => exact absurd (s.one s').2 n
    | run a' s' o' m' => exact absurd (s.one s').2 n
  | ari a s n =>
    cases h' with
    | arg a' => omega
    | strat a' s' n' => exact absurd (s'.one s).2 n'
    | ari a' s' n' => exact ⟨rfl, rfl⟩
    | run a' s' o' m' => exact absurd o' n
  | run a s o m =>
    cases h' with
    | arg a' => omega
    | strat a' s' n' => exact absurd (s'.one s).2 n'
    | ari a' s' n' => exact absurd o n'
    | run a' s' o' m' =>
      obtain ⟨⟨lv, hl⟩, p⟩ := run_perfect ho s a m
      exact p.same (run_perfect ho s' a' m').2 hl fun _ => Iff.rfl
theorem ModA.of_right {l : List Cl} {fs : List Fa} {most : Int} {r : Option (List Fa)} {e : Int} (ho : ∀ c ∈ l, c.ok) (h : ModA l fs most r e) (hr : RP l fs) (h0 : 0 ≤ most) : Perfect l (· ∈ fof fs) most r e := by
  cases h with
  | arg a => omega
  | strat a s n => exact absurd ⟨hr.1, hr.2.1⟩ (s.wrong n)
  | ari a s n => exact absurd hr.2.2 n
  | run a s o m => exact (run_perfect ho s a m).2
theorem ModA.ok {l : List Cl} {fs : List Fa} {most : Int} {r : Option (List Fa)} {e : Int} (ho : ∀ c ∈ l, c.ok) (h : ModA l fs most r e) (he : e = 0) : RP l fs ∧ 0 ≤ most ∧ ∃ M, r = some M ∧ rises M ∧ (M.length : Int) ≤ most ∧ Stable l (· ∈ fof fs) (· ∈ M) := by
  cases h with
  | arg a => cases he
  | strat a s n => exact absurd he n
  | ari a s n => cases he
  | run a s o m =>
    have hp := (run_perfect ho s a m).2
    refine ⟨⟨s.right.1, s.right.2, o⟩, a, ?_⟩
    rcases hp with ⟨_, M, h2, h3, h4, h5⟩ | ⟨h1, _, _⟩
    · exact ⟨M, h2, h3, h4, h5⟩
    · omega
theorem ModA.none_ {l : List Cl} {fs : List Fa} {most : Int} {r : Option (List Fa)} {e : Int} (ho : ∀ c ∈ l, c.ok) (h : ModA l fs most r e) (he : ¬ e = 0) : r = none := by
  cases h with
  | arg a => rfl
  | strat a s n => rfl
  | ari a s n => rfl
  | run a s o m =>
    rcases (run_perfect ho s a m).2 with ⟨h1, _⟩ | ⟨_, h2, _⟩
    · exact absurd h1 he
    · exact h2
theorem Md.Perfect.of_stable {l : List Cl} {B : Fa → Prop} {most : Int} {M : List Fa} {r : Option (List Fa)} {e : Int} (h : Perfect l B most r e) {lv : Int → Nat} (hl : Levels l lv) (hM : rises M) (hS : Stable l B (· ∈ M)) :
    ((M.length : Int) ≤ most → r = some M ∧ e = 0) ∧ (most < (M.length : Int) → r = none ∧ e = 6) := by
  rcases h with ⟨g1, M', g2, g3, g4, g5⟩ | ⟨g1, g2, g3⟩
  · have : M = M' := rises_ext hM g3 fun x => hS.same hl g5 x
    subst this
    exact ⟨fun _ => ⟨g2, g1⟩, fun q => by omega⟩
  · have := g3 M hM hS
    exact ⟨fun q => by omega, fun _ => ⟨g2, g1⟩⟩
theorem ArOK.mono {X Y : List Am} {fs gs : List Fa} (h : ArOK X fs) (hX : ∀ a ∈ Y, a ∈ X) (hf : ∀ f ∈ gs, f ∈ fs) : ArOK Y gs := ⟨fun f q => h.1 f (hf f q), sameLen_sub h.2 fun a ha => by
  rcases List.mem_append.1 ha with h | h
  · exact List.mem_append_left _ (hX a h)
  · obtain ⟨g, hg, rfl⟩ := List.mem_map.1 h
    exact List.mem_append_right _ (List.mem_map.2 ⟨g, hf g hg, rfl⟩)⟩
theorem atomsL_mono {l l' : List Cl} (h : ∀ c ∈ l', c ∈ l) : ∀ a ∈ atomsL l', a ∈ atomsL l := fun a ha => by
  obtain ⟨c, hc, q⟩ := mem_atomsL.1 ha
  exact mem_atomsL.2 ⟨c, h c hc, q⟩
theorem RP.sub {l l' : List Cl} {fs gs : List Fa} (h : RP l fs) (hl : ∀ c ∈ l', c ∈ l) (hf : ∀ f ∈ gs, f ∈ fs) (hn : l'.length ≤ 400) : RP l' gs :=
  ⟨right_sub h.1 hl hn, h.2.1.imp fun lv q => levels_sub q fun c hc => .inl (hl c hc), h.2.2.mono (atomsL_mono hl) hf⟩
theorem turned_same {l l' : List Cl} {fs gs : List Fa} {most : Int} {M : List Fa} {r : Option (List Fa)} {e : Int} (ho : ∀ c ∈ l, c.ok) (h : ModA l fs most (some M) 0) (hl : ∀ c, c ∈ l' ↔ c ∈ l) (hf : ∀ f, f ∈ gs ↔ f ∈ fs) (hn : l'.length ≤ 400) (h' : ModA l' gs most r e) : r = some M ∧ e = 0 := by
  obtain ⟨hr, h0, M', q, h3, h4, h5⟩ := h.ok ho rfl
  cases q
  have hr' := hr.sub (fun c hc => (hl c).1 hc) (fun f q => (hf f).1 q) hn
  obtain ⟨lv, hlv⟩ := hr'.2.1
  exact ((h'.of_right (fun c hc => ho c ((hl c).1 hc)) hr' h0).of_stable hlv h3 (h5.perm hl (fun x => by rw [mem_fof, mem_fof, hf]))).1 h4
theorem model_all {l : List Cl} {fs : List Fa} {most : Int} {M : List Fa} (ho : ∀ c ∈ l, c.ok) (h : ModA l fs most (some M) 0) : (∀ f ∈ fs, f ∈ M) ∧ (∀ c ∈ l, ∀ x ∈ headsC c M [] M false, x ∈ M) ∧ rises M ∧ fof (fs ++ l.flatMap fun c => headsC c M [] M false) = M := by
  obtain ⟨hr, h0, M', q, h3, h4, h5⟩ := h.ok ho rfl
  cases q
  have h6 : ∀ f ∈ fs, f ∈ M := fun f q => h5.base f (mem_fof.2 q)
  have h7 : ∀ c ∈ l, ∀ x ∈ headsC c M [] M false, x ∈ M := fun c hc x hx => h5.closed c hc x ((mem_H (ho c hc)).1 hx)
  refine ⟨h6, h7, h3, rises_ext (rises_fof _) h3 fun x => ?_⟩
  rw [mem_fof, List.mem_append]
  constructor
  · rintro (q | q)
    · exact h6 x q
    · obtain ⟨c, hc, q⟩ := List.mem_flatMap.1 q
      exact h7 c hc x q
  · intro hx
    rcases h5.why x hx with q | ⟨c, hc, q⟩
    · exact .inl (mem_fof.1 q)
    · exact .inr (List.mem_flatMap.2 ⟨c, hc, (mem_H (ho c hc)).2 q⟩)
theorem Md.H.len {c : Cl} {F N : Fa → Prop} {x : Fa} (h : H c F N x) : x.a.length = c.h.a.length := by
  obtain ⟨_, s, _, _, _, h4⟩ := h
  rw [h4]; simp [ap]
theorem may_head {c : Cl} (h : mayC c = true) : c.h.a.length ≤ 6 := (mayA_iff.1 (mayC_iff.1 h).2.1).1
theorem RP.model {l : List Cl} {fs M : List Fa} (h : RP l fs) (hS : Stable l (· ∈ fof fs) (· ∈ M)) : ArOK (atomsL l) M := by
  have hw : ∀ x ∈ M, x.a.length ≤ 6 ∧ ∃ y ∈ atomsL l ++ fs.map lift, y.p = x.p ∧ y.a.length = x.a.length := fun x hx => by
    rcases hS.why x hx with q | ⟨c, hc, q⟩
    · have q := mem_fof.1 q
      exact ⟨h.2.2.1 x q, lift x, List.mem_append_right _ (List.mem_map.2 ⟨x, q, rfl⟩), rfl, lift_len x⟩
    · refine ⟨by rw [q.len]; exact may_head ((rightC_iff.1 h.1).2.1 c hc).1, c.h, List.mem_append_left _ (mem_atomsL.2 ⟨c, hc, .head _⟩), q.p.symm, q.len.symm⟩
  refine ⟨fun x hx => (hw x hx).1, ?_⟩
  have key : ∀ a ∈ atomsL l ++ M.map lift, ∃ y ∈ atomsL l ++ fs.map lift, y.p = a.p ∧ y.a.length = a.a.length := fun a ha => by
    rcases List.mem_append.1 ha with q | q
    · exact ⟨a, List.mem_append_left _ q, rfl, rfl⟩
    · obtain ⟨x, hx, rfl⟩ := List.mem_map.1 q
      obtain ⟨_, y, h1, h2, h3⟩ := hw x hx
      exact ⟨y, h1, h2, by rw [lift_len]; exact h3⟩
  intro a ha b hb e
  obtain ⟨y, h1, h2, h3⟩ := key a ha
  obtain ⟨z, h4, h5, h6⟩ := key b hb
  have := h.2.2.2 y h1 z h4 (by rw [h2, h5, e])
  omega
def rotL (l : List Cl) (t n : Nat) : List Cl := (List.range n).filterMap fun i => l[(i + t) % l.length]?
theorem rotL_snoc {l : List Cl} {t n : Nat} (h : 0 < l.length) : rotL l t (n + 1) = rotL l t n ++ [l[(n + t) % l.length]'(Nat.mod_lt _ h)] := by
  unfold rotL
  rw [List.range_succ, List.filterMap_append]
  simp [List.getElem?_eq_getElem (Nat.mod_lt (n + t) h)]
theorem rotL_len {l : List Cl} {t : Nat} (h : 0 < l.length) : ∀ n, (rotL l t n).length = n
  | 0 => rfl
  | n + 1 => by rw [rotL_snoc h, List.length_append, rotL_len h n]; rfl
theorem mem_rotL {l : List Cl} {t : Nat} {c : Cl} : c ∈ rotL l t l.length ↔ c ∈ l := by
  unfold rotL
  rw [List.mem_filterMap]
  constructor
  · rintro ⟨i, _, h⟩; exact List.mem_of_getElem? h
  · intro h
    obtain ⟨j, hj, e⟩ := List.getElem_of_mem h
    have hn : 0 < l.length := by omega
    have ht := Nat.mod_lt t hn
    refine ⟨(j + (l.length - t % l.length)) % l.length, List.mem_range.2 (Nat.mod_lt _ hn), ?_⟩
    have : ((j + (l.length - t % l.length)) % l.length + t) % l.length = j := by
      rw [Nat.add_mod, Nat.mod_mod, ← Nat.add_mod]
      have h2 : (j + (l.length - t % l.length) + t) % l.length = (j + (l.length - t % l.length) + t % l.length) % l.length := by rw [Nat.add_mod, Nat.add_mod (j + (l.length - t % l.length)) (t % l.length), Nat.mod_mod]
      rw [h2, show j + (l.length - t % l.length) + t % l.length = j + l.length by omega, Nat.add_mod_right, Nat.mod_eq_of_lt hj]
    rw [this, List.getElem?_eq_getElem hj, e]
end Go.Proofs.YtpgnmfnckjnecaaGreat.SL
namespace Go.Proofs.YtpgnmfnckjnecaaGreat.SL
open Go Md
def wa15 : Cl := ⟨⟨1, [⟨true, 0⟩]⟩, [⟨false, ⟨2, [⟨true, 0⟩]⟩⟩, ⟨true, ⟨3, [⟨true, 0⟩]⟩⟩]⟩
def wb15 : Cl := ⟨⟨3, [⟨true, 0⟩]⟩, [⟨false, ⟨4, [⟨true, 0⟩]⟩⟩]⟩
def wl15 : List Cl := [wa15, wb15]
def wn15 : List Fa := [(⟨2, [10]⟩ : Fa), (⟨2, [11]⟩ : Fa), (⟨4, [10]⟩ : Fa)]
def wm15 : List Fa := [(⟨1, [11]⟩ : Fa), (⟨2, [10]⟩ : Fa), (⟨2, [11]⟩ : Fa), (⟨3, [10]⟩ : Fa), (⟨4, [10]⟩ : Fa)]
theorem wa15_ok : wa15.ok := ⟨ok_am _ _ (by decide), fun l hl => by
  simp only [wa15, List.mem_cons, List.not_mem_nil, or_false] at hl
  rcases hl with rfl | rfl <;> exact ok_am _ _ (by decide)⟩
theorem wb15_ok : wb15.ok := ⟨ok_am _ _ (by decide), fun l hl => by
  simp only [wb15, List.mem_cons, List.not_mem_nil, or_false] at hl
  rcases hl with rfl; exact ok_am _ _ (by decide)⟩
theorem wl15_ok : ∀ c ∈ wl15, c.ok := fun c hc => by
  simp only [wl15, List.mem_cons, List.not_mem_nil, or_false] at hc
  rcases hc with rfl | rfl
  · exact wa15_ok
  · exact wb15_ok
theorem wl15_at : ∀ a ∈ atomsL wl15, a.a.length = 1 := fun a ha => by
  obtain ⟨c, hc, q⟩ := mem_atomsL.1 ha
  simp only [wl15, List.mem_cons, List.not_mem_nil, or_false] at hc
  rcases hc with rfl | rfl <;> simp only [atomsC, wa15, wb15, List.map_cons, List.map_nil, List.mem_cons, List.not_mem_nil, or_false] at q
  · rcases q with rfl | rfl | rfl <;> rfl
  · rcases q with rfl | rfl <;> rfl
theorem wl15_r : (rightC wl15).2 = 0 := rightC_iff.2 ⟨by decide, fun c hc => by
  simp only [wl15, List.mem_cons, List.not_mem_nil, or_false] at hc
  rcases hc with rfl | rfl <;> exact ⟨by decide, by decide⟩, fun a ha b hb _ => by rw [wl15_at a ha, wl15_at b hb]⟩
theorem wl15_c : ∀ c ∈ wl15, (rightC [c]).2 = 0 := right_all wl15_r
theorem wn15_len : ∀ x ∈ wn15, x.ok ∧ x.a.length = 1 := fun x hx => by
  simp only [wn15, List.mem_cons, List.not_mem_nil, or_false] at hx
  rcases hx with rfl | rfl | rfl <;> exact ⟨ok_fa _ _ (by decide), rfl⟩
def wlv15 (p : Int) : Nat := if p = 1 then 1 else 0
theorem wl15_lv : Levels wl15 wlv15 := fun c hc x hx => by
  simp only [wl15, List.mem_cons, List.not_mem_nil, or_false] at hc
  rcases hc with rfl | rfl <;> simp only [wa15, wb15, List.mem_cons, List.not_mem_nil, or_false] at hx
  · rcases hx with rfl | rfl <;> decide
  · rcases hx with rfl; decide
theorem wl15_rp : RP wl15 wn15 := ⟨wl15_r, ⟨_, wl15_lv⟩, fun x hx => by rw [(wn15_len x hx).2]; omega, fun a ha b hb _ => by
  have h : ∀ a ∈ atomsL wl15 ++ wn15.map lift, a.a.length = 1 := fun a ha => by
    rcases List.mem_append.1 ha with q | q
    · exact wl15_at a q
    · obtain ⟨x, hx, rfl⟩ := List.mem_map.1 q
      rw [lift_len]; exact (wn15_len x hx).2
  rw [h a ha, h b hb]⟩
theorem wa15_H {F N : Fa → Prop} {x : Fa} : H wa15 F N x ↔ ∃ a : Int, F ⟨2, [a]⟩ ∧ ¬ N ⟨3, [a]⟩ ∧ x = ⟨1, [a]⟩ := by
  unfold H Hd
  constructor
  · rintro ⟨_, s, h1, h2, _, h4⟩
    exact ⟨s 0, h1 _ (.head _) rfl, h2 _ (.tail _ (.head _)) rfl, h4⟩
  · rintro ⟨a, h1, h2, h3⟩
    refine ⟨wl15_c _ (.head _), fun _ => a, fun l hl e => ?_, fun l hl e => ?_, fun e => (nomatch e), h3⟩
    · simp only [wa15, List.mem_cons, List.not_mem_nil, or_false] at hl
      rcases hl with rfl | rfl
      · exact h1
      · cases e
    · simp only [wa15, List.mem_cons, List.not_mem_nil, or_false] at hl
      rcases hl with rfl | rfl
      · cases e
      · exact h2
theorem wb15_H {F N : Fa → Prop} {x : Fa} : H wb15 F N x ↔ ∃ a : Int, F ⟨4, [a]⟩ ∧ x = ⟨3, [a]⟩ := by
  unfold H Hd
  constructor
  · rintro ⟨_, s, h1, h2, _, h4⟩
    exact ⟨s 0, h1 _ (.head _) rfl, h4⟩
  · rintro ⟨a, h1, h3⟩
    refine ⟨wl15_c _ (.tail _ (.head _)), fun _ => a, fun l hl e => ?_, fun l hl e => ?_, fun e => (nomatch e), h3⟩
    · simp only [wb15, List.mem_cons, List.not_mem_nil, or_false] at hl
      rcases hl with rfl
      exact h1
    · simp only [wb15, List.mem_cons, List.not_mem_nil, or_false] at hl
      rcases hl with rfl
      cases e
theorem wm15_st : Stable wl15 (· ∈ fof wn15) (· ∈ wm15) := by
  refine ⟨fun x hx => ?_, fun c hc x hx => ?_, fun S h1 h2 x hx => ?_⟩
  · rw [mem_fof] at hx
    simp only [wn15, wm15, List.mem_cons, List.not_mem_nil, or_false] at hx ⊢
    rcases hx with rfl | rfl | rfl <;> simp
  · simp only [wl15, List.mem_cons, List.not_mem_nil, or_false] at hc
    rcases hc with rfl | rfl
    · obtain ⟨a, q1, q2, rfl⟩ := wa15_H.1 hx
      have q1 : (⟨2, [a]⟩ : Fa) ∈ wm15 := q1
      have q2 : ¬ (⟨3, [a]⟩ : Fa) ∈ wm15 := q2
      show (⟨1, [a]⟩ : Fa) ∈ wm15
      simp [wm15] at q1 q2 ⊢
      omega
    · obtain ⟨a, q1, rfl⟩ := wb15_H.1 hx
      have q1 : (⟨4, [a]⟩ : Fa) ∈ wm15 := q1
      show (⟨3, [a]⟩ : Fa) ∈ wm15
      simp [wm15] at q1 ⊢
      exact q1
  · have b1 : ∀ y ∈ wn15, S y := fun y hy => h1 y (mem_fof.2 hy)
    simp only [wm15, List.mem_cons, List.not_mem_nil, or_false] at hx
    rcases hx with rfl | rfl | rfl | rfl | rfl
    · refine h2 wa15 (.head _) _ (wa15_H.2 ⟨11, b1 _ (by simp [wn15]), ?_, rfl⟩)
      simp [wm15]
    · exact b1 _ (by simp [wn15])
    · exact b1 _ (by simp [wn15])
    · exact h2 wb15 (.tail _ (.head _)) _ (wb15_H.2 ⟨10, b1 _ (by simp [wn15]), rfl⟩)
    · exact b1 _ (by simp [wn15])
theorem wm15_rises : rises wm15 := by unfold rises wm15; decide
theorem w15_big : ∀ c ∈ wl15, ∀ (F R N : List Fa) (new : Bool), (F.length : Int) ≤ 100 → (goL c F R N c.b ch0 new).length ≤ 50000000 := fun c hc F R N new hF => by
  have h : F.length ≤ 100 := by omega
  refine Nat.le_trans (goL_len _ _ _ _ _ _ _) ?_
  simp only [wl15, List.mem_cons, List.not_mem_nil, or_false] at hc
  rcases hc with rfl | rfl
  · show F.length ^ 1 ≤ _; rw [Nat.pow_one]; omega
  · show F.length ^ 1 ≤ _; rw [Nat.pow_one]; omega
theorem w15_yes {r : Option (List Fa)} {e : Int} (h : ModA wl15 wn15 100 r e) : r = some wm15 ∧ e = 0 :=
  ((h.of_right wl15_ok wl15_rp (by omega)).of_stable wl15_lv wm15_rises wm15_st).1 (by decide)
theorem w15_no {r : Option (List Fa)} {e : Int} (h : ModA wl15 wn15 4 r e) : r = none ∧ e = 6 :=
  ((h.of_right wl15_ok wl15_rp (by omega)).of_stable wl15_lv wm15_rises wm15_st).2 (by decide)
set_option maxHeartbeats 4000000 in
theorem law15Example  :
    Spec Tryz.prog 22 #[] [] [] (fun v Ps' Os' => ∃ A B, v = .tuple #[.slice A 2 2, .slice B 3 3] ∧ Ps' = [sl tCl A 2 wl15, sl tFa B 3 wn15] ∧ Os' = []) := by
 refine zSp [] Tryz.func22 Tryz.ntmps22 (fun w0 hp0 hf0 => ?_)
 refine zC3 7 (law11V 0) ?_
 refine zV 0 ?_
 intro u1
 refine go_lit tTm (b := u1) [⟨true, 0⟩] zM (fun hp a => ⟨[_, _], [], rfl, tTm_mk (x := ⟨true, 0⟩), rfl⟩) (by simp) ?_
 refine zC3 0 (law11A _ _ _ _) ?_
 refine zC3 0 (law11V 0) ?_
 refine zV 0 ?_
 intro u2
 refine go_lit tTm (b := u2) [⟨true, 0⟩] zM (fun hp a => ⟨[_, _], [], rfl, tTm_mk (x := ⟨true, 0⟩), rfl⟩) (by simp) ?_
 refine zC3 0 (law11Yes _ _ _ _) ?_
 refine zC3 0 (law11V 0) ?_
 refine zV 0 ?_
 intro u3
 refine go_lit tTm (b := u3) [⟨true, 0⟩] zM (fun hp a => ⟨[_, _], [], rfl, tTm_mk (x := ⟨true, 0⟩), rfl⟩) (by simp) ?_
 refine zC3 0 (law11No _ _ _ _) ?_
 refine zV 0 ?_
 intro u4
 refine go_lit tLi (b := u4) wa15.b zM (fun hp a => ⟨[_, _, _], _, rfl, tLi_mk (x := ⟨false, ⟨2, [⟨true, 0⟩]⟩⟩) (a (sl tTm (some ⟨u2, 0, none⟩) 1 [⟨true, 0⟩]) zM), [_, _, _], [], rfl, tLi_mk (x := ⟨true, ⟨3, [⟨true, 0⟩]⟩⟩) (a (sl tTm (some ⟨u3, 0, none⟩) 1 [⟨true, 0⟩]) zM), rfl⟩) (by decide) ?_
 refine zC3 0 (law11If _ _ _ _ _ _ _) ?_
 refine zC3 0 (law11V 0) ?_
 refine zV 0 ?_
 intro u5
 refine go_lit tTm (b := u5) [⟨true, 0⟩] zM (fun hp a => ⟨[_, _], [], rfl, tTm_mk (x := ⟨true, 0⟩), rfl⟩) (by simp) ?_
 refine zC3 0 (law11A _ _ _ _) ?_
 refine zC3 0 (law11V 0) ?_
 refine zV 0 ?_
 intro u6
 refine go_lit tTm (b := u6) [⟨true, 0⟩] zM (fun hp a => ⟨[_, _], [], rfl, tTm_mk (x := ⟨true, 0⟩), rfl⟩) (by simp) ?_
 refine zC3 0 (law11Yes _ _ _ _) ?_
 refine zV 0 ?_
 intro u7
 refine go_lit tLi (b := u7) wb15.b zM (fun hp a => ⟨[_, _, _], [], rfl, tLi_mk (x := ⟨false, ⟨4, [⟨true, 0⟩]⟩⟩) (a (sl tTm (some ⟨u6, 0, none⟩) 1 [⟨true, 0⟩]) zM), rfl⟩) (by decide) ?_
 refine zC3 0 (law11If _ _ _ _ _ _ _) ?_
 refine zV 0 ?_
 intro bs
 refine go_lit tCl (b := bs) wl15 zM (fun hp a => ⟨[.int .u32 wa15.h.p, .slice (some ⟨u1, 0, none⟩) wa15.h.a.length 1, .slice (some ⟨u4, 0, none⟩) wa15.b.length 2], _, rfl, tCl_mk (a (sl tTm (some ⟨u1, 0, none⟩) 1 wa15.h.a) zM) (a (sl tLi (some ⟨u4, 0, none⟩) 2 wa15.b) zM), [.int .u32 wb15.h.p, .slice (some ⟨u5, 0, none⟩) wb15.h.a.length 1, .slice (some ⟨u7, 0, none⟩) wb15.b.length 1], [], rfl, tCl_mk (a (sl tTm (some ⟨u5, 0, none⟩) 1 wb15.h.a) zM) (a (sl tLi (some ⟨u7, 0, none⟩) 1 wb15.b) zM), rfl⟩) (by decide) ?_
 refine zV 0 ?_
 intro f1
 refine go_lit_int (kk := .u32) [10] zM (by simp) ?_
 refine zC3 0 (law13F 2 _ 1 1) ?_
 refine zV 0 ?_
 intro f2
 refine go_lit_int (kk := .u32) [11] zM (by simp) ?_
 refine zC3 0 (law13F 2 _ 1 1) ?_
 refine zV 0 ?_
 intro f3
 refine go_lit_int (kk := .u32) [10] zM (by simp) ?_
 refine zC3 0 (law13F 4 _ 1 1) ?_
 refine zV 0 ?_
 intro bf
 refine go_lit tFa (b := bf) wn15 zM (fun hp a => ⟨[_, _], _, rfl, tFa_mk (x := (⟨2, [10]⟩ : Fa)) (a (sl tU (some ⟨f1, 0, none⟩) 1 [10]) zM), [_, _], _, rfl, tFa_mk (x := (⟨2, [11]⟩ : Fa)) (a (sl tU (some ⟨f2, 0, none⟩) 1 [11]) zM), [_, _], [], rfl, tFa_mk (x := (⟨4, [10]⟩ : Fa)) (a (sl tU (some ⟨f3, 0, none⟩) 1 [10]) zM), rfl⟩) (by decide) ?_
 refine zE 3 [0, 1] ?_
 refine go_ret ⟨rfl, rfl⟩ [sl tCl (some ⟨bs, 0, none⟩) 2 wl15, sl tFa (some ⟨bf, 0, none⟩) 3 wn15] [] (res2 (by rfl) (.tmp rfl) (.tmp rfl)) ⟨_, _, rfl, rfl, rfl⟩ zM zM
set_option maxHeartbeats 4000000 in
theorem lawWorks15  :
    Spec Tryz.prog 9 #[] [] [] (fun v Ps' Os' => v = .bool true ∧ Ps' = [] ∧ Os' = []) := by
 refine zSp [] Tryz.func9 Tryz.ntmps9 (fun w0 hp0 hf0 => ?_)
 refine zC 6 law15Example ?_
 rintro _ _ _ ⟨A, B, rfl, rfl, rfl⟩
 refine zC 10 (modelOf wl15 A 2 wn15 B 3 100 wl15_ok (fun x hx => ⟨(wn15_len x hx).1, by rw [(wn15_len x hx).2]; omega⟩) (by decide) (by omega) (fun c hc F R N new h => w15_big c hc F R N new (by omega))) ?_
 rintro _ _ _ ⟨A5, c5, r5, e5, hM5, rfl, rfl, rfl⟩
 obtain ⟨rfl, rfl⟩ := w15_yes hM5
 refine zC 10 (modelOf wl15 A 2 wn15 B 3 4 wl15_ok (fun x hx => ⟨(wn15_len x hx).1, by rw [(wn15_len x hx).2]; omega⟩) (by decide) (by omega) (fun c hc F R N new h => w15_big c hc F R N new (by omega))) ?_
 rintro _ _ _ ⟨A6, c6, r6, e6, hM6, rfl, rfl, rfl⟩
 obtain ⟨rfl, rfl⟩ := w15_no hM6
 refine zE 6 [3, 4, 6] ?_
 refine zR 5 ?_
 refine go_re 25 (.bool true) (by show some (Value.bool _) = _; first | rfl | simp) ?_
 refine zV 1 ?_
 intro f0
 refine go_lit_int (kk := .u32) [11] zM (by simp) ?_
 refine zC3 0 (law13F 1 _ 1 1) ?_
 refine zV 0 ?_
 intro f1
 refine go_lit_int (kk := .u32) [10] zM (by simp) ?_
 refine zC3 0 (law13F 2 _ 1 1) ?_
 refine zV 0 ?_
 intro f2
 refine go_lit_int (kk := .u32) [11] zM (by simp) ?_
 refine zC3 0 (law13F 2 _ 1 1) ?_
 refine zV 0 ?_
 intro f3
 refine go_lit_int (kk := .u32) [10] zM (by simp) ?_
 refine zC3 0 (law13F 3 _ 1 1) ?_
 refine zV 0 ?_
 intro f4
 refine go_lit_int (kk := .u32) [10] zM (by simp) ?_
 refine zC3 0 (law13F 4 _ 1 1) ?_
 refine zV 0 ?_
 intro bm
 refine go_lit tFa (b := bm) wm15 zM (fun hp a => ⟨[_, _], _, rfl, tFa_mk (x := (⟨1, [11]⟩ : Fa)) (a (sl tU (some ⟨f0, 0, none⟩) 1 [11]) zM), [_, _], _, rfl, tFa_mk (x := (⟨2, [10]⟩ : Fa)) (a (sl tU (some ⟨f1, 0, none⟩) 1 [10]) zM), [_, _], _, rfl, tFa_mk (x := (⟨2, [11]⟩ : Fa)) (a (sl tU (some ⟨f2, 0, none⟩) 1 [11]) zM), [_, _], _, rfl, tFa_mk (x := (⟨3, [10]⟩ : Fa)) (a (sl tU (some ⟨f3, 0, none⟩) 1 [10]) zM), [_, _], [], rfl, tFa_mk (x := (⟨4, [10]⟩ : Fa)) (a (sl tU (some ⟨f4, 0, none⟩) 1 [10]) zM), rfl⟩) (by decide) ?_
 refine zC3 0 (ref13Same A5 c5 wm15 (some ⟨bm, 0, none⟩) 5 wm15) ?_
 refine zR 2 ?_
 refine go_re 40 (.bool true) (by show some (Value.bool _) = _; first | rfl | simp) ?_
 refine zR 3 ?_
 refine go_re 43 (.bool true) (by show some (Value.bool _) = _; first | rfl | simp) ?_
 refine zE 2 [0] ?_
 refine zT 0 rfl ⟨rfl, rfl, rfl⟩
theorem rot_le {l : List Cl} {t : Nat} (h : l.length ≤ 20) : (rotL l t l.length).length ≤ 400 := by
  unfold rotL; exact Nat.le_trans (filterMap_len _ _) (by rw [List.length_range]; omega)
set_option maxHeartbeats 4000000 in
theorem lawModelPlays (l : List Cl) (LA : Option Addr) (lc : Nat) (gl : ∀ c ∈ l, c.ok) (zl : l.length ≤ 140737488351232) (a : List Fa) (A : Option Addr) (k : Nat) (ga : ∀ x ∈ a, x.ok) (za : a.length ≤ 140737488351232) (most : Int) (hmo : -9223372036854775808 ≤ most ∧ most ≤ 9223372036854775807) (at_ : Int) (hat : 0 ≤ at_ ∧ at_ < 256) :
    Spec Tryz.prog 3 #[.slice LA l.length lc, .slice A a.length k, .int .i64 most, .int .u8 at_] [sl tCl LA lc l, sl tFa A k a] [] (fun v Ps' Os' => v = .bool true ∧ Ps' = [] ∧ Os' = []) := by
 refine zSp [.slice LA l.length lc, .slice A a.length k, .int .i64 most, .int .u8 at_] Tryz.func3 Tryz.ntmps3 (fun w0 hp0 hf0 => ?_)
 refine zR 1 ?_
 obtain ⟨t, rfl⟩ : ∃ t : Nat, at_ = (t : Int) := ⟨at_.toNat, by omega⟩
 refine zC3 8 (law14Few l LA lc a A k) ?_
 refine zG 2 23 ?_ ?_
 ·intro g1
  (try simp only [dcs, ne_eq] at g1)
  refine zDt 4 ?_
  refine zC3 2 lawWorks15 ?_
  refine zE 2 [8] ?_
  refine zT 0 rfl ⟨rfl, rfl, rfl⟩
 intro g1
 (try simp only [dcs, ne_eq] at g1)
 refine zB 4 ?_ ?_
 ·intro g2
  (try simp only [dcs, ne_eq] at g2)
  refine zC3 2 lawWorks15 ?_
  refine zE 2 [8] ?_
  refine zT 0 rfl ⟨rfl, rfl, rfl⟩
 intro g2
 (try simp only [dcs, ne_eq] at g2)
 refine zR 2 ?_
 have fp := few14_of g1
 have hlen : l.length ≤ 20 ∧ a.length ≤ 30 := ⟨fp.1, fp.2.1⟩
 have hla : ∀ x ∈ a, x.a.length ≤ 30 := (few11_of fp.2.2.1).2.2
 have hbl : ∀ c ∈ l, c.b.length ≤ 1000 := fun c hc => Nat.le_trans ((few11_of fp.2.2.1).2.1 c hc).1 (by omega)
 have hfa : ∀ x ∈ a, x.ok ∧ x.a.length ≤ 100000 := fun x hx => ⟨ga x hx, Nat.le_trans (hla x hx) (by omega)⟩
 have hfl := fof_len a
 refine zC 4 (modelOf l LA lc a A k most gl hfa (by first | omega | (rw [List.length_reverse]; omega)) (by omega) (fun c hc F R N new h => big14 fp (by omega) N c hc F R new h)) ?_
 rintro _ _ _ ⟨A1, k1, r1, e1, hM1, rfl, rfl, rfl⟩
 refine zE 6 [0, 1, 2, 3, 9, 10] ?_
 refine zC 5 (ref15Of l LA lc a A k most gl hbl hlen.1 (by omega) (by omega) (fun c hc F N hF => Nat.le_trans (small60 (fp.2.2.2 c hc) (n := 60) hF (by omega)) (by decide))) ?_
 rintro _ _ _ ⟨A2, k2, r2, e2, hM2, rfl, rfl, rfl⟩
 obtain ⟨rfl, rfl⟩ := ModA.one gl hM1 hM2
 refine zR 13 ?_
 refine go_re 45 (.bool false) (by show some (Value.bool _) = _; simp) ?_
 refine zC3 2 (ref13Same A1 k1 (r1.getD []) A2 k2 (r1.getD [])) ?_
 refine zR 2 ?_
 refine go_re 50 (.bool false) (by show some (Value.bool _) = _; simp) ?_
 refine zE 1 [0, 1, 2, 3, 9, 12, 50] ?_
 refine zDf 0 ?_
 refine zN 7 ?_ ?_
 ·intro g3
  refine zC3 2 lawWorks15 ?_
  refine zT 2 rfl ⟨rfl, rfl, rfl⟩
 intro g3
 subst g3
 obtain ⟨hRP, h0m, M, rfl, hMr, hMl, hSt⟩ := hM1.ok gl rfl
 have hlp : ∀ i, i < l.length → 0 < l.length := fun i h => by omega
 refine zR 7 ?_
 refine go_len (xs := l) zM (fun ll ml => ?_)
 refine go_len (xs := a) zM (fun la ma => ?_)
 refine go_own_nil tCl 36 none ?_
 refine zR 4 ?_
 refine zO (X := Nat × Option Addr × Nat) (fun x => [(13, .slice x.2.1 (rotL l t x.1).length x.2.2), (14, .int .i64 (x.1 : Int))]) [0, 1, 2, 3, 9] (fun x => [ol tCl 36 x.2.1 x.2.2 (rotL l t x.1)]) (fun x => x.1 ≤ l.length ∧ (rotL l t x.1).length = x.1) (fun x => l.length - x.1) (0, none, 0) ⟨Nat.zero_le _, rfl⟩ ?_
 intro ⟨i, A3, c3⟩ ⟨hi, hrl⟩
 simp only at hi hrl ⊢
 refine zD 8 ?_ ?_
 ·intro hq1
  refine zR 3 ?_
  have hpos : 0 < l.length := by omega
  have hmod : (i + t) % l.length < l.length := Nat.mod_lt _ hpos
  have hnx : rotL l t i ++ [l[(i + t) % l.length]] = rotL l t (i + 1) := (rotL_snoc hpos).symm
  refine go_elem_cl (xs := l) zM ((i + t) % l.length) (List.getElem?_eq_getElem (hmod)) (fun b1 o1 A5 c5 B5 d5 hA => ?_); cases hA
  refine zR 6 ?_
  refine go_re 64 (.int .i64 (t : Int)) (by first | rfl | (show some (Value.int _ _) = _; rw [wrap_i64 (by omega) (by omega)])) ?_
  refine zR 1 ?_
  refine go_i64n 65 (i + t) rfl ?_
  refine zR 2 ?_
  refine go_val0 rfl (rem_val rfl rfl rfl (by omega)) rfl ?_
  refine go_re 68 (.int .i64 (((i + t) % l.length : Nat) : Int)) (by rfl) ?_
  refine zI 0 ?_
  refine zL 0 ?_
  refine zV 0 ?_
  intro b1
  refine go_append1 (T := tCl) (xs := rotL l t i) Tk (l[(i + t) % l.length]) rfl rfl rfl rfl rfl rfl rfl rfl rfl zM zM rfl (ent_cl zM zM) (by omega) zH ?_
  intro A4 c4
  refine zE 2 [0, 1, 2, 3, 9, 13, 14] ?_
  refine zR 6 ?_
  refine go_i64n 14 (i + 1) rfl ?_
  rw [hnx]
  refine zz (i + 1, A4, c4) (⟨by show i + 1 ≤ _; omega, rotL_len hpos _⟩) (by show _ - (i + 1) < _ - i; omega)
 intro hq1
 refine zR 2 ?_
 rw [show i = l.length by omega]
 refine go_freeze_ol (xs := rotL l t l.length) zM ?_
 refine zR 5 ?_
 refine go_own_nil tFa 39 none ?_
 refine zR 4 ?_
 refine go_i64 75 rfl (by omega) (by omega) ?_
 refine zR 2 ?_
 refine go_re 16 (.int .i64 ((a.length : Int) - 1 - ((0 : Nat) : Int))) (congrArg (fun z : Int => some (Value.int IntKind.i64 z)) (show (a.length : Int) - 1 = (a.length : Int) - 1 - ((0 : Nat) : Int) by omega)) ?_
 refine zR 1 ?_
 refine zO (X := Nat × Option Addr × Nat) (fun x => [(15, .slice x.2.1 (a.reverse.take x.1).length x.2.2), (16, .int .i64 ((a.length : Int) - 1 - (x.1 : Int)))]) [1, 2, 9, 13] (fun x => [ol tFa 39 x.2.1 x.2.2 (a.reverse.take x.1)]) (fun x => x.1 ≤ a.length) (fun x => a.length - x.1) (0, none, 0) (Nat.zero_le _) ?_
 intro ⟨j, A6, c6⟩ hj
 simp only at hj ⊢
 refine zD 6 ?_ ?_
 ·intro hq2
  refine zR 3 ?_
  obtain ⟨jj, hjj⟩ : ∃ jj, jj = a.length - 1 - j := ⟨_, rfl⟩
  have hjl : jj < a.length := by omega
  have hnr : a.reverse.take j ++ [a[jj]] = a.reverse.take (j + 1) := by rw [List.take_succ_eq_append_getElem (by rw [List.length_reverse]; omega), List.getElem_reverse]; simp [hjj]
  refine go_re 16 (.int .i64 (jj : Int)) (congrArg (fun z : Int => some (Value.int IntKind.i64 z)) (show (a.length : Int) - 1 - (j : Int) = (jj : Int) by omega)) ?_
  refine go_elem_fa (xs := a) zM (jj) (List.getElem?_eq_getElem (by omega)) (fun b2 o2 A8 c8 hA => ?_); cases hA
  refine zI 4 ?_
  refine zL 0 ?_
  refine zV 0 ?_
  intro b2
  refine go_append1 (T := tFa) (xs := a.reverse.take j) Tk (a[jj]) rfl rfl rfl rfl rfl rfl rfl rfl rfl zM zM rfl (ent_fa zM) (by rw [List.length_take, List.length_reverse]; omega) zH ?_
  intro A7 c7
  refine zR 2 ?_
  refine go_re 16 (.int .i64 ((a.length : Int) - 1 - (j : Int))) (congrArg (fun z : Int => some (Value.int IntKind.i64 z)) (show (jj : Int) = (a.length : Int) - 1 - (j : Int) by omega)) ?_
  refine zR 6 ?_
  refine go_i64 16 rfl (by omega) (by omega) ?_
  refine go_re 16 (.int .i64 ((a.length : Int) - 1 - ((j + 1 : Nat) : Int))) (congrArg (fun z : Int => some (Value.int IntKind.i64 z)) (show (a.length : Int) - 1 - (j : Int) - 1 = (a.length : Int) - 1 - ((j + 1 : Nat) : Int) by omega)) ?_
  rw [hnr]
  refine zz (j + 1, A7, c7) (by show j + 1 ≤ _; omega) (by show _ - (j + 1) < _ - j; omega)
 intro hq2
 refine zR 2 ?_
 rw [show j = a.length by omega, show a.reverse.take a.length = a.reverse by rw [← List.length_reverse, List.take_length]]
 refine go_freeze_ol (xs := a.reverse) zM ?_
 have hrl2 := rotL_len (l := l) (t := t)
 refine zC 4 (modelOf (rotL l t l.length) A3 c3 a.reverse A6 c6 most (fun c hc => gl c (mem_rotL.1 hc)) (fun x hx => hfa x (List.mem_reverse.1 hx)) (by first | omega | (rw [List.length_reverse]; omega)) (by omega) (fun c hc F R N new h => big14 fp (by omega) N c (mem_rotL.1 hc) F R new h)) ?_
 rintro _ _ _ ⟨A9, k9, r9, e9, hM9, rfl, rfl, rfl⟩
 obtain ⟨rfl, rfl⟩ := turned_same gl hM1 (fun c => mem_rotL) (fun f => List.mem_reverse) (rot_le fp.1) hM9
 refine zE 6 [9, 17, 18] ?_
 refine zR 5 ?_
 refine go_re 96 (.bool true) (by show some (Value.bool _) = _; first | rfl | simp) ?_
 refine zC3 2 (ref13Same A1 k1 M A9 k9 M) ?_
 refine zR 2 ?_
 refine go_re 101 (.bool true) (by show some (Value.bool _) = _; simp) ?_
 refine zC3 0 lawWorks15 ?_
 refine zE 3 [8] ?_
 refine zT 0 rfl ⟨rfl, rfl, rfl⟩
end Go.Proofs.YtpgnmfnckjnecaaGreat.SL
namespace Go.Proofs.YtpgnmfnckjnecaaGreat.SL
open Go.RowKit Go.Deep
def Opens (P : Program) (t : TypeId) {α : Type} (T : Ty α) (G : α → Prop) : Prop :=
  ∀ {H : Type} {enc : TypeId × Value → H} {W : World} {base : Nat} {sp : Nat → Bool} {hd : Bool} {fuel : Nat} {cs : List Value} {x : DataW H × List MemPlace}, DataW.trod enc P W base sp hd fuel t cs = some x → ∃ v, T.rep (hpOf W) v cs ∧ G v
theorem wf_u32 {n : Int} (h : (Lit.int .u32 n).wf = true) : 0 ≤ n ∧ n < 4294967296 := by
  simp [Lit.wf, IntKind.min, IntKind.max, IntKind.signed, IntKind.bits] at h; omega
theorem wf_u8 {n : Int} (h : (Lit.int .u8 n).wf = true) : 0 ≤ n ∧ n < 256 := by
  simp [Lit.wf, IntKind.min, IntKind.max, IntKind.signed, IntKind.bits] at h; omega
theorem wf_i64 {n : Int} (h : (Lit.int .i64 n).wf = true) : -9223372036854775808 ≤ n ∧ n ≤ 9223372036854775807 := by
  simp [Lit.wf, IntKind.min, IntKind.max, IntKind.signed, IntKind.bits] at h; omega
section
variable {P : Program}
theorem opens_int {t : TypeId} {k : IntKind} (ht : P.underlying t = some (.int k)) : Opens P t (tInt k) (fun n => (Lit.int k n).wf = true) := fun h => by
  obtain ⟨n, rfl, _, hw⟩ := DataW.trod_int ht h
  exact ⟨n, rfl, hw⟩
theorem opens_bool {t : TypeId} (ht : P.underlying t = some .bool) : Opens P t tBool (fun _ => True) := fun h => by
  obtain ⟨n, rfl, _⟩ := DataW.trod_bool ht h
  exact ⟨n, rfl, trivial⟩
theorem opens_iso {t : TypeId} {α β : Type} {T : Ty β} {G : β → Prop} {G' : α → Prop} (f : α → β) (g : β → α) (o : Opens P t T G) (hg : ∀ b, f (g b) = b) (hG : ∀ b, G b → G' (g b)) : Opens P t (tIso T f) G' := fun h => by
  obtain ⟨v, r, q⟩ := o h
  exact ⟨g v, by show T.rep _ (f (g v)) _; rw [hg]; exact r, hG v q⟩
theorem opens_pair {t : TypeId} {f0 f1 : Field} {α β : Type} {T : Ty α} {U : Ty β} {G : α → Prop} {K : β → Prop} (ht : P.underlying t = some (.struct #[f0, f1])) (o0 : Opens P f0.type T G) (o1 : Opens P f1.type U K)
    (h0 : f0.offset = 0) (h1 : f1.offset = T.size) (c0 : P.cellsOf f0.type = T.size) (c1 : P.cellsOf f1.type = U.size) (ct : P.cellsOf t = T.size + U.size) : Opens P t (tPair T U) (fun x => G x.1 ∧ K x.2) := fun h => by
  obtain ⟨xs, n, _, rfl, hl, hlen, hf⟩ := DataW.trod_struct ht h
  match xs, hlen with
  | [y0, y1], _ =>
    have e0 := hf 0 f0 rfl
    have e1 := hf 1 f1 rfl
    obtain ⟨v0, r0, g0⟩ := o0 (by simpa using e0)
    obtain ⟨v1, r1, g1⟩ := o1 (by simpa using e1)
    refine ⟨(v0, v1), ⟨_, _, ?_, r0, r1⟩, g0, g1⟩
    rw [h0, h1, c0, c1, List.drop_zero]
    rw [ct] at hl
    rw [List.take_of_length_le (l := List.drop _ _) (by simp; omega), List.take_append_drop]
theorem opens_slice {t e : TypeId} {α : Type} {T : Ty α} {G : α → Prop} (ht : P.underlying t = some (.slice e)) (o : Opens P e T G) (hc : P.cellsOf e = T.size) (hp : 0 < T.size) : Opens P t (tSl T) (fun xs => ∀ x ∈ xs, G x) := fun {H enc W base sp hd fuel cs x} h => by
  rcases open_slice ht h with ⟨rfl, _⟩ | ⟨a, len, cap, m, n, D, Pl, rfl, hb, hl, hm, hmm, rfl, hx⟩
  · exact ⟨[], ⟨none, 0, rfl, by simp, by simp [maxLen], fun _ => rfl, fun j x hj => by simp at hj⟩, fun x hx => by cases hx⟩
  · have hlm : len ≤ m := by rw [hmm]; split <;> omega
    have el : ∀ i, i < len → ∃ v, (∃ cs, T.rep (hpOf W) v cs ∧ W.cells? base (a.add (i * T.size)) T.size = some cs) ∧ G v := fun i hi => by
      obtain ⟨cs', h1, h2⟩ := hx i (by omega)
      obtain ⟨v, r, g⟩ := o h2
      rw [hc] at h1
      exact ⟨v, ⟨cs', r, h1⟩, g⟩
    have ex : ∃ xs : List α, xs.length = len ∧ ∀ i x, xs[i]? = some x → (∃ cs, T.rep (hpOf W) x cs ∧ W.cells? base (a.add (i * T.size)) T.size = some cs) ∧ G x := by
      have key : ∀ k, k ≤ len → ∃ xs : List α, xs.length = k ∧ ∀ i x, xs[i]? = some x → (∃ cs, T.rep (hpOf W) x cs ∧ W.cells? base (a.add (i * T.size)) T.size = some cs) ∧ G x := by
        intro k
        induction k with
        | zero => exact fun _ => ⟨[], rfl, fun i x hx => by simp at hx⟩
        | succ k ih =>
          intro hk
          obtain ⟨xs, h1, h2⟩ := ih (by omega)
          obtain ⟨v, hv⟩ := el k (by omega)
          refine ⟨xs ++ [v], by simp [h1], fun i x hx => ?_⟩
          rw [List.getElem?_append] at hx
          split at hx
          · exact h2 i x hx
          · rename_i hlt
            have : i = k := by
              rcases Nat.eq_or_lt_of_le (show xs.length ≤ i by omega) with q | q
              · omega
              · rw [List.getElem?_eq_none (by simp; omega)] at hx; cases hx
            subst this
            simp [h1] at hx
            subst hx
            exact hv
      exact key len (Nat.le_refl _)
    obtain ⟨xs, h1, h2⟩ := ex
    refine ⟨xs, ⟨some a, cap, by rw [h1], by omega, hm, fun e => (by cases e), fun j x hj => ?_⟩, fun x hx => ?_⟩
    · obtain ⟨⟨cs, r, hcs⟩, _⟩ := h2 j x hj
      obtain ⟨_, hln, hget⟩ := World.cells?_some hcs
      have hspot : a.spot = none := by
        obtain ⟨v0, hv0⟩ : ∃ v, xs[0]? = some v := by
          cases xs with
          | nil => simp at hj
          | cons v l => exact ⟨v, rfl⟩
        obtain ⟨⟨cs0, _, hcs0⟩, _⟩ := h2 0 v0 hv0
        obtain ⟨_, hln0, hget0⟩ := World.cells?_some hcs0
        have := hget0 0 hp
        rw [List.getElem?_eq_getElem (by omega)] at this
        simp only [Nat.zero_mul, Addr.add, if_true, World.cell?] at this
        split at this
        · cases hs : a.spot with
          | none => rfl
          | some q => rw [hs] at this; simp at this
        · cases this
      obtain ⟨b, oo, sp0⟩ := a
      cases hspot
      refine ⟨b, oo, cs, rfl, r, fun i v hi => ?_⟩
      have hlt : i < T.size := by
        rw [← hln]
        rcases Nat.lt_or_ge i cs.length with q | q
        · exact q
        · simp [q] at hi
      have := hget i hlt
      rw [run_addOff, run_addOff, hi] at this
      unfold World.cell? at this
      unfold cellH hpOf
      rw [Nat.add_assoc] at this
      simp only at this ⊢
      split at this
      · rename_i e
        simp only [e]
        simpa using this
      · cases this
    · obtain ⟨j, hj, rfl⟩ := List.getElem_of_mem hx
      exact (h2 j _ (List.getElem?_eq_getElem hj)).2
theorem Spec.law {f : FuncId} {args : Array Value} {Ps : List PA} (s : Spec P f args Ps [] (fun v Ps' Os' => v = .bool true ∧ Ps' = [] ∧ Os' = [])) (W : World) (h : ∀ p, p ∈ Ps → p.p (hpOf W)) :
    Calls P f args W fun e W' => e = .returned (.bool true) ∧ Below W.heap.size W W' := by
  refine (s.calls W (hpOf W) Heap.nil Heap.nil ⟨Heap.le_refl _, Heap.nil_le _, Heap.dj_symm (Heap.nil_dj _), h, trivial⟩ (Heap.nil_le _) (Heap.nil_dj _) (Heap.nil_dj _)).mono ?_
  rintro e w' ⟨v, hp', ho', Ps', Os', rfl, ⟨rfl, _, _⟩, hs, hle, _, _, _, hr⟩
  refine ⟨rfl, hr.os, hr.tape, hr.output, hr.size, fun k hk => ?_⟩
  have h1 : hpOf W k = some W.heap[k] := by simp [hpOf, hk]
  have h2 := hs.inp _ _ (hle _ _ h1)
  unfold hpOf at h1 h2
  rw [h1, h2]
end
end Go.Proofs.YtpgnmfnckjnecaaGreat.SL
namespace Go.Proofs.YtpgnmfnckjnecaaGreat.SL
theorem opU : Opens Tryz.prog 30 tU (fun n => 0 ≤ n ∧ n < 4294967296) := fun h => (opens_int Tryz.underlying30 h).imp fun v q => ⟨q.1, wf_u32 q.2⟩
theorem opUs : Opens Tryz.prog 37 (tSl tU) (fun xs => ∀ x ∈ xs, (fun n : Int => 0 ≤ n ∧ n < 4294967296) x) := opens_slice Tryz.underlying37 opU (by kernel_rfl) (by decide)
theorem opFa : Opens Tryz.prog 39 tFa Fa.ok := opens_iso (fun x : Fa => (x.p, x.a)) (fun b => ⟨b.1, b.2⟩) (opens_pair Tryz.underlying39 opU opUs rfl rfl (by kernel_rfl) (by kernel_rfl) (by kernel_rfl)) (fun b => rfl) (fun b g => g)
theorem opFas : Opens Tryz.prog 23 (tSl tFa) (fun xs => ∀ x ∈ xs, Fa.ok x) := opens_slice Tryz.underlying23 opFa (by kernel_rfl) (by decide)
theorem opTm : Opens Tryz.prog 82 tTm Tm.ok := opens_iso (fun x : Tm => (x.v, x.n)) (fun b => ⟨b.1, b.2⟩) (opens_pair Tryz.underlying82 (opens_bool Tryz.underlying4) opU rfl rfl (by kernel_rfl) (by kernel_rfl) (by kernel_rfl)) (fun b => rfl) (fun b g => g.2)
theorem opTms : Opens Tryz.prog 31 (tSl tTm) (fun xs => ∀ x ∈ xs, Tm.ok x) := opens_slice Tryz.underlying31 opTm (by kernel_rfl) (by decide)
theorem opAm : Opens Tryz.prog 33 tAm Am.ok := opens_iso (fun x : Am => (x.p, x.a)) (fun b => ⟨b.1, b.2⟩) (opens_pair Tryz.underlying33 opU opTms rfl rfl (by kernel_rfl) (by kernel_rfl) (by kernel_rfl)) (fun b => rfl) (fun b g => g)
theorem opLi : Opens Tryz.prog 45 tLi (fun x : Li => x.a.ok) := opens_iso (fun x : Li => (x.no, x.a)) (fun b => ⟨b.1, b.2⟩) (opens_pair Tryz.underlying45 (opens_bool Tryz.underlying4) opAm rfl rfl (by kernel_rfl) (by kernel_rfl) (by kernel_rfl)) (fun b => rfl) (fun b g => g.2)
theorem opLis : Opens Tryz.prog 34 (tSl tLi) (fun xs => ∀ x ∈ xs, (fun x : Li => x.a.ok) x) := opens_slice Tryz.underlying34 opLi (by kernel_rfl) (by decide)
theorem opCl : Opens Tryz.prog 36 tCl Cl.ok := opens_iso (fun x : Cl => (x.h, x.b)) (fun b => ⟨b.1, b.2⟩) (opens_pair Tryz.underlying36 opAm opLis rfl rfl (by kernel_rfl) (by kernel_rfl) (by kernel_rfl)) (fun b => rfl) (fun b g => ⟨g.1, g.2⟩)
theorem opCls : Opens Tryz.prog 22 (tSl tCl) (fun xs => ∀ x ∈ xs, Cl.ok x) := opens_slice Tryz.underlying22 opCl (by kernel_rfl) (by decide)
theorem sized_len {H : Type} {enc : TypeId × Value → H} {P : Program} {W : World} {base : Nat} {sp : Nat → Bool} {hd : Bool} {fuel : Nat} {ts : List TypeId} {ds : List (DataW H)} {j : Nat} {t e : TypeId} {cs : List Value} {x : DataW H × List MemPlace} {A : Option Addr} {n c : Nat}
    (h : (DataW.weightsEach P ts ds).all (· ≤ reachBytes) = true) (ht : ts[j]? = some t) (hd' : ds[j]? = some x.1) (hu : P.underlying t = some (.slice e)) (hx : DataW.trod enc P W base sp hd fuel t cs = some x) (hc : cs = [.slice A n c]) (hb : Nat.ble 1 (P.bytesOf e) = true) : n ≤ 140737488351232 := by
  subst hc
  rcases Deep.open_slice hu hx with ⟨h1, _⟩ | ⟨a, len, cap, m, q, D, Pl, h1, _, _, _, _, rfl, _⟩
  · cases h1; omega
  · cases h1
    have := sized_slice h ht hd' hu
    have hb' := Nat.le_of_ble_eq_true hb
    have h2 : n ≤ n * P.bytesOf e := Nat.le_mul_of_pos_right _ hb'
    simp only [List.length_map, List.length_range] at this
    rw [Nat.add_mul] at this
    have h3 : reachBytes = 140737488351232 := rfl
    omega
end Go.Proofs.YtpgnmfnckjnecaaGreat.SL
namespace Go.Proofs.YtpgnmfnckjnecaaGreat.SL
open Go Md
set_option maxHeartbeats 6000000 in
theorem lawModelHolds (l : List Cl) (LA : Option Addr) (lc : Nat) (gl : ∀ c ∈ l, c.ok) (zl : l.length ≤ 140737488351232) (a : List Fa) (A : Option Addr) (k : Nat) (ga : ∀ x ∈ a, x.ok) (za : a.length ≤ 140737488351232) :
    Spec Tryz.prog 4 #[.slice LA l.length lc, .slice A a.length k] [sl tCl LA lc l, sl tFa A k a] [] (fun v Ps' Os' => v = .bool true ∧ Ps' = [] ∧ Os' = []) := by
 refine zSp [.slice LA l.length lc, .slice A a.length k] Tryz.func4 Tryz.ntmps4 (fun w0 hp0 hf0 => ?_)
 refine zC3 9 (law14Few l LA lc a A k) ?_
 refine zB 2 ?_ ?_
 ·intro g1
  (try simp only [dcs, ne_eq] at g1)
  refine zC3 2 lawWorks15 ?_
  refine zT 2 rfl ⟨rfl, rfl, rfl⟩
 intro g1
 (try simp only [dcs, ne_eq] at g1)
 refine zR 2 ?_
 have fp := few14_of g1
 have hlen : l.length ≤ 20 ∧ a.length ≤ 30 := ⟨fp.1, fp.2.1⟩
 have hla : ∀ x ∈ a, x.a.length ≤ 30 := (few11_of fp.2.2.1).2.2
 have hbl : ∀ c ∈ l, c.b.length ≤ 1000 := fun c hc => Nat.le_trans ((few11_of fp.2.2.1).2.1 c hc).1 (by omega)
 have hfa : ∀ x ∈ a, x.ok ∧ x.a.length ≤ 100000 := fun x hx => ⟨ga x hx, Nat.le_trans (hla x hx) (by omega)⟩
 have hfl := fof_len a
 refine zC 3 (modelOf l LA lc a A k 60 gl hfa (by first | omega | (rw [List.length_reverse]; omega)) (by omega) (fun c hc F R N new h => big14 fp (by omega) N c hc F R new h)) ?_
 rintro _ _ _ ⟨A1, k1, r1, e1, hM1, rfl, rfl, rfl⟩
 refine zE 12 [0, 1, 5, 24] ?_
 refine zN 0 ?_ ?_
 ·intro g3
  refine zC3 2 lawWorks15 ?_
  refine zT 2 rfl ⟨rfl, rfl, rfl⟩
 intro g3
 subst g3
 obtain ⟨hRP, h0m, M, rfl, hMr, hMl, hSt⟩ := hM1.ok gl rfl
 obtain ⟨hm1, hm2, _, hm4⟩ := model_all gl hM1
 have hfin : (a ++ l.flatMap (fun c => headsC c M [] M false)).foldl fput [] = M := hm4
 refine go_re 5 (.slice A1 M.length k1) (by rfl) ?_
 refine go_sl (sl tFa A1 k1 ((some M).getD [])) (sl tFa A1 k1 M) zM (fun _ h => h) ?_
 have hhl : ∀ c ∈ l, ((fun c => headsC c M [] M false) c).length ≤ 216000 := fun c hc => headsC_len (Nat.le_trans (small60 (fp.2.2.2 c hc) (n := 60) (by omega) (by omega)) (by decide))
 have hxl : ∀ i, ((l.take i).flatMap (fun c => headsC c M [] M false)).length ≤ i * 216000 := fun i => by
   exact Nat.le_trans (flatMap_le (n := 216000) (fun c hc => hhl c (List.mem_of_mem_take hc))) (Nat.mul_le_mul_right _ (by rw [List.length_take]; omega))
 refine zR 2 ?_
 refine go_len (xs := a) zM (fun la ma => ?_)
 refine go_len (xs := l) zM (fun ll ml => ?_)
 refine go_sl_nil tFa ?_
 refine zR 3 ?_
 refine go_re 7 (.slice none ((a.take (0)).foldl fput []).length 0) (by rfl) ?_
 refine go_sl (sl tFa none 0 []) (sl tFa none 0 ((a.take (0)).foldl fput [])) zM (fun _ h => h) ?_
 refine zR 6 ?_
 refine go_loop (X := Nat × Option Addr × Nat) (fun x => [(7, .slice x.2.1 ((a.take (x.1)).foldl fput []).length x.2.2), (8, .int .i64 (x.1 : Int))]) [(0, _), (1, _), (5, _)] (fun x => [sl tFa x.2.1 x.2.2 ((a.take (x.1)).foldl fput []), sl tFa A1 k1 M, sl tCl LA lc l, sl tFa A k a]) (fun _ => []) (fun x => x.1 ≤ a.length) (fun x => a.length - x.1) ((0, none, 0)) zA zM zM (Nat.zero_le _) ?_
 intro ⟨i, A7, k7⟩ hi
 simp only at hi ⊢
 have hul := foldl_flen (a.take (i)) []
 rw [List.length_take] at hul
 refine zD 8 ?_ ?_
 ·intro hq1
  refine zR 5 ?_
  refine go_elem_fa (xs := a) zM (i) (List.getElem?_eq_getElem (by omega)) (fun b1 o1 A2 c2 hA => ?_); cases hA
  refine zI 4 ?_
  refine zL 0 ?_
  refine zC3 0 (ref13Has A1 k1 M a[i] A2 c2) ?_
  refine zR 1 ?_
  refine go_re 38 (.bool false) (by show some (Value.bool _) = _; rw [decide_eq_true (hm1 _ (List.getElem_mem _))]; rfl) ?_
  refine zDf 1 ?_
  refine zR 1 ?_
  refine go_elem_fa (xs := a) zM (i) (List.getElem?_eq_getElem (by omega)) (fun b3 o3 A3 c3 hA => ?_); cases hA
  refine zI 4 ?_
  refine zL 0 ?_
  refine zC 0 (ref13With A7 k7 ((a.take (i)).foldl fput []) a[i] A3 c3 (foldl_rises _ _ rises_nil) (by simp only [List.length_nil] at hul; omega)) ?_
  rintro _ _ _ ⟨A6, k6, rfl, rfl, rfl⟩
  refine zE 2 [0, 1, 5, 7, 8] ?_
  refine zR 6 ?_
  refine go_i64n 8 (i + 1) rfl ?_
  have hnx : fput ((a.take (i)).foldl fput []) a[i] = (a.take (i + 1)).foldl fput [] := by rw [List.take_succ_eq_append_getElem (show i < a.length by omega)]; simp only [List.foldl_append, List.foldl_cons, List.foldl_nil]
  refine go_re 7 (.slice A6 ((a.take (i + 1)).foldl fput []).length k6) (by show some (Value.slice _ _ _) = _; rw [hnx]) ?_
  refine go_sl (sl tFa A6 k6 (fput ((a.take (i)).foldl fput []) a[i])) (sl tFa A6 k6 ((a.take (i + 1)).foldl fput [])) zM (fun _ h => hnx ▸ h) ?_
  refine zz (i + 1, A6, k6) (by show i + 1 ≤ _; omega) (by show _ - (i + 1) < _ - i; omega)
 intro hq1
 refine zR 3 ?_
 have hxe0 : (a.take (i)).foldl fput [] = (a ++ (l.take (0)).flatMap (fun c => headsC c M [] M false)).foldl fput [] := by rw [List.take_of_length_le (show a.length ≤ i by omega)]; simp
 refine go_re 7 (.slice A7 ((a ++ (l.take (0)).flatMap (fun c => headsC c M [] M false)).foldl fput []).length k7) (by show some (Value.slice _ _ _) = _; rw [hxe0]) ?_
 refine go_sl (sl tFa A7 k7 ((a.take (i)).foldl fput [])) (sl tFa A7 k7 ((a ++ (l.take (0)).flatMap (fun c => headsC c M [] M false)).foldl fput [])) zM (fun _ h => hxe0 ▸ h) ?_
 rename_i i0
 obtain ⟨A17, rfl⟩ : ∃ z, z = A7 := ⟨_, rfl⟩
 obtain ⟨k17, rfl⟩ : ∃ z, z = k7 := ⟨_, rfl⟩
 refine zR 4 ?_
 refine go_loop (X := Nat × Option Addr × Nat) (fun x => [(7, .slice x.2.1 ((a ++ (l.take (x.1)).flatMap (fun c => headsC c M [] M false)).foldl fput []).length x.2.2), (9, .int .i64 (x.1 : Int))]) [(0, _), (5, _)] (fun x => [sl tFa x.2.1 x.2.2 ((a ++ (l.take (x.1)).flatMap (fun c => headsC c M [] M false)).foldl fput []), sl tFa A1 k1 M, sl tCl LA lc l, sl tFa A k a]) (fun _ => []) (fun x => x.1 ≤ l.length) (fun x => l.length - x.1) ((0, A17, k17)) zA zM zM (Nat.zero_le _) ?_
 intro ⟨i, A8, k8⟩ hi
 simp only at hi ⊢
 refine zD' 8 ?_ ?_
 ·intro hq2
  refine zR 2 ?_
  have hfin2 : (a ++ (l.take (i)).flatMap (fun c => headsC c M [] M false)).foldl fput [] = M := by rw [List.take_of_length_le (show l.length ≤ i by omega)]; exact hfin
  refine zC3 3 (ref13Same A8 k8 ((a ++ (l.take (i)).flatMap (fun c => headsC c M [] M false)).foldl fput []) A1 k1 M) ?_
  refine zR 1 ?_
  refine go_re 80 (.bool true) (by show some (Value.bool _) = _; rw [decide_eq_true hfin2]) ?_
  refine zC3 0 lawWorks15 ?_
  refine zE 3 [4] ?_
  refine zT 0 rfl ⟨rfl, rfl, rfl⟩
 intro hq2
 refine zR 4 ?_
 refine go_elem_cl (xs := l) zM (i) (List.getElem?_eq_getElem (by omega)) (fun b4 o4 A10 c10 B10 d10 hA => ?_); cases hA
 refine zI 3 ?_
 refine zL 0 ?_
 refine zC 2 (ref13Heads l[i] A10 c10 B10 d10 M A1 k1 M A1 k1 (gl _ (List.getElem_mem _)) (hbl _ (List.getElem_mem _)) (Nat.le_trans (small60 (fp.2.2.2 _ (List.getElem_mem _)) (n := 60) (by omega) (by omega)) (by decide))) ?_
 rintro _ _ _ ⟨AH, kH, rfl, rfl, rfl⟩
 refine zR 3 ?_
 refine go_len (xs := headsC l[i] M [] M false) zM (fun lh mh => ?_)
 have hhi : (headsC l[i] M [] M false).length ≤ 216000 := hhl l[i] (List.getElem_mem _)
 have hxi := hxl i
 refine zR 3 ?_
 refine go_re 7 (.slice A8 ((a ++ (l.take (i)).flatMap (fun c => headsC c M [] M false) ++ (headsC l[i] M [] M false).take (0)).foldl fput []).length k8) (by show some (Value.slice _ _ _) = _; rw [List.take_zero, List.append_nil]) ?_
 refine go_sl (sl tFa A8 k8 ((a ++ (l.take (i)).flatMap (fun c => headsC c M [] M false)).foldl fput [])) (sl tFa A8 k8 ((a ++ (l.take (i)).flatMap (fun c => headsC c M [] M false) ++ (headsC l[i] M [] M false).take (0)).foldl fput [])) zM (fun _ h => by rw [List.take_zero, List.append_nil]; exact h) ?_
 refine zR 1 ?_
 refine go_loop (X := Nat × Option Addr × Nat) (fun x => [(7, .slice x.2.1 ((a ++ (l.take (i)).flatMap (fun c => headsC c M [] M false) ++ (headsC l[i] M [] M false).take (x.1)).foldl fput []).length x.2.2), (11, .int .i64 (x.1 : Int))]) [(0, _), (5, _), (9, _), (10, _)] (fun x => [sl tFa x.2.1 x.2.2 ((a ++ (l.take (i)).flatMap (fun c => headsC c M [] M false) ++ (headsC l[i] M [] M false).take (x.1)).foldl fput []), sl tFa AH kH (headsC l[i] M [] M false), sl tFa A1 k1 M, sl tCl (some ⟨b4, o4, none⟩) lc l, sl tFa A k a]) (fun _ => []) (fun x => x.1 ≤ (headsC l[i] M [] M false).length) (fun x => (headsC l[i] M [] M false).length - x.1) ((0, A8, k8)) zA zM zM (Nat.zero_le _) ?_
 intro ⟨j, A9, k9⟩ hj
 simp only at hj ⊢
 have hul := foldl_flen (a ++ (l.take (i)).flatMap (fun c => headsC c M [] M false) ++ (headsC l[i] M [] M false).take (j)) []
 rw [List.length_append, List.length_append, List.length_take] at hul
 refine zD' 8 ?_ ?_
 ·intro g7
  have hxe : (a ++ (l.take (i)).flatMap (fun c => headsC c M [] M false) ++ (headsC l[i] M [] M false).take (j)).foldl fput [] = (a ++ (l.take (i + 1)).flatMap (fun c => headsC c M [] M false)).foldl fput [] := by rw [List.take_of_length_le (show (headsC l[i] M [] M false).length ≤ j by omega), List.append_assoc, ← flat_next (by omega)]
  refine zR 7 ?_
  refine go_i64n 9 (i + 1) rfl ?_
  refine go_re 7 (.slice A9 ((a ++ (l.take (i + 1)).flatMap (fun c => headsC c M [] M false)).foldl fput []).length k9) (by show some (Value.slice _ _ _) = _; rw [hxe]) ?_
  refine go_sl (sl tFa A9 k9 ((a ++ (l.take (i)).flatMap (fun c => headsC c M [] M false) ++ (headsC l[i] M [] M false).take (j)).foldl fput [])) (sl tFa A9 k9 ((a ++ (l.take (i + 1)).flatMap (fun c => headsC c M [] M false)).foldl fput [])) zM (fun _ h => hxe ▸ h) ?_
  refine zz (i + 1, A9, k9) (by show i + 1 ≤ _; omega) (by show _ - (i + 1) < _ - i; omega)
 intro g7
 refine zR 5 ?_
 refine go_elem_fa (xs := headsC l[i] M [] M false) zM (j) (List.getElem?_eq_getElem (by omega)) (fun b5 o5 A12 c12 hA => ?_); cases hA
 refine zI 4 ?_
 refine zL 0 ?_
 refine zC3 0 (ref13Has A1 k1 M (headsC l[i] M [] M false)[j] A12 c12) ?_
 refine zR 1 ?_
 refine go_re 70 (.bool false) (by show some (Value.bool _) = _; rw [decide_eq_true (hm2 l[i] (List.getElem_mem _) _ (List.getElem_mem _))]; rfl) ?_
 refine zDf 1 ?_
 refine zR 1 ?_
 refine go_elem_fa (xs := headsC l[i] M [] M false) zM (j) (List.getElem?_eq_getElem (by omega)) (fun b6 o6 A13 c13 hA => ?_); cases hA
 refine zI 4 ?_
 refine zL 0 ?_
 refine zC 0 (ref13With A9 k9 ((a ++ (l.take (i)).flatMap (fun c => headsC c M [] M false) ++ (headsC l[i] M [] M false).take (j)).foldl fput []) (headsC l[i] M [] M false)[j] A13 c13 (foldl_rises _ _ rises_nil) (by have : i * 216000 ≤ 20 * 216000 := Nat.mul_le_mul_right _ (by omega); simp only [List.length_nil] at hul; omega)) ?_
 rintro _ _ _ ⟨A11, k11, rfl, rfl, rfl⟩
 refine zE 2 [0, 5, 7, 9, 10, 11] ?_
 refine zR 6 ?_
 refine go_i64n 11 (j + 1) rfl ?_
 have hnx : fput ((a ++ (l.take (i)).flatMap (fun c => headsC c M [] M false) ++ (headsC l[i] M [] M false).take (j)).foldl fput []) (headsC l[i] M [] M false)[j] = (a ++ (l.take (i)).flatMap (fun c => headsC c M [] M false) ++ (headsC l[i] M [] M false).take ((j + 1))).foldl fput [] := by rw [List.take_succ_eq_append_getElem (show j < (headsC l[i] M [] M false).length by omega), ← List.append_assoc]; simp only [List.foldl_append, List.foldl_cons, List.foldl_nil]
 refine go_re 7 (.slice A11 ((a ++ (l.take (i)).flatMap (fun c => headsC c M [] M false) ++ (headsC l[i] M [] M false).take ((j + 1))).foldl fput []).length k11) (by show some (Value.slice _ _ _) = _; rw [hnx]) ?_
 refine go_sl (sl tFa A11 k11 (fput ((a ++ (l.take (i)).flatMap (fun c => headsC c M [] M false) ++ (headsC l[i] M [] M false).take (j)).foldl fput []) (headsC l[i] M [] M false)[j])) (sl tFa A11 k11 ((a ++ (l.take (i)).flatMap (fun c => headsC c M [] M false) ++ (headsC l[i] M [] M false).take ((j + 1))).foldl fput [])) zM (fun _ h => hnx ▸ h) ?_
 refine zz (j + 1, A11, k11) (by show j + 1 ≤ _; omega) (by show _ - (j + 1) < _ - j; omega)
end Go.Proofs.YtpgnmfnckjnecaaGreat.SL

