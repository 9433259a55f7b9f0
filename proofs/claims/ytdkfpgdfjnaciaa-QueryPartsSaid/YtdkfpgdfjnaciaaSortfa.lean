/- Contracts of functions of the program (Sortfa): what each call comes to, for the laws' proofs. -/
import Derived.Shelf.SlSortCmp.WholeK
import Derived.Shelf.SlSortCmp.NoneTotal
import Derived.Shelf.SlGeneric
import Derived.Ground.SlsfProg
import Derived.Test.YtdkfpgdfjnaciaaCompare
import Derived.Test.YtdkfpgdfjnaciaaD8
set_option linter.unusedVariables false
set_option linter.unusedSimpArgs false
namespace Go.Proofs.Ytdkfpgdfjnaciaa.SL
open Go 


open Go.Shelf Go.RowKit Go.Lib Go.Sort
/-- What a reading contract says, of a world as it grows. -/
theorem Spec.grown {P : Program} {f : FuncId} {args : Array Value} {Ps : List PA} {V : Value} (s : Spec P f args Ps [] (fun v P' O' => v = V ∧ P' = [] ∧ O' = [])) (W : World) (h : ∀ p, p ∈ Ps → p.p (hpOf W)) :
    Calls P f args W fun e w' => e = .returned V ∧ ∃ q os', w' = Sort.grow (W.drewN q) os' := by
  refine (s.calls W (hpOf W) Heap.nil Heap.nil ⟨Heap.le_refl _, Heap.nil_le _, Heap.dj_symm (Heap.nil_dj _), h, trivial⟩ (Heap.nil_le _) (Heap.nil_dj _) (Heap.nil_dj _)).mono ?_
  rintro e w' ⟨v, hp', ho', Ps', Os', rfl, ⟨rfl, _, _⟩, hs, hle, _, _, _, hr⟩
  refine ⟨rfl, w'.drawn - W.drawn, w'.heap.extract W.heap.size w'.heap.size, ?_⟩
  have hd := hr.drawn
  have hsz := hr.size
  have hh : w'.heap = W.heap ++ w'.heap.extract W.heap.size w'.heap.size := by
    apply Array.ext_getElem?
    intro i
    rw [Array.getElem?_append]
    split
    · rename_i hi
      have h1 : hpOf W i = some W.heap[i] := by simp [hpOf, hi]
      have h2 := hs.inp _ _ (hle _ _ h1)
      unfold hpOf at h1 h2
      rw [h2, h1]
    · rename_i hi
      rw [Array.getElem?_extract]
      split
      · congr 1; omega
      · rename_i hj
        rw [Array.getElem?_eq_none]
        omega
  obtain ⟨h1, t1, d1, o1, p1⟩ := w'
  obtain ⟨h2, t2, d2, o2, p2⟩ := W
  have e1 := hr.os
  have e2 := hr.tape
  have e3 := hr.output
  simp only at e1 e2 e3 hh hd
  subst e1; subst e2; subst e3
  simp only [Sort.grow, World.drewN]
  congr 1
  · omega
/-- A fact, and where its Args lie, so that they can be read. -/
structure RFx (hp : Heap) where
  f : Fa
  A : Option Addr
  c : Nat
  s : Sl tU hp A c f.a
instance (hp : Heap) : Inhabited (RFx hp) := ⟨⟨⟨0, []⟩, none, 0, ⟨by simp, by simp, fun _ => rfl, fun j x h => by simp at h⟩⟩⟩
def encR {hp : Heap} (x : RFx hp) : List Value := [.int .u32 x.f.p, .slice x.A x.f.a.length x.c]
def cfR {hp : Heap} (x y : RFx hp) : Int := cF x.f y.f
theorem swoR (hp : Heap) : SWO (ltOf (cfR (hp := hp))) := ⟨fun x => by unfold ltOf cfR; rw [cF_zero.2 rfl]; rfl, fun x y z h g => by
    unfold ltOf cfR at *; rw [decide_eq_true_iff] at *; exact cF_trans h g, fun x y z h g => by
    unfold ltOf cfR at *; rw [decide_eq_false_iff_not] at *
    intro c
    rw [cF_swap] at h g
    rcases cF_range y.f x.f with e | e | e
    · exact g (by have := cF_trans (show cF y.f x.f < 0 by omega) c; rw [cF_swap] at this; exact this)
    · rw [cF_zero.1 e] at g; rw [cF_swap] at c; omega
    · omega⟩
theorem flat_cells {hp : Heap} (d : Array (RFx hp)) : (flatK encR 2 d).toList = d.toList.flatMap encR := by
  apply List.ext_getElem?
  intro i
  have key : ∀ (l : List (RFx hp)) (i : Nat), (l.flatMap encR)[i]? = (l[i / 2]?).bind fun x => (encR x)[i % 2]? := by
    intro l
    induction l with
    | nil => intro i; simp
    | cons x l ih =>
      intro i
      rw [List.flatMap_cons]
      match i with
      | 0 => rfl
      | 1 => rfl
      | i + 2 =>
        rw [List.getElem?_append_right (by simp [encR])]
        have e1 : (i + 2) / 2 = i / 2 + 1 := by omega
        have e2 : (i + 2) % 2 = i % 2 := by omega
        rw [show i + 2 - (encR x).length = i from by simp [encR], ih i, e1, e2]
        rfl
  rw [key, Array.getElem?_toList]
  rcases Nat.lt_or_ge i (d.size * 2) with h | h
  · have h1 : i / 2 < d.size := by omega
    have h2 := get_flatK encR 2 d i h
    rw [getElem!_pos (flatK encR 2 d) i (by simpa using h), getElem!_pos d (i / 2) h1] at h2
    rw [Array.getElem?_eq_getElem (by simpa using h), h2, Array.getElem?_toList, Array.getElem?_eq_getElem h1]
    have h3 : i % 2 < (encR d[i / 2]).length := by simp [encR]; omega
    rw [getElem!_pos (encR d[i / 2]) (i % 2) h3]
    simp [List.getElem?_eq_getElem h3]
  · rw [Array.getElem?_eq_none (by simpa using h), Array.getElem?_toList, Array.getElem?_eq_none (by omega)]
    rfl
theorem reps_R {hp : Heap} : ∀ {l : List Fa} {cs : List Value}, Reps tFa hp l cs → ∃ xs : List (RFx hp), xs.map (fun x => x.f) = l ∧ xs.flatMap encR = cs
  | [], cs, e => ⟨[], rfl, e.symm⟩
  | x :: l, _, ⟨a, b, e, r, s⟩ => by
    obtain ⟨A, c, rfl, sx⟩ := tFa_open r
    obtain ⟨xs, h1, h2⟩ := reps_R s
    exact ⟨⟨x, A, c, sx⟩ :: xs, by simp [h1], by rw [List.flatMap_cons, h2, e]; rfl⟩
theorem R_reps {hp : Heap} : ∀ (xs : List (RFx hp)), Reps tFa hp (xs.map fun x => x.f) (xs.flatMap encR)
  | [] => rfl
  | x :: xs => ⟨_, _, by rw [List.flatMap_cons]; rfl, tFa_mk x.s, R_reps xs⟩
shelf_lay_g SlLaysF0.n6 Slsf 6 at Try 90 as Try.sortFa
/-- A list in its order. -/
def isSorted (l m : List Fa) : Prop := l.Perm m ∧ m.Pairwise fun x y => ¬ cF y x < 0
theorem heap_put {w : World} {b : Nat} {cur : Array Value} {e : TypeId} (hb : w.heap[b]? = some (.cells cur e (0, 0))) (F : Array Value) (hF : F.size ≤ cur.size) : ∀ m os i, (Sort.grow (putRow id (Sort.ahead w m) b 0 F) os).heap[i]? = if i < w.heap.size then (if i = b then some (.cells (putS 0 F.toList cur.toList).toArray e (0, 0)) else w.heap[i]?) else os[i - w.heap.size]? := fun m os i => by
  have hlt : b < w.heap.size := (Array.getElem?_eq_some_iff.1 hb).1
  simp only [Sort.grow, putRow, mapBlock, Sort.ahead, Array.getElem?_append, Array.size_modify]
  split
  · rename_i hi
    rw [Array.getElem?_modify]
    by_cases e1 : i = b
    · subst e1
      rw [if_pos rfl, if_pos rfl, hb]
      simp only [Option.map_some, onCells, Option.some.injEq, Obj.cells.injEq, and_true]
      apply Array.ext'
      apply List.ext_getElem?
      intro j
      simp only [putCells, Array.getElem?_toList, Array.getElem?_mapIdx, putS, List.take_zero, List.nil_append, Nat.zero_add, Nat.zero_le, true_and, Nat.sub_zero, id]
      rw [List.getElem?_append]
      simp only [Array.length_toList]
      by_cases hj : j < F.size
      · rw [if_pos hj, Array.getElem?_eq_getElem (by omega), Array.getElem?_toList, Array.getElem?_eq_getElem hj]
        simp only [Option.map_some, Option.some.injEq]
        rw [if_pos hj, getElem!_pos F j hj]
      · rw [if_neg hj, List.getElem?_drop, Array.getElem?_toList, show F.size + (j - F.size) = j from by omega]
        cases hc : cur[j]? with
        | none => rfl
        | some v => simp only [Option.map_some]; rw [if_neg hj]
    · rw [if_neg (fun q => e1 q.symm), if_neg e1]
  · rfl
theorem sortFa (A : Option Addr) (c : Nat) (l : List Fa) (hn : l.length ≤ 1000000) : Spec Try.prog 90 #[.slice A l.length c, .func (.func 49) #[] #[]] [] [ol tFa 31 A c l] (fun v Ps' Os' => ∃ m, isSorted l m ∧ v = .tuple #[] ∧ Ps' = [] ∧ Os' = [ol tFa 31 A c m]) := by
  refine ⟨⟨_, Try.func90, by kernel_rfl, by kernel_rfl⟩, fun w hp ho hf hs hfw d1 d2 => ?_⟩
  obtain ⟨g1, g2, la, lb, ldj, ⟨cs, lrow, lreps⟩, _⟩ := id hs.os
  obtain ⟨q1, q2, q3, q4⟩ := id lrow
  rcases q4 with ⟨q5, q6⟩ | ⟨b, cur, rfl, hb, hcur, htake⟩
  · have hl : l = [] := List.eq_nil_of_length_eq_zero q5
    subst hl
    have hcon := AnyF.slices_SortFunc_none { Try.sortFa with } A c (.func (.func 49) #[] #[]) w
    change Calls Try.prog 90 _ _ _ at hcon
    refine hcon.mono ?_
    rintro e w' ⟨rfl, rfl⟩
    exact ⟨_, hp, ho, [], _, rfl, ⟨[], ⟨.refl _, .nil⟩, rfl, rfl, rfl⟩, hs, Heap.le_refl _, hfw, d1, d2, .refl _⟩
  · obtain ⟨xs, hx1, hx2⟩ := reps_R lreps
    have hob : ho b = some (.cells cur 31 (0, 0)) := la _ _ hb
    have hbw : w.heap[b]? = some (.cells cur 31 (0, 0)) := hs.ino _ _ hob
    have hlt : b < w.heap.size := (Array.getElem?_eq_some_iff.1 hbw).1
    have hpb : hp b = none := by rcases hs.dj b with q | q; · exact q
                                 · rw [hob] at q; cases q
    have hfb : hf b = none := by rcases d2 b with q | q; · exact q
                                 · rw [hob] at q; cases q
    have hxl : xs.length = l.length := by rw [← hx1]; simp
    have hcl : cs.length = xs.length * 2 := by rw [q1, hxl]; rfl
    have hcs : l.length * tFa.size = cs.length := q1.symm
    have hcurL : cs.length ≤ cur.size := by rw [← htake]; simp; omega
    have hF : ∀ d : Array (RFx hp), d.size = xs.length → (flatK encR 2 d).size ≤ cur.size := fun d hd => by rw [size_flatK, hd]; omega
    have hW : ∀ (d : Array (RFx hp)) m os, d.size = xs.length → ∀ h : Heap, h b = none → h.le (hpOf w) → h.le (hpOf (sortWorldK encR 2 w b 0 m d os)) := fun d m os hd h hn hl i o e => by
      have hi : i ≠ b := fun q => by subst q; rw [hn] at e; cases e
      have h1 := hl _ _ e
      have h2 : i < w.heap.size := (Array.getElem?_eq_some_iff.1 h1).1
      show (Sort.grow (putRow id (Sort.ahead w m) b 0 (flatK encR 2 d)) os).heap[i]? = some o
      rw [heap_put hbw _ (hF d hd), if_pos h2, if_neg hi]
      exact h1
    have hH : HoldsK encR 2 w b 0 xs.toArray := fun j hj => by
      rw [size_flatK] at hj
      simp only [List.size_toArray] at hj
      refine ⟨?_, by simp [World.frozen?, hbw]⟩
      have h1 : (flatK encR 2 xs.toArray).toList = cs := by rw [flat_cells, ← hx2]
      have h2 : j < (flatK encR 2 xs.toArray).size := by rw [size_flatK]; simpa using hj
      rw [getElem!_pos _ j h2]
      have h3 : (flatK encR 2 xs.toArray)[j]? = cs[j]? := by rw [← h1, Array.getElem?_toList]
      rw [Array.getElem?_eq_getElem h2] at h3
      have h4 : cs[j]? = cur[j]? := by rw [← htake, List.getElem?_take, if_pos (by rw [hcs]; omega), Array.getElem?_toList]
      simp only [World.cell?, hbw, Nat.zero_add, id]
      rw [h3, h4]
      rfl
    have hC : CmpLays Try.prog 49 #[] encR 2 (cfR (hp := hp)) b 0 xs.toArray.size w := fun m os dk hdk x y => by
      have hle := hW dk m os (by simpa using hdk) hp hpb hs.inp
      exact (atomsCompare x.f.p x.A x.f.a x.c y.f.p y.A y.f.a y.c).grown _ (fun p hm => by
        simp only [List.mem_cons, List.not_mem_nil, or_false] at hm
        rcases hm with rfl | rfl
        · exact x.s.up hle
        · exact y.s.up hle)
    have hcon := AnyQ.slices_SortFunc Try.sortFa 2 Try.isAgg31 Try.sizeOf31 encR (fun _ => rfl) (fun x v hv => by simp only [encR, List.mem_cons, List.not_mem_nil, or_false] at hv; rcases hv with rfl | rfl <;> rfl) cfR (swoR hp) 49 #[] b 0 c xs.toArray w (enters_of Try.func49 (by kernel_rfl) rfl) hC hH hlt (by simp; omega)
    change Calls Try.prog 90 _ _ _ at hcon
    rw [show xs.toArray.size = l.length by simp [hxl]] at hcon
    refine hcon.mono ?_
    rintro e w' ⟨rfl, d', n', os', hperm, hsort, rfl⟩
    have hd' : d'.size = xs.length := by have := hperm.1; simpa using this
    have hml : (d'.toList.map fun x => x.f).length = l.length := by simp [hd', hxl]
    have hfl : (flatK encR 2 d').toList = d'.toList.flatMap encR := flat_cells d'
    have hfs : (flatK encR 2 d').size = l.length * 2 := by rw [size_flatK, hd', hxl]
    have hnb : (hpOf (sortWorldK encR 2 w b 0 n' d' os')) b = some (.cells (putS 0 (flatK encR 2 d').toList cur.toList).toArray 31 (0, 0)) := by
      show (Sort.grow (putRow id (Sort.ahead w n') b 0 (flatK encR 2 d')) os').heap[b]? = _
      rw [heap_put hbw _ (hF d' hd'), if_pos hlt, if_pos rfl]
    have hpl : (putS 0 (flatK encR 2 d').toList cur.toList).length = cur.size := by rw [putS_len (by simp only [Array.length_toList]; rw [hfs]; omega)]; simp
    refine ⟨_, hp, Heap.one b (.cells (putS 0 (flatK encR 2 d').toList cur.toList).toArray 31 (0, 0)), [], [ol tFa 31 (some ⟨b, 0, none⟩) c (d'.toList.map fun x => x.f)], rfl, ⟨_, ⟨?_, ?_⟩, rfl, rfl, rfl⟩, ⟨hW d' n' os' hd' hp hpb hs.inp, Heap.one_le hnb, ?_, (fun _ h => nomatch h), ?_⟩, Heap.le_refl _, hW d' n' os' hd' hf hfb hfw, d1, ?_, rfl, rfl, rfl, ?_, ?_⟩
    · have h1 := hperm.2.2
      rw [show l.length = d'.size by rw [hd', hxl], Array.extract_size] at h1
      rw [show d'.size = xs.toArray.size by simp [hd'], Array.extract_size] at h1
      rw [← hx1]
      exact (h1.map (fun x => x.f)).symm
    · rw [List.pairwise_map, List.pairwise_iff_getElem]
      intro i j hi hj hij
      simp only [Array.length_toList] at hi hj
      have := hsort i j (Nat.zero_le _) hij (by rw [← hxl, ← hd']; exact hj)
      rw [getElem!_pos d' i hi, getElem!_pos d' j hj] at this
      unfold ltOf at this
      rw [decide_eq_false_iff_not] at this
      exact this
    · exact Heap.dj_symm (Heap.one_dj hpb)
    · refine sep_one ⟨d'.toList.flatMap encR, ⟨?_, by rw [hml]; exact q2, q3, .inr ⟨b, _, rfl, one_at _ _, ?_, ?_⟩⟩, R_reps d'.toList⟩
      · rw [← hfl, Array.length_toList, hfs, hml]; rfl
      · rw [List.size_toArray, hpl]; exact hcur
      · rw [hml]
        have := putS_take (n := 0) (vs := (flatK encR 2 d').toList) (l := cur.toList) (by simp only [Array.length_toList]; rw [hfs]; omega) (m := l.length * tFa.size) (by simp only [Array.length_toList]; rw [hfs]; show _ * 2 = _; omega)
        rw [List.toList_toArray, this, hfl]
        simp
    · exact Heap.dj_symm (Heap.one_dj hfb)
    · show w.drawn ≤ w.drawn + n'; omega
    · show w.heap.size ≤ (Sort.grow (putRow id (Sort.ahead w n') b 0 (flatK encR 2 d')) os').heap.size
      simp [Sort.grow, putRow, mapBlock, Sort.ahead]

end Go.Proofs.Ytdkfpgdfjnaciaa.SL
