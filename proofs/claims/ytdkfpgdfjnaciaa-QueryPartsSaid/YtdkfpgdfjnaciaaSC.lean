/- One element put into a row: what the cells are then. -/
import Derived.Test.YtdkfpgdfjnaciaaSB
set_option linter.unusedVariables false
set_option linter.unusedSimpArgs false
namespace Go.Proofs.Ytdkfpgdfjnaciaa.SL
theorem Reps.ins {α : Type} {T : Ty α} {h : Heap} {xs : List α} {cs v : List Value} {q : α} (r : Reps T h xs cs) (hq : T.rep h q v) {k : Nat} (hk : k ≤ xs.length) : Reps T h (xs.take k ++ q :: xs.drop k) (cs.take (k * T.size) ++ (v ++ cs.drop (k * T.size))) := by
  have h0 := Reps.split (xs := xs.take k) (ys := xs.drop k) (by rw [List.take_append_drop]; exact r)
  rw [List.length_take, Nat.min_eq_left hk] at h0
  exact h0.1.app ⟨v, _, rfl, hq, h0.2⟩
/-- The element and what is behind it, laid behind what is ahead. -/
theorem ins_cells {n k c s : Nat} {cs cur v : List Value} (hcs : cs.length = n * s) (hv : v.length = s) (hc : cur.length = c * s) (ht : cur.take (k * s) = cs.take (k * s)) (hk : k ≤ n) (hn : n + 1 ≤ c) (o1 o2 : Nat) (h1 : o1 = k * s) (h2 : o2 = (k + 1) * s) :
    (putS o2 (cs.drop (k * s)) (putS o1 v cur)).take ((n + 1) * s) = cs.take (k * s) ++ (v ++ cs.drop (k * s)) ∧ (putS o2 (cs.drop (k * s)) (putS o1 v cur)).length = c * s ∧ o1 + 1 * s ≤ cur.length ∧ o2 + (n - k) * s ≤ (putS o1 v cur).length := by
  subst h1; subst h2
  have hd : (cs.drop (k * s)).length = (n - k) * s := by rw [List.length_drop, hcs, Nat.sub_mul]
  have m1 : (k + 1) * s ≤ c * s := Nat.mul_le_mul_right _ (by omega)
  have m2 : (k + 1) * s + (n - k) * s = (n + 1) * s := by rw [← Nat.add_mul]; congr 1; omega
  have m3 : (n + 1) * s ≤ c * s := Nat.mul_le_mul_right _ hn
  have e1 : (k + 1) * s = k * s + s := by rw [Nat.add_mul, Nat.one_mul]
  have l1 : k * s + v.length ≤ cur.length := by rw [hv, hc]; omega
  have l2 : (k + 1) * s + (cs.drop (k * s)).length ≤ (putS (k * s) v cur).length := by rw [putS_len l1, hd, hc]; omega
  refine ⟨?_, by rw [putS_len l2, putS_len l1, hc], by rw [hc]; omega, by rw [putS_len l1, hc]; omega⟩
  rw [putS_take l2 (by rw [hd]; omega), putS_take l1 (by rw [hv]; omega), ht, List.append_assoc]
/-- The other way round: what is behind first, then the element. -/
theorem ins_cells2 {n k c s : Nat} {cs cur v : List Value} (hcs : cs.length = n * s) (hv : v.length = s) (hc : cur.length = c * s) (ht : cur.take (n * s) = cs) (hk : k ≤ n) (hn : n + 1 ≤ c) (o1 o2 : Nat) (h1 : o1 = k * s) (h2 : o2 = (k + 1) * s) :
    (putS o1 v (putS o2 (cs.drop (k * s)) cur)).take ((n + 1) * s) = cs.take (k * s) ++ (v ++ cs.drop (k * s)) ∧ (putS o1 v (putS o2 (cs.drop (k * s)) cur)).length = c * s ∧ o2 + (n - k) * s ≤ cur.length ∧ o1 + 1 * s ≤ (putS o2 (cs.drop (k * s)) cur).length := by
  subst h1; subst h2
  have hd : (cs.drop (k * s)).length = (n - k) * s := by rw [List.length_drop, hcs, Nat.sub_mul]
  have m1 : (k + 1) * s ≤ c * s := Nat.mul_le_mul_right _ (by omega)
  have m2 : (k + 1) * s + (n - k) * s = (n + 1) * s := by rw [← Nat.add_mul]; congr 1; omega
  have m3 : (n + 1) * s ≤ c * s := Nat.mul_le_mul_right _ hn
  have m4 : k * s ≤ n * s := Nat.mul_le_mul_right _ hk
  have e1 : (k + 1) * s = k * s + s := by rw [Nat.add_mul, Nat.one_mul]
  have l2 : (k + 1) * s + (cs.drop (k * s)).length ≤ cur.length := by rw [hd, hc]; omega
  have l1 : k * s + v.length ≤ (putS ((k + 1) * s) (cs.drop (k * s)) cur).length := by rw [putS_len l2, hv, hc]; omega
  refine ⟨?_, by rw [putS_len l1, putS_len l2, hc], by rw [hc]; omega, by rw [putS_len l2, hc]; omega⟩
  have hA : (putS (k * s) v (putS ((k + 1) * s) (cs.drop (k * s)) cur)).take ((n + 1) * s) = putS (k * s) v ((putS ((k + 1) * s) (cs.drop (k * s)) cur).take ((n + 1) * s)) := putS_take_comm (by rw [hv]; omega) l1
  rw [hA, putS_take l2 (by rw [hd]; omega)]
  unfold putS
  have t1 : (cur.take ((k + 1) * s)).length = (k + 1) * s := by rw [List.length_take, hc]; omega
  rw [List.take_append_of_le_length (by rw [t1]; omega), List.take_take, Nat.min_eq_left (by omega), List.drop_append, t1, hv, List.drop_of_length_le (by rw [t1]; omega), List.nil_append, show k * s + s - (k + 1) * s = 0 from by omega, List.drop_zero, ← ht, List.take_take, Nat.min_eq_left (by omega)]
theorem at_head {Ps : List PA} {Os : List OA} {b e p m n : Nat} {cs cur : List Value} {rr : List OA} (h : Rem (pt b e cur) Os rr) (h2 : cur.take m = cs) (hp : p ≤ cs.length) (hn : p = n) : At Ps Os b 0 n (cs.take p) :=
  at_any h (by rw [List.length_take, Nat.min_eq_left hp, hn]) (fun i v hv => by
    rw [List.getElem?_take] at hv
    split at hv
    · rw [← h2, List.getElem?_take] at hv
      split at hv
      · rw [Nat.zero_add]; exact hv
      · cases hv
    · cases hv)
end Go.Proofs.Ytdkfpgdfjnaciaa.SL
