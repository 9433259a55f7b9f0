/- The cache's data: entries, their keys' bytes, what is put and got. -/
import Derived.Test.YtdkfpgdfjnaciaaD0
set_option linter.unusedVariables false
set_option linter.unusedSimpArgs false
namespace Go.Proofs.Ytdkfpgdfjnaciaa.SL
def Fa.ok (f : Fa) : Prop := (0 ≤ f.p ∧ f.p < 4294967296) ∧ ∀ x ∈ f.a, 0 ≤ x ∧ x < 4294967296
def Tm.ok (x : Tm) : Prop := 0 ≤ x.n ∧ x.n < 4294967296
def Am.ok (f : Am) : Prop := (0 ≤ f.p ∧ f.p < 4294967296) ∧ ∀ x ∈ f.a, x.ok
/-- The four bytes of a number, the great one first, as they are made. -/
def b4 (x : Int) : List Int := [IntKind.u8.wrap (x.fdiv (2 ^ Nat.min 24 IntKind.u32.bits)), IntKind.u8.wrap (x.fdiv (2 ^ Nat.min 16 IntKind.u32.bits)), IntKind.u8.wrap (x.fdiv (2 ^ Nat.min 8 IntKind.u32.bits)), IntKind.u8.wrap x]
def enc (a : List Int) : List Int := a.flatMap b4
abbrev En := Fa × Int
def keyCells (q : Fa) : List Value := [.int .u32 q.p, .string (bytesOf (enc q.a))]
def tEn : Ty En := ⟨3, fun _ x cs => cs = [.int .u32 x.1.p, .string (bytesOf (enc x.1.a)), .int .u8 x.2], fun h => by subst h; rfl, fun h => by subst h; rfl, fun _ h => h⟩
theorem tEn_flat : tEn.flat := fun _ _ _ _ h => h

theorem wrap_u8 (n : Int) : IntKind.u8.wrap n = n % 256 := by
  unfold IntKind.wrap IntKind.signed IntKind.bits
  simp
theorem b4_eq {x : Int} (h : 0 ≤ x ∧ x < 4294967296) : b4 x = [x / 16777216, x / 65536 % 256, x / 256 % 256, x % 256] := by
  have e1 : (2 : Int) ^ Nat.min 24 IntKind.u32.bits = 16777216 := by decide
  have e2 : (2 : Int) ^ Nat.min 16 IntKind.u32.bits = 65536 := by decide
  have e3 : (2 : Int) ^ Nat.min 8 IntKind.u32.bits = 256 := by decide
  unfold b4
  rw [e1, e2, e3, wrap_u8, wrap_u8, wrap_u8, wrap_u8, Int.fdiv_eq_ediv_of_nonneg _ (by omega), Int.fdiv_eq_ediv_of_nonneg _ (by omega), Int.fdiv_eq_ediv_of_nonneg _ (by omega)]
  simp only [List.cons.injEq, and_true]
  omega
theorem b4_inj {x y : Int} (h : 0 ≤ x ∧ x < 4294967296) (g : 0 ≤ y ∧ y < 4294967296) (e : b4 x = b4 y) : x = y := by
  rw [b4_eq h, b4_eq g] at e
  simp only [List.cons.injEq, and_true] at e
  omega
theorem b4_len (x : Int) : (b4 x).length = 4 := rfl
theorem enc_inj : ∀ {a b : List Int}, (∀ x ∈ a, 0 ≤ x ∧ x < 4294967296) → (∀ x ∈ b, 0 ≤ x ∧ x < 4294967296) → enc a = enc b → a = b
  | [], [], _, _, _ => rfl
  | [], y :: b, _, _, e => by
    have := congrArg List.length e
    simp [enc, b4_len] at this
    try omega
  | x :: a, [], _, _, e => by
    have := congrArg List.length e
    simp [enc, b4_len] at this
    try omega
  | x :: a, y :: b, h, g, e => by
    simp only [enc, List.flatMap_cons] at e
    obtain ⟨e1, e2⟩ := List.append_inj e (by rw [b4_len, b4_len])
    rw [b4_inj (h x (.head _)) (g y (.head _)) e1, enc_inj (fun z hz => h z (.tail _ hz)) (fun z hz => g z (.tail _ hz)) e2]
theorem enc_len (a : List Int) : (enc a).length = 4 * a.length := by
  unfold enc
  induction a with
  | nil => rfl
  | cons x a ih => simp only [List.flatMap_cons, List.length_append, ih, b4_len, List.length_cons]; omega
theorem enc_next {a : List Int} {k : Nat} (hk : k < a.length) : enc (a.take k) ++ b4 a[k] = enc (a.take (k + 1)) := by
  unfold enc
  rw [List.take_succ_eq_append_getElem hk, List.flatMap_append, List.flatMap_cons, List.flatMap_nil, List.append_nil]
theorem enc_byte : ∀ {a : List Int} {n : Int}, n ∈ enc a → 0 ≤ n ∧ n < 256 := by
  intro a n h
  simp only [enc, List.mem_flatMap] at h
  obtain ⟨x, _, hn⟩ := h
  have w : ∀ m : Int, 0 ≤ IntKind.u8.wrap m ∧ IntKind.u8.wrap m < 256 := fun m => by rw [wrap_u8]; omega
  simp only [b4, List.mem_cons, List.not_mem_nil, or_false] at hn
  rcases hn with rfl | rfl | rfl | rfl <;> exact w _
theorem bytesOf_data : ∀ (ns : List Int) (s : ByteArray), (ns.foldl (fun r n => r.push (UInt8.ofNat n.toNat)) s).data.toList = s.data.toList ++ ns.map fun n => UInt8.ofNat n.toNat
  | [], s => by simp
  | n :: ns, s => by
    rw [List.foldl_cons, bytesOf_data ns]
    simp [ByteArray.push]
theorem bytesOf_inj {a b : List Int} (ha : ∀ n ∈ a, 0 ≤ n ∧ n < 256) (hb : ∀ n ∈ b, 0 ≤ n ∧ n < 256) (e : (bytesOf a).toList = (bytesOf b).toList) : a = b := by
  have h := e
  rw [ByteArray.toList_eq, ByteArray.toList_eq] at h
  simp only [bytesOf, bytesOf_data] at h
  have h' : a.map (fun n => UInt8.ofNat n.toNat) = b.map fun n => UInt8.ofNat n.toNat := by simpa using h
  clear h e
  induction a generalizing b with
  | nil => cases b with
    | nil => rfl
    | cons y b => simp at h'
  | cons x a ih => cases b with
    | nil => simp at h'
    | cons y b =>
      simp only [List.map_cons, List.cons.injEq] at h'
      have hx := ha x (.head _)
      have hy := hb y (.head _)
      have : x = y := by
        have := congrArg UInt8.toNat h'.1
        rw [UInt8.toNat_ofNat', UInt8.toNat_ofNat', Nat.mod_eq_of_lt (by omega), Nat.mod_eq_of_lt (by omega)] at this
        omega
      rw [this, ih (fun n hn => ha n (.tail _ hn)) (fun n hn => hb n (.tail _ hn)) h'.2]
theorem key_eq {x q : Fa} (hx : x.ok) (hq : q.ok) : (decide (x.p = q.p) && ((bytesOf (enc x.a)).toList == (bytesOf (enc q.a)).toList && true)) = decide (x = q) := by
  obtain ⟨p, a⟩ := x
  obtain ⟨p', b⟩ := q
  by_cases h : p = p'
  · by_cases g : a = b
    · subst h; subst g; simp
    · have : ((bytesOf (enc a)).toList == (bytesOf (enc b)).toList) = false := by
        cases hc : ((bytesOf (enc a)).toList == (bytesOf (enc b)).toList) with
        | false => rfl
        | true => exact absurd (enc_inj hx.2 hq.2 (bytesOf_inj (fun n hn => enc_byte hn) (fun n hn => enc_byte hn) (eq_of_beq hc))) g
      simp [this, g]
  · simp [h]

/-! ### the cache as a list -/
def plc (q : Fa) (l : List En) : Int := match l.findIdx? (fun x => decide (x.1 = q)) with
  | some k => (k : Int)
  | none => -1
def delAt (l : List En) (k : Int) : List En := if k < 0 then l else l.take k.toNat ++ l.drop (k.toNat + 1)
def cput (room : Int) (l : List En) (q : Fa) (v : Int) : List En :=
  if room < ((delAt l (plc q l) ++ [(q, v)]).length : Int) then (delAt l (plc q l) ++ [(q, v)]).drop 1 else delAt l (plc q l) ++ [(q, v)]
def cget (l : List En) (q : Fa) : Int × Bool := match l.find? (fun x => decide (x.1 = q)) with
  | some x => (x.2, true)
  | none => (0, false)
theorem plc_cases (q : Fa) (l : List En) : (plc q l = -1 ∧ l.find? (fun x => decide (x.1 = q)) = none) ∨ ∃ k, ∃ h : k < l.length, plc q l = (k : Int) ∧ l[k].1 = q ∧ l.find? (fun x => decide (x.1 = q)) = some l[k] := by
  unfold plc
  cases h : l.findIdx? (fun x => decide (x.1 = q)) with
  | none =>
    left
    refine ⟨rfl, ?_⟩
    rw [List.findIdx?_eq_none_iff] at h
    rw [List.find?_eq_none]
    intro x hx
    simpa using h x hx
  | some k =>
    right
    obtain ⟨h1, h2, h3⟩ := List.findIdx?_eq_some_iff_getElem.1 h
    refine ⟨k, h1, rfl, by simpa using h2, ?_⟩
    rw [List.find?_eq_some_iff_getElem]
    exact ⟨h2, k, h1, rfl, fun j hj => by simpa using h3 j hj⟩
theorem plc_hit {q : Fa} {l : List En} {k : Nat} (hk : k < l.length) (hz : ∀ x ∈ l.take k, ¬ x.1 = q) (h : l[k].1 = q) : plc q l = (k : Int) := by
  unfold plc
  have : l.findIdx? (fun x => decide (x.1 = q)) = some k := by
    rw [List.findIdx?_eq_some_iff_getElem]
    refine ⟨hk, by simpa using h, fun j hj => ?_⟩
    have := hz l[j] (by rw [List.mem_take_iff_getElem]; exact ⟨j, by omega, rfl⟩)
    simpa using this
  rw [this]
theorem plc_none {q : Fa} {l : List En} (hz : ∀ x ∈ l, ¬ x.1 = q) : plc q l = -1 := by
  unfold plc
  have : l.findIdx? (fun x => decide (x.1 = q)) = none := by
    rw [List.findIdx?_eq_none_iff]
    intro x hx
    simpa using hz x hx
  rw [this]
theorem mem_take_next {α : Type} {l : List α} {k : Nat} (hk : k < l.length) {φ : α → Prop} (hz : ∀ x ∈ l.take k, φ x) (h : φ l[k]) : ∀ x ∈ l.take (k + 1), φ x := by
  rw [List.take_succ_eq_append_getElem hk]
  intro x hx
  rcases List.mem_append.1 hx with q | q
  · exact hz x q
  · simp at q; subst q; exact h
theorem cput_len {room : Int} {l : List En} {q : Fa} {v : Int} (hr : 1 ≤ room) (h : (l.length : Int) ≤ room) : ((cput room l q v).length : Int) ≤ room := by
  unfold cput
  have hd : (delAt l (plc q l)).length ≤ l.length := by
    unfold delAt; split
    · omega
    · simp; omega
  split
  · simp only [List.length_drop, List.length_append, List.length_singleton] at *; omega
  · omega
theorem delAt_mem {l : List En} {k : Int} {x : En} (h : x ∈ delAt l k) : x ∈ l := by
  unfold delAt at h
  split at h
  · exact h
  · rcases List.mem_append.1 h with q | q
    · exact List.mem_of_mem_take q
    · exact List.mem_of_mem_drop q
theorem cput_ok {room : Int} {l : List En} {q : Fa} {v : Int} (hl : ∀ x ∈ l, x.1.ok) (hq : q.ok) : ∀ x ∈ cput room l q v, x.1.ok := by
  intro x hx
  unfold cput at hx
  have key : ∀ x ∈ delAt l (plc q l) ++ [(q, v)], x.1.ok := fun x hx => by
    rcases List.mem_append.1 hx with h | h
    · exact hl x (delAt_mem h)
    · simp at h; subst h; exact hq
  split at hx
  · exact key x (List.mem_of_mem_drop hx)
  · exact key x hx
theorem delAt_len (l : List En) (k : Int) : (delAt l k).length ≤ l.length := by
  unfold delAt; split
  · omega
  · simp; omega
theorem delAt_hit {l : List En} {q : Fa} {k : Nat} (h : plc q l = (k : Int)) : delAt l (plc q l) = l.take k ++ l.drop (k + 1) := by
  rw [h]
  unfold delAt
  rw [if_neg (by omega)]
  simp
theorem delAt_none {l : List En} {k : Int} (h : k < 0) : delAt l k = l := by unfold delAt; rw [if_pos h]
theorem cput_drop {R : Int} {l : List En} {q : Fa} {v : Int} (h : R < ((delAt l (plc q l) ++ [(q, v)]).length : Int)) : cput R l q v = (delAt l (plc q l) ++ [(q, v)]).take 0 ++ (delAt l (plc q l) ++ [(q, v)]).drop 1 := by
  unfold cput; rw [if_pos h]; simp
theorem cput_keep {R : Int} {l : List En} {q : Fa} {v : Int} (h : ¬ R < ((delAt l (plc q l) ++ [(q, v)]).length : Int)) : cput R l q v = delAt l (plc q l) ++ [(q, v)] := by
  unfold cput; rw [if_neg h]
theorem cget_none {l : List En} {q : Fa} (h : l.find? (fun x => decide (x.1 = q)) = none) : cget l q = (0, false) := by unfold cget; rw [h]
theorem cget_hit {l : List En} {q : Fa} {x : En} (h : l.find? (fun x => decide (x.1 = q)) = some x) : cget l q = (x.2, true) := by unfold cget; rw [h]
end Go.Proofs.Ytdkfpgdfjnaciaa.SL
