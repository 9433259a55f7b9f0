/- Engine, data and contracts: parts of the proof, put together (D0 D1 D2 D3 D4 D5 D6 D7 D8 D9 DA DB DC DE DF DG DH Tb Open DI). -/
import Derived.Test.YtkhddfknpegpmaaGreatMB
import Derived.Test.YtkhddfknpegpmaaGreatProg
import Derived.Test.YtkhddfknpegpmaaGreatMA
/- The program's data: facts, terms, atoms, and their order. -/
set_option linter.unusedVariables false
namespace Go.Proofs.YtkhddfknpegpmaaGreat.SL
structure Fa where
  p : Int
  a : List Int
  deriving DecidableEq
structure Tm where
  v : Bool
  n : Int
  deriving DecidableEq
structure Am where
  p : Int
  a : List Tm
  deriving DecidableEq
abbrev tU : Ty Int := tInt .u32
def tFa : Ty Fa := tIso (tPair tU (tSl tU)) (fun x => (x.p, x.a))
def tTm : Ty Tm := tIso (tPair tBool tU) (fun x => (x.v, x.n))
def tAm : Ty Am := tIso (tPair tU (tSl tTm)) (fun x => (x.p, x.a))
theorem tFa_open {h : Heap} {x : Fa} {cs : List Value} (r : tFa.rep h x cs) : ∃ A c, cs = [.int .u32 x.p, .slice A x.a.length c] ∧ Sl tU h A c x.a := by
  obtain ⟨a, b, e, h1, A, c, h2, h3⟩ := r
  cases h1; cases h2
  exact ⟨A, c, e, h3⟩
theorem tFa_mk {h : Heap} {x : Fa} {A : Option Addr} {c : Nat} (s : Sl tU h A c x.a) : tFa.rep h x [.int .u32 x.p, .slice A x.a.length c] := ⟨[_], [_], rfl, rfl, A, c, rfl, s⟩
theorem tTm_open {h : Heap} {x : Tm} {cs : List Value} (r : tTm.rep h x cs) : cs = [.bool x.v, .int .u32 x.n] := by
  obtain ⟨a, b, e, h1, h2⟩ := r
  cases h1; cases h2
  exact e
theorem tTm_mk {h : Heap} {x : Tm} : tTm.rep h x [.bool x.v, .int .u32 x.n] := ⟨[_], [_], rfl, rfl, rfl⟩
theorem tAm_open {h : Heap} {x : Am} {cs : List Value} (r : tAm.rep h x cs) : ∃ A c, cs = [.int .u32 x.p, .slice A x.a.length c] ∧ Sl tTm h A c x.a := by
  obtain ⟨a, b, e, h1, A, c, h2, h3⟩ := r
  cases h1; cases h2
  exact ⟨A, c, e, h3⟩
theorem tAm_mk {h : Heap} {x : Am} {A : Option Addr} {c : Nat} (s : Sl tTm h A c x.a) : tAm.rep h x [.int .u32 x.p, .slice A x.a.length c] := ⟨[_], [_], rfl, rfl, A, c, rfl, s⟩
theorem tU_flat : tU.flat := fun _ _ _ _ h => h
theorem tTm_flat : tTm.flat := fun _ _ _ _ h => by rw [tTm_open h]; exact tTm_mk
section
variable {C : Ctx} {k : List It} {E : Env} {Ps : List PA} {Os : List OA}
theorem go_elem_fa {A : Option Addr} {c : Nat} {xs : List Fa} (h : sl tFa A c xs ∈ Ps) (j : Nat) {x : Fa} (hj : xs[j]? = some x)
    (g : ∀ b o A' c', A = some ⟨b, o, none⟩ → Go C k E (cl b (o + j * 2) [.int .u32 x.p, .slice A' x.a.length c'] :: sl tU A' c' x.a :: Ps) Os) : Go C k E Ps Os :=
  go_elem h j hj fun b o cs e a w hp ho hf hs hb => by
    obtain ⟨A', c', hc, hsl⟩ := tFa_open (hs.ps (rp tFa x cs) (.tail _ (.head _)))
    subst hc
    exact g b o A' c' e a w hp ho hf ⟨hs.inp, hs.ino, hs.dj, forall_cons (hs.ps _ (.head _)) (forall_cons hsl fun p hq => hs.ps p (.tail _ (.tail _ hq))), hs.os⟩ hb
theorem go_elem_am {A : Option Addr} {c : Nat} {xs : List Am} (h : sl tAm A c xs ∈ Ps) (j : Nat) {x : Am} (hj : xs[j]? = some x)
    (g : ∀ b o A' c', A = some ⟨b, o, none⟩ → Go C k E (cl b (o + j * 2) [.int .u32 x.p, .slice A' x.a.length c'] :: sl tTm A' c' x.a :: Ps) Os) : Go C k E Ps Os :=
  go_elem h j hj fun b o cs e a w hp ho hf hs hb => by
    obtain ⟨A', c', hc, hsl⟩ := tAm_open (hs.ps (rp tAm x cs) (.tail _ (.head _)))
    subst hc
    exact g b o A' c' e a w hp ho hf ⟨hs.inp, hs.ino, hs.dj, forall_cons (hs.ps _ (.head _)) (forall_cons hsl fun p hq => hs.ps p (.tail _ (.tail _ hq))), hs.os⟩ hb
theorem go_elem_tm {A : Option Addr} {c : Nat} {xs : List Tm} (h : sl tTm A c xs ∈ Ps) (j : Nat) {x : Tm} (hj : xs[j]? = some x)
    (g : ∀ b o, A = some ⟨b, o, none⟩ → Go C k E (cl b (o + j * 2) [.bool x.v, .int .u32 x.n] :: Ps) Os) : Go C k E Ps Os :=
  go_elem h j hj fun b o cs e a w hp ho hf hs hb => by
    have hc := tTm_open (hs.ps (rp tTm x cs) (.tail _ (.head _)))
    subst hc
    exact g b o e a w hp ho hf ⟨hs.inp, hs.ino, hs.dj, forall_cons (hs.ps _ (.head _)) fun p hq => hs.ps p (.tail _ (.tail _ hq)), hs.os⟩ hb
theorem ent_fa {x : Fa} {A : Option Addr} {c : Nat} (h : sl tU A c x.a ∈ Ps) : Ent Ps (rp tFa x [.int .u32 x.p, .slice A x.a.length c]) := fun hp a => tFa_mk (a _ h)
theorem ent_am {x : Am} {A : Option Addr} {c : Nat} (h : sl tTm A c x.a ∈ Ps) : Ent Ps (rp tAm x [.int .u32 x.p, .slice A x.a.length c]) := fun hp a => tAm_mk (a _ h)
theorem ent_tm {x : Tm} : Ent Ps (rp tTm x [.bool x.v, .int .u32 x.n]) := fun hp a => tTm_mk
theorem ent_int {kk : IntKind} {x : Int} : Ent Ps (rp (tInt kk) x [.int kk x]) := fun hp a => rfl
end

/-! ### the order of facts -/
def cmpL : List Int → List Int → Int
  | [], [] => 0
  | [], _ :: _ => -1
  | _ :: _, [] => 1
  | x :: a, y :: b => if x < y then -1 else if y < x then 1 else cmpL a b
def cmpF (p : Int) (a : List Int) (q : Int) (b : List Int) : Int :=
  if p < q then -1 else if q < p then 1 else if a.length < b.length then -1 else if b.length < a.length then 1 else cmpL a b
theorem cmpL_at : ∀ {a b : List Int} (k : Nat) (h1 : k < a.length) (h2 : k < b.length), a.take k = b.take k → (a[k] < b[k] → cmpL a b = -1) ∧ (b[k] < a[k] → cmpL a b = 1)
  | [], _, _, h1, _, _ => by simp at h1
  | _ :: _, [], _, _, h2, _ => by simp at h2
  | x :: a, y :: b, 0, _, _, _ => by
    simp only [List.getElem_cons_zero, cmpL]
    exact ⟨fun h => by rw [if_pos h], fun h => by rw [if_neg (by omega), if_pos h]⟩
  | x :: a, y :: b, k + 1, h1, h2, e => by
    simp only [List.take_succ_cons, List.cons.injEq] at e
    obtain ⟨rfl, e⟩ := e
    have := cmpL_at k (by simpa using h1) (by simpa using h2) e
    simp only [List.getElem_cons_succ, cmpL]
    rw [if_neg (by omega), if_neg (by omega)]
    exact this
theorem cmpL_pre : ∀ {a b : List Int}, b.take a.length = a → cmpL a b = if a.length < b.length then -1 else 0
  | [], [], _ => rfl
  | [], _ :: _, _ => by simp [cmpL]
  | _ :: _, [], e => by simp at e
  | x :: a, y :: b, e => by
    simp only [List.length_cons, List.take_succ_cons, List.cons.injEq] at e
    obtain ⟨rfl, e⟩ := e
    simp only [cmpL]
    rw [if_neg (by omega), if_neg (by omega), cmpL_pre e]
    simp
theorem cmpL_post : ∀ {a b : List Int}, a.take b.length = b → b.length < a.length → cmpL a b = 1
  | [], _, _, h => by simp at h
  | _ :: _, [], _, _ => rfl
  | x :: a, y :: b, e, h => by
    simp only [List.length_cons, List.take_succ_cons, List.cons.injEq] at e
    obtain ⟨rfl, e⟩ := e
    simp only [cmpL]
    rw [if_neg (by omega), if_neg (by omega)]
    exact cmpL_post e (by simpa using h)
theorem take_next {α : Type} {a b : List α} {k : Nat} (h1 : k < a.length) (h2 : k < b.length) (e : a.take k = b.take k) (h : a[k] = b[k]) : a.take (k + 1) = b.take (k + 1) := by
  rw [List.take_succ_eq_append_getElem h1, List.take_succ_eq_append_getElem h2, e, h]
theorem cmp_r0 {a b : List Int} {k : Nat} (hz : a.take k = b.take k) (h1 : b.length ≤ k) (h2 : k ≤ b.length) (h3 : k < a.length) : (1 : Int) = cmpL a b := by
  have e : k = b.length := by omega
  subst e
  rw [List.take_length] at hz
  exact (cmpL_post hz h3).symm
theorem cmp_r1 {a b : List Int} {k : Nat} (hz : a.take k = b.take k) (h1 : k < a.length) (h2 : k < b.length) (h : ¬ (if a[k] < b[k] then (-1 : Int) else if b[k] < a[k] then 1 else 0) = 0) :
    (if a[k] < b[k] then (-1 : Int) else if b[k] < a[k] then 1 else 0) = cmpL a b := by
  have := cmpL_at k h1 h2 hz
  split
  · rename_i q; exact (this.1 q).symm
  · split
    · rename_i q; exact (this.2 q).symm
    · rename_i q1 q2; rw [if_neg q1, if_neg q2] at h; exact absurd rfl h
theorem cmp_eq {x y : Int} (h : (if x < y then (-1 : Int) else if y < x then 1 else 0) = 0) : x = y := by
  split at h
  · cases h
  · split at h
    · cases h
    · omega
theorem cmp_r2 {a b : List Int} {k : Nat} (hz : a.take k = b.take k) (h1 : a.length ≤ k) (h2 : k ≤ b.length) (h0 : k ≤ a.length) : cmpL a b = if a.length < b.length then -1 else 0 := by
  have e : k = a.length := by omega
  subst e
  rw [List.take_length] at hz
  exact cmpL_pre hz.symm
theorem or3 (x y z : Int) : ([x, y, z].find? (· ≠ 0)).getD 0 = if x ≠ 0 then x else if y ≠ 0 then y else z := by
  by_cases hx : x = 0
  · by_cases hy : y = 0
    · by_cases hz : z = 0 <;> simp [hx, hy, hz]
    · simp [hx, hy]
  · simp [hx]
theorem cmp_all (p q : Int) (a b : List Int) : ([if p < q then (-1 : Int) else if q < p then 1 else 0, if (a.length : Int) < (b.length : Int) then (-1 : Int) else if (b.length : Int) < (a.length : Int) then 1 else 0, cmpL a b].find? (· ≠ 0)).getD 0 = cmpF p a q b := by
  rw [or3]
  unfold cmpF
  by_cases h1 : p < q
  · simp [h1]
  · by_cases h2 : q < p
    · simp [h1, h2]
    · by_cases h3 : a.length < b.length
      · simp [h1, h2, h3]
      · by_cases h4 : b.length < a.length
        · simp [h1, h2, h3, h4]
        · simp [h1, h2, h3, h4]
theorem cmpF_lt {p q : Int} {a b : List Int} (h : p < q ∨ (p = q ∧ a.length < b.length)) : cmpF p a q b = -1 := by
  unfold cmpF
  rcases h with h | ⟨h1, h2⟩
  · rw [if_pos h]
  · rw [if_neg (by omega), if_neg (by omega), if_pos h2]
theorem cmpF_gt {p q : Int} {a b : List Int} (h : ¬ (p < q ∨ (p = q ∧ a.length < b.length))) (g : q < p ∨ b.length < a.length) : cmpF p a q b = 1 := by
  unfold cmpF
  rw [if_neg (by omega)]
  by_cases h1 : q < p
  · rw [if_pos h1]
  · rw [if_neg h1, if_neg (by omega), if_pos (by omega)]
theorem cmpF_eq {p q : Int} {a b : List Int} (h : ¬ (p < q ∨ (p = q ∧ a.length < b.length))) (g : ¬ (q < p ∨ b.length < a.length)) : cmpF p a q b = cmpL a b ∧ p = q ∧ a.length = b.length := by
  unfold cmpF
  rw [if_neg (by omega), if_neg (by omega), if_neg (by omega), if_neg (by omega)]
  exact ⟨rfl, by omega, by omega⟩
theorem cmpL_all {a b : List Int} {k : Nat} (hl : a.length = b.length) (hk : a.length ≤ k) (hz : a.take k = b.take k) : cmpL a b = 0 := by
  rw [List.take_of_length_le hk, List.take_of_length_le (by omega)] at hz
  subst hz
  rw [cmpL_pre (by simp)]
  simp
theorem or_hit {xs : List Int} {k : Nat} (hk : k < xs.length) (hz : (xs.take k).find? (· ≠ 0) = none) (h : xs[k] ≠ 0) : (xs.find? (· ≠ 0)).getD 0 = xs[k] := by
  have e : xs.find? (· ≠ 0) = (xs.take k ++ xs.drop k).find? (· ≠ 0) := by rw [List.take_append_drop]
  rw [e, List.find?_append, hz, List.drop_eq_getElem_cons hk, List.find?_cons_of_pos (by simpa using h)]
  rfl
theorem or_next {xs : List Int} {k : Nat} (hk : k < xs.length) (hz : (xs.take k).find? (· ≠ 0) = none) (h : xs[k] = 0) : (xs.take (k + 1)).find? (· ≠ 0) = none := by
  rw [List.take_succ_eq_append_getElem hk, List.find?_append, hz]
  simp [h]
theorem or_none {xs : List Int} {k : Nat} (hk : xs.length ≤ k) (hz : (xs.take k).find? (· ≠ 0) = none) : (xs.find? (· ≠ 0)).getD 0 = 0 := by
  rw [List.take_of_length_le hk] at hz
  rw [hz]; rfl
def orI : List Int → Int := fun xs => (xs.find? (· ≠ 0)).getD 0
end Go.Proofs.YtkhddfknpegpmaaGreat.SL

/- The cache's data: entries, their keys' bytes, what is put and got. -/
set_option linter.unusedVariables false
set_option linter.unusedSimpArgs false
namespace Go.Proofs.YtkhddfknpegpmaaGreat.SL
def Fa.ok (f : Fa) : Prop := (0 ≤ f.p ∧ f.p < 4294967296) ∧ ∀ x ∈ f.a, 0 ≤ x ∧ x < 4294967296
def Tm.ok (x : Tm) : Prop := 0 ≤ x.n ∧ x.n < 4294967296
def Am.ok (f : Am) : Prop := (0 ≤ f.p ∧ f.p < 4294967296) ∧ ∀ x ∈ f.a, x.ok
/-- The four bytes of a number, the great one first, as they are made. -/
def b4 (x : Int) : List Int := [IntKind.u8.wrap (x.fdiv (2 ^ Nat.min 24 IntKind.u32.bits)), IntKind.u8.wrap (x.fdiv (2 ^ Nat.min 16 IntKind.u32.bits)), IntKind.u8.wrap (x.fdiv (2 ^ Nat.min 8 IntKind.u32.bits)), IntKind.u8.wrap x]
def enc (a : List Int) : List Int := a.flatMap b4
abbrev En := Fa × Int
def keyCells (q : Fa) : List Value := [.int .u32 q.p, .string (bytesOf (enc q.a))]
def tEn : Ty En := ⟨3, fun _ x cs => cs = [.int .u32 x.1.p, .string (bytesOf (enc x.1.a)), .int .u8 x.2], fun h => by subst h; rfl, fun h => by subst h; rfl, fun _ h => h⟩
theorem tEn_flat : tEn.flat := fun _ _ _ _ h => h

theorem wrap_u8 (n : Int) : IntKind.u8.wrap n = n % 256 := by
  unfold IntKind.wrap IntKind.signed IntKind.bits
  simp
theorem b4_eq {x : Int} (h : 0 ≤ x ∧ x < 4294967296) : b4 x = [x / 16777216, x / 65536 % 256, x / 256 % 256, x % 256] := by
  have e1 : (2 : Int) ^ Nat.min 24 IntKind.u32.bits = 16777216 := by decide
  have e2 : (2 : Int) ^ Nat.min 16 IntKind.u32.bits = 65536 := by decide
  have e3 : (2 : Int) ^ Nat.min 8 IntKind.u32.bits = 256 := by decide
  unfold b4
  rw [e1, e2, e3, wrap_u8, wrap_u8, wrap_u8, wrap_u8, Int.fdiv_eq_ediv_of_nonneg _ (by omega), Int.fdiv_eq_ediv_of_nonneg _ (by omega), Int.fdiv_eq_ediv_of_nonneg _ (by omega)]
  simp only [List.cons.injEq, and_true]
  omega
theorem b4_inj {x y : Int} (h : 0 ≤ x ∧ x < 4294967296) (g : 0 ≤ y ∧ y < 4294967296) (e : b4 x = b4 y) : x = y := by
  rw [b4_eq h, b4_eq g] at e
  simp only [List.cons.injEq, and_true] at e
  omega
theorem b4_len (x : Int) : (b4 x).length = 4 := rfl
theorem enc_inj : ∀ {a b : List Int}, (∀ x ∈ a, 0 ≤ x ∧ x < 4294967296) → (∀ x ∈ b, 0 ≤ x ∧ x < 4294967296) → enc a = enc b → a = b
  | [], [], _, _, _ => rfl
  | [], y :: b, _, _, e => by
    have := congrArg List.length e
    simp [enc, b4_len] at this
    try omega
  | x :: a, [], _, _, e => by
    have := congrArg List.length e
    simp [enc, b4_len] at this
    try omega
  | x :: a, y :: b, h, g, e => by
    simp only [enc, List.flatMap_cons] at e
    obtain ⟨e1, e2⟩ := List.append_inj e (by rw [b4_len, b4_len])
    rw [b4_inj (h x (.head _)) (g y (.head _)) e1, enc_inj (fun z hz => h z (.tail _ hz)) (fun z hz => g z (.tail _ hz)) e2]
theorem enc_len (a : List Int) : (enc a).length = 4 * a.length := by
  unfold enc
  induction a with
  | nil => rfl
  | cons x a ih => simp only [List.flatMap_cons, List.length_append, ih, b4_len, List.length_cons]; omega
theorem enc_next {a : List Int} {k : Nat} (hk : k < a.length) : enc (a.take k) ++ b4 a[k] = enc (a.take (k + 1)) := by
  unfold enc
  rw [List.take_succ_eq_append_getElem hk, List.flatMap_append, List.flatMap_cons, List.flatMap_nil, List.append_nil]
theorem enc_byte : ∀ {a : List Int} {n : Int}, n ∈ enc a → 0 ≤ n ∧ n < 256 := by
  intro a n h
  simp only [enc, List.mem_flatMap] at h
  obtain ⟨x, _, hn⟩ := h
  have w : ∀ m : Int, 0 ≤ IntKind.u8.wrap m ∧ IntKind.u8.wrap m < 256 := fun m => by rw [wrap_u8]; omega
  simp only [b4, List.mem_cons, List.not_mem_nil, or_false] at hn
  rcases hn with rfl | rfl | rfl | rfl <;> exact w _
theorem bytesOf_data : ∀ (ns : List Int) (s : ByteArray), (ns.foldl (fun r n => r.push (UInt8.ofNat n.toNat)) s).data.toList = s.data.toList ++ ns.map fun n => UInt8.ofNat n.toNat
  | [], s => by simp
  | n :: ns, s => by
    rw [List.foldl_cons, bytesOf_data ns]
    simp [ByteArray.push]
theorem bytesOf_inj {a b : List Int} (ha : ∀ n ∈ a, 0 ≤ n ∧ n < 256) (hb : ∀ n ∈ b, 0 ≤ n ∧ n < 256) (e : (bytesOf a).toList = (bytesOf b).toList) : a = b := by
  have h := e
  rw [ByteArray.toList_eq, ByteArray.toList_eq] at h
  simp only [bytesOf, bytesOf_data] at h
  have h' : a.map (fun n => UInt8.ofNat n.toNat) = b.map fun n => UInt8.ofNat n.toNat := by simpa using h
  clear h e
  induction a generalizing b with
  | nil => cases b with
    | nil => rfl
    | cons y b => simp at h'
  | cons x a ih => cases b with
    | nil => simp at h'
    | cons y b =>
      simp only [List.map_cons, List.cons.injEq] at h'
      have hx := ha x (.head _)
      have hy := hb y (.head _)
      have : x = y := by
        have := congrArg UInt8.toNat h'.1
        rw [UInt8.toNat_ofNat', UInt8.toNat_ofNat', Nat.mod_eq_of_lt (by omega), Nat.mod_eq_of_lt (by omega)] at this
        omega
      rw [this, ih (fun n hn => ha n (.tail _ hn)) (fun n hn => hb n (.tail _ hn)) h'.2]
theorem key_eq {x q : Fa} (hx : x.ok) (hq : q.ok) : (decide (x.p = q.p) && ((bytesOf (enc x.a)).toList == (bytesOf (enc q.a)).toList && true)) = decide (x = q) := by
  obtain ⟨p, a⟩ := x
  obtain ⟨p', b⟩ := q
  by_cases h : p = p'
  · by_cases g : a = b
    · subst h; subst g; simp
    · have : ((bytesOf (enc a)).toList == (bytesOf (enc b)).toList) = false := by
        cases hc : ((bytesOf (enc a)).toList == (bytesOf (enc b)).toList) with
        | false => rfl
        | true => exact absurd (enc_inj hx.2 hq.2 (bytesOf_inj (fun n hn => enc_byte hn) (fun n hn => enc_byte hn) (eq_of_beq hc))) g
      simp [this, g]
  · simp [h]

/-! ### the cache as a list -/
def plc (q : Fa) (l : List En) : Int := match l.findIdx? (fun x => decide (x.1 = q)) with
  | some k => (k : Int)
  | none => -1
def delAt (l : List En) (k : Int) : List En := if k < 0 then l else l.take k.toNat ++ l.drop (k.toNat + 1)
def cput (room : Int) (l : List En) (q : Fa) (v : Int) : List En :=
  if room < ((delAt l (plc q l) ++ [(q, v)]).length : Int) then (delAt l (plc q l) ++ [(q, v)]).drop 1 else delAt l (plc q l) ++ [(q, v)]
def cget (l : List En) (q : Fa) : Int × Bool := match l.find? (fun x => decide (x.1 = q)) with
  | some x => (x.2, true)
  | none => (0, false)
theorem plc_cases (q : Fa) (l : List En) : (plc q l = -1 ∧ l.find? (fun x => decide (x.1 = q)) = none) ∨ ∃ k, ∃ h : k < l.length, plc q l = (k : Int) ∧ l[k].1 = q ∧ l.find? (fun x => decide (x.1 = q)) = some l[k] := by
  unfold plc
  cases h : l.findIdx? (fun x => decide (x.1 = q)) with
  | none =>
    left
    refine ⟨rfl, ?_⟩
    rw [List.findIdx?_eq_none_iff] at h
    rw [List.find?_eq_none]
    intro x hx
    simpa using h x hx
  | some k =>
    right
    obtain ⟨h1, h2, h3⟩ := List.findIdx?_eq_some_iff_getElem.1 h
    refine ⟨k, h1, rfl, by simpa using h2, ?_⟩
    rw [List.find?_eq_some_iff_getElem]
    exact ⟨h2, k, h1, rfl, fun j hj => by simpa using h3 j hj⟩
theorem plc_hit {q : Fa} {l : List En} {k : Nat} (hk : k < l.length) (hz : ∀ x ∈ l.take k, ¬ x.1 = q) (h : l[k].1 = q) : plc q l = (k : Int) := by
  unfold plc
  have : l.findIdx? (fun x => decide (x.1 = q)) = some k := by
    rw [List.findIdx?_eq_some_iff_getElem]
    refine ⟨hk, by simpa using h, fun j hj => ?_⟩
    have := hz l[j] (by rw [List.mem_take_iff_getElem]; exact ⟨j, by omega, rfl⟩)
    simpa using this
  rw [this]
theorem plc_none {q : Fa} {l : List En} (hz : ∀ x ∈ l, ¬ x.1 = q) : plc q l = -1 := by
  unfold plc
  have : l.findIdx? (fun x => decide (x.1 = q)) = none := by
    rw [List.findIdx?_eq_none_iff]
    intro x hx
    simpa using hz x hx
  rw [this]
theorem mem_take_next {α : Type} {l : List α} {k : Nat} (hk : k < l.length) {φ : α → Prop} (hz : ∀ x ∈ l.take k, φ x) (h : φ l[k]) : ∀ x ∈ l.take (k + 1), φ x := by
  rw [List.take_succ_eq_append_getElem hk]
  intro x hx
  rcases List.mem_append.1 hx with q | q
  · exact hz x q
  · simp at q; subst q; exact h
theorem cput_len {room : Int} {l : List En} {q : Fa} {v : Int} (hr : 1 ≤ room) (h : (l.length : Int) ≤ room) : ((cput room l q v).length : Int) ≤ room := by
  unfold cput
  have hd : (delAt l (plc q l)).length ≤ l.length := by
    unfold delAt; split
    · omega
    · simp; omega
  split
  · simp only [List.length_drop, List.length_append, List.length_singleton] at *; omega
  · omega
theorem delAt_mem {l : List En} {k : Int} {x : En} (h : x ∈ delAt l k) : x ∈ l := by
  unfold delAt at h
  split at h
  · exact h
  · rcases List.mem_append.1 h with q | q
    · exact List.mem_of_mem_take q
    · exact List.mem_of_mem_drop q
theorem cput_ok {room : Int} {l : List En} {q : Fa} {v : Int} (hl : ∀ x ∈ l, x.1.ok) (hq : q.ok) : ∀ x ∈ cput room l q v, x.1.ok := by
  intro x hx
  unfold cput at hx
  have key : ∀ x ∈ delAt l (plc q l) ++ [(q, v)], x.1.ok := fun x hx => by
    rcases List.mem_append.1 hx with h | h
    · exact hl x (delAt_mem h)
    · simp at h; subst h; exact hq
  split at hx
  · exact key x (List.mem_of_mem_drop hx)
  · exact key x hx
theorem delAt_len (l : List En) (k : Int) : (delAt l k).length ≤ l.length := by
  unfold delAt; split
  · omega
  · simp; omega
theorem delAt_hit {l : List En} {q : Fa} {k : Nat} (h : plc q l = (k : Int)) : delAt l (plc q l) = l.take k ++ l.drop (k + 1) := by
  rw [h]
  unfold delAt
  rw [if_neg (by omega)]
  simp
theorem delAt_none {l : List En} {k : Int} (h : k < 0) : delAt l k = l := by unfold delAt; rw [if_pos h]
theorem cput_drop {R : Int} {l : List En} {q : Fa} {v : Int} (h : R < ((delAt l (plc q l) ++ [(q, v)]).length : Int)) : cput R l q v = (delAt l (plc q l) ++ [(q, v)]).take 0 ++ (delAt l (plc q l) ++ [(q, v)]).drop 1 := by
  unfold cput; rw [if_pos h]; simp
theorem cput_keep {R : Int} {l : List En} {q : Fa} {v : Int} (h : ¬ R < ((delAt l (plc q l) ++ [(q, v)]).length : Int)) : cput R l q v = delAt l (plc q l) ++ [(q, v)] := by
  unfold cput; rw [if_neg h]
theorem cget_none {l : List En} {q : Fa} (h : l.find? (fun x => decide (x.1 = q)) = none) : cget l q = (0, false) := by unfold cget; rw [h]
theorem cget_hit {l : List En} {q : Fa} {x : En} (h : l.find? (fun x => decide (x.1 = q)) = some x) : cget l q = (x.2, true) := by unfold cget; rw [h]
end Go.Proofs.YtkhddfknpegpmaaGreat.SL

/- The cache's steps, and the document's cache. -/
set_option linter.unusedVariables false
set_option linter.unusedSimpArgs false
namespace Go.Proofs.YtkhddfknpegpmaaGreat.SL
structure Sc where
  c : Bool
  k : Bool
  q : Fa
  v : Int
def tSc : Ty Sc := tIso (tPair tBool (tPair tBool (tPair tFa (tInt .u8)))) (fun x => (x.c, x.k, x.q, x.v))
def Sc.ok (x : Sc) : Prop := x.q.ok ∧ 0 ≤ x.v ∧ x.v < 256
def tRe : Ty En := tPair tFa (tInt .u8)
theorem tRe_open {h : Heap} {x : En} {cs : List Value} (r : tRe.rep h x cs) : ∃ A c, cs = [.int .u32 x.1.p, .slice A x.1.a.length c, .int .u8 x.2] ∧ Sl tU h A c x.1.a := by
  obtain ⟨a, b, e, h1, h2⟩ := r
  obtain ⟨A, c, h3, h4⟩ := tFa_open h1
  subst h3; cases h2
  exact ⟨A, c, e, h4⟩
theorem tRe_mk {h : Heap} {x : En} {A : Option Addr} {c : Nat} (s : Sl tU h A c x.1.a) : tRe.rep h x [.int .u32 x.1.p, .slice A x.1.a.length c, .int .u8 x.2] := ⟨_, [_], rfl, tFa_mk s, rfl⟩
theorem tSc_open {h : Heap} {x : Sc} {cs : List Value} (r : tSc.rep h x cs) : ∃ A c, cs = [.bool x.c, .bool x.k, .int .u32 x.q.p, .slice A x.q.a.length c, .int .u8 x.v] ∧ Sl tU h A c x.q.a := by
  obtain ⟨a, b, e, h1, a2, b2, e2, h2, a3, b3, e3, h3, h4⟩ := r
  obtain ⟨A, c, h5, h6⟩ := tFa_open h3
  subst h5; cases h1; cases h2; cases h4
  exact ⟨A, c, by rw [e, e2, e3]; rfl, h6⟩
section
variable {C : Ctx} {k : List It} {E : Env} {Ps : List PA} {Os : List OA}
theorem go_elem_re {A : Option Addr} {c : Nat} {xs : List En} (h : sl tRe A c xs ∈ Ps) (j : Nat) {x : En} (hj : xs[j]? = some x)
    (g : ∀ b o A' c', A = some ⟨b, o, none⟩ → Go C k E (cl b (o + j * 3) [.int .u32 x.1.p, .slice A' x.1.a.length c', .int .u8 x.2] :: sl tU A' c' x.1.a :: Ps) Os) : Go C k E Ps Os :=
  go_elem h j hj fun b o cs e a w hp ho hf hs hb => by
    obtain ⟨A', c', hc, hsl⟩ := tRe_open (hs.ps (rp tRe x cs) (.tail _ (.head _)))
    subst hc
    exact g b o A' c' e a w hp ho hf ⟨hs.inp, hs.ino, hs.dj, forall_cons (hs.ps _ (.head _)) (forall_cons hsl fun p hq => hs.ps p (.tail _ (.tail _ hq))), hs.os⟩ hb
theorem go_elem_sc {A : Option Addr} {c : Nat} {xs : List Sc} (h : sl tSc A c xs ∈ Ps) (j : Nat) {x : Sc} (hj : xs[j]? = some x)
    (g : ∀ b o A' c', A = some ⟨b, o, none⟩ → Go C k E (cl b (o + j * 5) [.bool x.c, .bool x.k, .int .u32 x.q.p, .slice A' x.q.a.length c', .int .u8 x.v] :: sl tU A' c' x.q.a :: Ps) Os) : Go C k E Ps Os :=
  go_elem h j hj fun b o cs e a w hp ho hf hs hb => by
    obtain ⟨A', c', hc, hsl⟩ := tSc_open (hs.ps (rp tSc x cs) (.tail _ (.head _)))
    subst hc
    exact g b o A' c' e a w hp ho hf ⟨hs.inp, hs.ino, hs.dj, forall_cons (hs.ps _ (.head _)) (forall_cons hsl fun p hq => hs.ps p (.tail _ (.tail _ hq))), hs.os⟩ hb
theorem ent_re {x : En} {A : Option Addr} {c : Nat} (h : sl tU A c x.1.a ∈ Ps) : Ent Ps (rp tRe x [.int .u32 x.1.p, .slice A x.1.a.length c, .int .u8 x.2]) := fun hp a => tRe_mk (a _ h)
end
theorem cmpL_zero : ∀ {a b : List Int}, cmpL a b = 0 ↔ a = b
  | [], [] => by simp [cmpL]
  | [], _ :: _ => by simp [cmpL]
  | _ :: _, [] => by simp [cmpL]
  | x :: a, y :: b => by
    simp only [cmpL, List.cons.injEq]
    split
    · simp; omega
    · split
      · simp; omega
      · rw [cmpL_zero]; constructor
        · intro h; exact ⟨by omega, h⟩
        · exact fun h => h.2
theorem cmpF_zero {x q : Fa} : cmpF x.p x.a q.p q.a = 0 ↔ x = q := by
  obtain ⟨p, a⟩ := x
  obtain ⟨p', b⟩ := q
  simp only [Fa.mk.injEq]
  unfold cmpF
  split
  · simp; omega
  · split
    · simp; omega
    · split
      · rename_i h; simp; intro _ e; subst e; omega
      · split
        · rename_i h; simp; intro _ e; subst e; omega
        · rw [cmpL_zero]; constructor
          · intro h; exact ⟨by omega, h⟩
          · exact fun h => h.2
/-- What of the first i entries is not the k-th. -/
def delTo (l : List En) (k : Int) (i : Nat) : List En := if k < 0 ∨ (i : Int) ≤ k then l.take i else l.take k.toNat ++ (l.take i).drop (k.toNat + 1)
theorem delTo_zero (l : List En) (k : Int) : delTo l k 0 = [] := by unfold delTo; split <;> simp; omega
theorem delTo_same {l : List En} {k : Int} {i : Nat} (h : (i : Int) = k) : delTo l k (i + 1) = delTo l k i := by
  unfold delTo
  rw [if_neg (by omega), if_pos (by omega)]
  have : k.toNat = i := by omega
  rw [this, List.drop_of_length_le (by simp; omega), List.append_nil]
theorem delTo_next {l : List En} {k : Int} {i : Nat} (hi : i < l.length) (h : ¬ (i : Int) = k) : delTo l k (i + 1) = delTo l k i ++ [l[i]] := by
  unfold delTo
  by_cases h1 : k < 0 ∨ (i : Int) ≤ k
  · rw [if_pos (by omega), if_pos h1, List.take_succ_eq_append_getElem hi]
  · rw [if_neg (by omega), if_neg h1, List.take_succ_eq_append_getElem hi, List.drop_append_of_le_length (by simp; omega), List.append_assoc]
theorem delTo_all {l : List En} {k : Int} {i : Nat} (h : l.length ≤ i) (hk : k < l.length) : delTo l k i = delAt l k := by
  unfold delTo delAt
  rw [List.take_of_length_le h]
  by_cases h1 : k < 0
  · rw [if_pos (.inl h1), if_pos h1]
  · rw [if_neg (by omega), if_neg h1]
theorem delTo_len (l : List En) (k : Int) (i : Nat) : (delTo l k i).length ≤ l.length := by
  unfold delTo; split <;> simp <;> omega
theorem plc_lt (q : Fa) (l : List En) (h : 0 < l.length) : plc q l < l.length := by
  rcases plc_cases q l with ⟨h1, _⟩ | ⟨k, hk, h1, _⟩ <;> omega
theorem plc_lt' (q : Fa) (l : List En) : plc q l < l.length ∨ plc q l < 0 := by
  rcases plc_cases q l with ⟨h1, _⟩ | ⟨k, hk, h1, _⟩ <;> omega
theorem delTo_end {l : List En} {q : Fa} {i : Nat} (h : l.length ≤ i) : delTo l (plc q l) i = delAt l (plc q l) := by
  rcases plc_lt' q l with h1 | h1
  · exact delTo_all h h1
  · unfold delTo delAt; rw [if_pos (.inl h1), if_pos h1, List.take_of_length_le h]
def fewB (l : List Sc) : Bool := decide (l.length ≤ 200) && l.all fun x => decide (x.q.a.length ≤ 30)
theorem few_no {l : List Sc} (h : ¬ l.length ≤ 200) : fewB l = false := by simp [fewB]; omega
theorem few_bad {l : List Sc} {k : Nat} (hk : k < l.length) (h : ¬ l[k].q.a.length ≤ 30) : fewB l = false := by
  simp only [fewB, Bool.and_eq_false_iff]
  right
  rw [List.all_eq_false]
  exact ⟨l[k], List.getElem_mem _, by simpa using h⟩
theorem few_yes {l : List Sc} (h : l.length ≤ 200) (hz : ∀ x ∈ l, x.q.a.length ≤ 30) : fewB l = true := by
  simp only [fewB, Bool.and_eq_true, List.all_eq_true, decide_eq_true_eq]
  exact ⟨h, hz⟩
theorem few_of {l : List Sc} (h : fewB l = true) : l.length ≤ 200 ∧ ∀ x ∈ l, x.q.a.length ≤ 30 := by
  simpa [fewB] using h
theorem cput_part {R : Int} {l : List En} {q : Fa} {v : Int} (c3 : R < ((delAt l (plc q l) ++ [(q, v)]).length : Int)) {T : Ty En} {h : Heap} {A : Option Addr} {c : Nat}
    (s : Sl T h A c (((delAt l (plc q l) ++ [(q, v)]).drop 1).take ((delAt l (plc q l) ++ [(q, v)]).length - 1))) : Sl T h A c (cput R l q v) := by
  unfold cput; rw [if_pos c3]
  rwa [List.take_of_length_le (by simp)] at s
theorem cput_part_len {R : Int} {l : List En} {q : Fa} {v : Int} (c3 : R < ((delAt l (plc q l) ++ [(q, v)]).length : Int)) : (delAt l (plc q l) ++ [(q, v)]).length - 1 = (cput R l q v).length := by
  unfold cput; rw [if_pos c3, List.length_drop]
def keysApart (l : List En) : Prop := (l.map (·.1)).Nodup
theorem delAt_apart {l : List En} {q : Fa} (h : keysApart l) : keysApart (delAt l (plc q l)) ∧ ∀ x ∈ delAt l (plc q l), ¬ x.1 = q := by
  rcases plc_cases q l with ⟨h1, h2⟩ | ⟨k, hk, h1, h2, _⟩
  · rw [delAt_none (by omega)]
    refine ⟨h, fun x hx e => ?_⟩
    have := List.find?_eq_none.1 h2 x hx
    simp [e] at this
  · rw [delAt_hit h1]
    have hs : l = l.take k ++ l[k] :: l.drop (k + 1) := by rw [← List.drop_eq_getElem_cons hk, List.take_append_drop]
    unfold keysApart at h ⊢
    rw [hs, List.map_append, List.map_cons, List.nodup_append] at h
    obtain ⟨n1, n2, n3⟩ := h
    rw [List.nodup_cons] at n2
    constructor
    · rw [List.map_append, List.nodup_append]
      exact ⟨n1, n2.2, fun a ha b hb => n3 a ha b (.tail _ hb)⟩
    · intro x hx e
      rcases List.mem_append.1 hx with hx | hx
      · exact n3 x.1 (List.mem_map_of_mem hx) l[k].1 (.head _) (by rw [e, h2])
      · refine n2.1 ?_
        rw [h2, ← e]
        exact List.mem_map_of_mem hx
theorem cput_apart {R : Int} {l : List En} {q : Fa} {v : Int} (h : keysApart l) : keysApart (cput R l q v) := by
  obtain ⟨h1, h2⟩ := delAt_apart (q := q) h
  have key : keysApart (delAt l (plc q l) ++ [(q, v)]) := by
    unfold keysApart
    rw [List.map_append, List.nodup_append]
    refine ⟨h1, by simp, fun a ha b hb => ?_⟩
    obtain ⟨x, hx, rfl⟩ := List.mem_map.1 ha
    simp at hb
    subst hb
    exact h2 x hx
  unfold cput
  split
  · unfold keysApart at key ⊢
    exact key.sublist ((List.drop_sublist _ _).map _)
  · exact key
theorem cget_self : ∀ {l : List En}, keysApart l → ∀ x ∈ l, cget l x.1 = (x.2, true)
  | [], _, _, hx => by cases hx
  | y :: l, h, x, hx => by
    unfold keysApart at h
    rw [List.map_cons, List.nodup_cons] at h
    unfold cget
    rw [List.find?_cons]
    by_cases e : y.1 = x.1
    · rcases List.mem_cons.1 hx with rfl | hx
      · simp
      · exact absurd (List.mem_map_of_mem (f := fun z : En => z.1) hx) (by rw [← e]; exact h.1)
    · rcases List.mem_cons.1 hx with rfl | hx
      · exact absurd rfl e
      · have := cget_self h.2 x hx
        unfold cget at this
        simpa [e] using this
theorem keysApart_nil : keysApart [] := by simp [keysApart]
theorem Sl_nil {α : Type} (T : Ty α) (h : Heap) : Sl T h none 0 [] := ⟨by simp, by simp [maxLen], fun _ => rfl, fun j x hj => by simp at hj⟩
theorem cput_every {φ : Fa → Prop} {room : Int} {l : List En} {q : Fa} {v : Int} (hl : ∀ x ∈ l, φ x.1) (hq : φ q) : ∀ x ∈ cput room l q v, φ x.1 := by
  intro x hx
  unfold cput at hx
  have key : ∀ x ∈ delAt l (plc q l) ++ [(q, v)], φ x.1 := fun x hx => by
    rcases List.mem_append.1 hx with h | h
    · exact hl x (delAt_mem h)
    · simp at h; subst h; exact hq
  split at hx
  · exact key x (List.mem_of_mem_drop hx)
  · exact key x hx
end Go.Proofs.YtkhddfknpegpmaaGreat.SL

/- What was put last of each question, the newest first; the cache is the first of these, the oldest first. -/
set_option linter.unusedVariables false
set_option linter.unusedSimpArgs false
namespace Go.Proofs.YtkhddfknpegpmaaGreat.SL
/-- The newest first: of each question what was put last. -/
def recent : List En → List En
  | [] => []
  | x :: r => x :: (recent r).filter fun y => decide (¬ y.1 = x.1)
theorem keysApart_filter {l : List En} (h : keysApart l) (p : En → Bool) : keysApart (l.filter p) := by
  unfold keysApart at *
  exact h.sublist (List.filter_sublist.map _)
theorem recent_apart : ∀ P : List En, keysApart (recent P)
  | [] => keysApart_nil
  | x :: P => by
    unfold recent keysApart
    rw [List.map_cons, List.nodup_cons]
    refine ⟨fun h => ?_, keysApart_filter (recent_apart P) _⟩
    obtain ⟨y, hy, e⟩ := List.mem_map.1 h
    have := (List.mem_filter.1 hy).2
    simp at this
    exact this e
theorem recent_snoc : ∀ (P : List En) (x : En), recent (P ++ [x]) = if x.1 ∈ (recent P).map (·.1) then recent P else recent P ++ [x]
  | [], x => by simp [recent]
  | y :: P, x => by
    simp only [List.cons_append, recent, recent_snoc P x, List.map_cons, List.mem_cons]
    by_cases h1 : x.1 ∈ (recent P).map (·.1)
    · rw [if_pos h1]
      by_cases h2 : x.1 = y.1
      · rw [if_pos (.inl h2)]
      · rw [if_pos]
        right
        obtain ⟨z, hz, e⟩ := List.mem_map.1 h1
        exact List.mem_map.2 ⟨z, List.mem_filter.2 ⟨hz, by simp [e, h2]⟩, e⟩
    · rw [if_neg h1, List.filter_append]
      by_cases h2 : x.1 = y.1
      · rw [if_pos (.inl h2)]
        simp [h2]
      · rw [if_neg]
        · simp [h2]
        · rintro (h | h)
          · exact h2 h
          · obtain ⟨z, hz, e⟩ := List.mem_map.1 h
            exact h1 (List.mem_map.2 ⟨z, (List.mem_filter.1 hz).1, e⟩)
theorem recent_prefix (P : List En) : ∀ Z : List En, ∃ t, recent (P ++ Z) = recent P ++ t := by
  intro Z
  induction Z using List.reverseRecOn' with
  | nil => exact ⟨[], by simp⟩
  | snoc Z x ih =>
    obtain ⟨t, h⟩ := ih
    rw [← List.append_assoc, recent_snoc]
    split
    · exact ⟨t, h⟩
    · exact ⟨t ++ [x], by rw [h, List.append_assoc]⟩
where
  List.reverseRecOn' {motive : List En → Prop} (l : List En) (nil : motive []) (snoc : ∀ (l : List En) (x : En), motive l → motive (l ++ [x])) : motive l := by
    have : ∀ n (l : List En), l.length = n → motive l := by
      intro n
      induction n with
      | zero => intro l hl; rw [List.eq_nil_of_length_eq_zero hl]; exact nil
      | succ n ih =>
        intro l hl
        have hne : l ≠ [] := fun e => by subst e; simp at hl
        rw [← List.dropLast_concat_getLast hne]
        exact snoc _ _ (ih _ (by simp [hl]))
    exact this _ l rfl
theorem filter_keys {l : List En} (h : keysApart l) (q : Fa) : delAt l (plc q l) = l.filter fun y => decide (¬ y.1 = q) := by
  rcases plc_cases q l with ⟨h1, h2⟩ | ⟨k, hk, h1, h2, _⟩
  · rw [delAt_none (by omega)]
    rw [List.find?_eq_none] at h2
    exact (List.filter_eq_self.2 fun x hx => by simpa using h2 x hx).symm
  · rw [delAt_hit h1]
    have hs : l = l.take k ++ l[k] :: l.drop (k + 1) := by rw [← List.drop_eq_getElem_cons hk, List.take_append_drop]
    have h' := h
    unfold keysApart at h'
    rw [hs, List.map_append, List.map_cons, List.nodup_append] at h'
    obtain ⟨n1, n2, n3⟩ := h'
    rw [List.nodup_cons] at n2
    conv => rhs; rw [hs]
    rw [List.filter_append, List.filter_cons_of_neg (by simp [h2])]
    congr 1
    · refine (List.filter_eq_self.2 fun x hx => ?_).symm
      have := n3 x.1 (List.mem_map_of_mem hx) l[k].1 (.head _)
      simp [← h2, this]
    · refine (List.filter_eq_self.2 fun x hx => ?_).symm
      have : ¬ x.1 = q := fun e => n2.1 (by rw [h2, ← e]; exact List.mem_map_of_mem hx)
      simp [this]
theorem filter_count : ∀ {l : List En}, keysApart l → ∀ q, l.length ≤ (l.filter fun y => decide (¬ y.1 = q)).length + 1
  | [], _, _ => by simp
  | x :: l, h, q => by
    unfold keysApart at h
    rw [List.map_cons, List.nodup_cons] at h
    by_cases e : x.1 = q
    · rw [List.filter_cons_of_neg (by simp [e])]
      have : l.filter (fun y => decide (¬ y.1 = q)) = l := List.filter_eq_self.2 fun y hy => by
        have : ¬ y.1 = q := fun e' => h.1 (by rw [e, ← e']; exact List.mem_map_of_mem hy)
        simp [this]
      rw [this]; simp
    · rw [List.filter_cons_of_pos (by simp [e])]
      have := filter_count h.2 q
      simp only [List.length_cons]; omega
theorem take_filter {R : List En} (h : keysApart R) (q : Fa) (n : Nat) : ((R.take (n + 1)).filter fun y => decide (¬ y.1 = q)).take n = (R.filter fun y => decide (¬ y.1 = q)).take n := by
  rcases Nat.lt_or_ge R.length (n + 1) with hl | hl
  · rw [List.take_of_length_le (l := R) (by omega)]
  · have hk : keysApart (R.take (n + 1)) := by unfold keysApart at *; exact h.sublist ((List.take_sublist _ _).map _)
    have := filter_count hk q
    conv => rhs; rw [← List.take_append_drop (n + 1) R, List.filter_append]
    rw [List.take_append_of_le_length]
    rw [List.length_take] at this; omega
/-- A cache of room n holds the n newest. -/
def held (n : Nat) (P : List En) : List En := ((recent P).take n).reverse
theorem held_apart (n : Nat) (P : List En) : keysApart (held n P) := by
  unfold held keysApart
  rw [List.map_reverse, List.Perm.nodup_iff (List.reverse_perm _)]
  exact (recent_apart P).sublist ((List.take_sublist _ _).map _)
theorem cput_held {n : Nat} (hn : 1 ≤ n) (P : List En) (q : Fa) (v : Int) : cput (n : Int) (held n P) q v = held n ((q, v) :: P) := by
  obtain ⟨n, rfl⟩ : ∃ m, n = m + 1 := ⟨n - 1, by omega⟩
  have e0 : delAt (held (n + 1) P) (plc q (held (n + 1) P)) = (((recent P).take (n + 1)).filter fun y => decide (¬ y.1 = q)).reverse := by
    rw [filter_keys (held_apart _ _), held, List.filter_reverse]
  have e1 := take_filter (recent_apart P) q n
  have e2 : held (n + 1) ((q, v) :: P) = (((recent P).filter fun y => decide (¬ y.1 = q)).take n).reverse ++ [(q, v)] := by
    simp [held, recent]
  rw [e2, ← e1]
  unfold cput
  rw [e0]
  generalize hF : ((recent P).take (n + 1)).filter (fun y => decide (¬ y.1 = q)) = F
  have hlen : F.length ≤ n + 1 := by
    rw [← hF]
    exact Nat.le_trans (List.length_filter_le _ _) (by simp; omega)
  by_cases hc : F.length = n + 1
  · rw [if_pos (by simp; omega)]
    have hne : F ≠ [] := fun e => by subst e; simp at hc
    have : F = F.take n ++ [F[n]] := by
      conv => lhs; rw [← List.take_append_drop n F, List.drop_eq_getElem_cons (by omega), List.drop_of_length_le (by omega)]
    conv => lhs; rw [this]
    rw [List.reverse_append]
    simp
  · rw [if_neg (by simp; omega), List.take_of_length_le (by omega)]
theorem held_nil (n : Nat) : held n [] = [] := by simp [held, recent]
theorem held_len (n : Nat) (P : List En) : (held n P).length = min n (recent P).length := by simp [held]
theorem cget_held {n : Nat} {P A t : List En} {x : En} (h : recent P = A ++ x :: t) : cget (held n P) x.1 = (if A.length < n then x.2 else 0, decide (A.length < n)) := by
  have hap := recent_apart P
  by_cases hlt : A.length < n
  · rw [if_pos hlt, decide_eq_true hlt]
    refine cget_self (held_apart n P) x ?_
    unfold held
    rw [List.mem_reverse, h, List.mem_take_iff_getElem]
    exact ⟨A.length, by simp; omega, by simp⟩
  · rw [if_neg hlt, decide_eq_false hlt]
    refine cget_none ?_
    rw [List.find?_eq_none]
    intro y hy
    unfold held at hy
    rw [List.mem_reverse, h, List.take_append_of_le_length (by omega)] at hy
    have hy := List.mem_of_mem_take hy
    unfold keysApart at hap
    rw [h, List.map_append, List.map_cons, List.nodup_append] at hap
    have := hap.2.2 y.1 (List.mem_map_of_mem hy) x.1 (.head _)
    simpa using this
/-! ### the steps' puts, the newest first -/
def putsRev : List Sc → List En
  | [] => []
  | s :: r => if s.c then [] else if s.k then putsRev r else (s.q, s.v) :: putsRev r
theorem putsRev_next {l : List Sc} {k : Nat} (hk : k < l.length) : putsRev (l.take (k + 1)).reverse = if l[k].c then [] else if l[k].k then putsRev (l.take k).reverse else (l[k].q, l[k].v) :: putsRev (l.take k).reverse := by
  rw [List.take_succ_eq_append_getElem hk, List.reverse_append]
  rfl
/-- Walking back from the end: what came up, and what is left. -/
theorem back_all {l : List Sc} {k : Nat} (hk : k = 0 ∨ ∃ h : k - 1 < l.length, l[k - 1].c = true) (hk2 : k ≤ l.length) {D : List En} (h : putsRev l.reverse = D ++ putsRev (l.take k).reverse) : putsRev l.reverse = D := by
  rcases hk with rfl | ⟨h1, h2⟩
  · simpa [putsRev] using h
  · rcases Nat.eq_zero_or_pos k with rfl | hp
    · simpa [putsRev] using h
    · obtain ⟨k, rfl⟩ : ∃ m, k = m + 1 := ⟨k - 1, by omega⟩
      simp only [Nat.add_sub_cancel] at h1 h2
      rw [putsRev_next (by omega), if_pos h2, List.append_nil] at h
      exact h
theorem putsRev_ok : ∀ {l : List Sc}, (∀ x ∈ l, x.ok) → ∀ y ∈ putsRev l, y.1.ok
  | [], _, y, hy => by cases hy
  | s :: r, h, y, hy => by
    unfold putsRev at hy
    split at hy
    · cases hy
    · split at hy
      · exact putsRev_ok (fun x hx => h x (.tail _ hx)) y hy
      · rcases List.mem_cons.1 hy with rfl | hy
        · exact (h s (.head _)).1
        · exact putsRev_ok (fun x hx => h x (.tail _ hx)) y hy
theorem recent_mem : ∀ {P : List En} {x : En}, x ∈ recent P → x ∈ P
  | [], _, h => by cases h
  | y :: P, x, h => by
    unfold recent at h
    rcases List.mem_cons.1 h with rfl | h
    · exact .head _
    · exact .tail _ (recent_mem (List.mem_filter.1 h).1)
theorem held_ok {n : Nat} {P : List En} (h : ∀ y ∈ P, y.1.ok) : ∀ y ∈ held n P, y.1.ok := fun y hy => by
  unfold held at hy
  exact h y (recent_mem (List.mem_of_mem_take (List.mem_reverse.1 hy)))
theorem mem_step {q : Fa} {xs : List Fa} {j : Nat} (hj : j < xs.length) {is r : Bool} (h : (is = decide (q ∈ xs.take j) ∧ is = true ∧ r = true) ∨ (is = decide (q ∈ xs.take j) ∧ is = false ∧ r = decide (xs[j] = q))) : r = decide (q ∈ xs.take (j + 1)) := by
  have e : (q ∈ xs.take (j + 1)) ↔ (q ∈ xs.take j ∨ q = xs[j]) := by
    rw [List.take_succ_eq_append_getElem hj, List.mem_append, List.mem_singleton]
  rcases h with ⟨h1, h2, h3⟩ | ⟨h1, h2, h3⟩
  · rw [h2] at h1
    rw [h3, eq_comm, decide_eq_true_eq]
    exact e.2 (.inl (of_decide_eq_true h1.symm))
  · rw [h2] at h1
    rw [h3, decide_eq_decide, e]
    have := of_decide_eq_false h1.symm
    exact ⟨fun q => .inr q.symm, fun q => by rcases q with q | q; · exact absurd q this
                                             · exact q.symm⟩
section
variable {C : Ctx} {k : List It} {E : Env} {Ps : List PA} {Os : List OA}
theorem go_rp_fa {x : Fa} {ds : List Value} (h : rp tFa x ds ∈ Ps) (g : ∀ A c, ds = [.int .u32 x.p, .slice A x.a.length c] → Go C k E (sl tU A c x.a :: Ps) Os) : Go C k E Ps Os := fun a w hp ho hf hs hb => by
  obtain ⟨A, c, e, s⟩ := tFa_open (hs.ps _ h)
  exact g A c e a w hp ho hf (hs.addp s) hb
end
end Go.Proofs.YtkhddfknpegpmaaGreat.SL

/- Facts of few kinds, put one behind the other. -/
set_option linter.unusedVariables false
set_option linter.unusedSimpArgs false
namespace Go.Proofs.YtkhddfknpegpmaaGreat.SL
def kq (x : Int) : Fa := ⟨x % 90, [1]⟩
def eb (x : Int) : En := (kq x, x % 3)
def PRr (l : List Int) (k : Nat) : List En := (l.take k).reverse.map eb
def DRr (l : List Int) (k : Nat) : List En := (l.drop k).reverse.map eb
theorem kq_ok (x : Int) : (kq x).ok := ⟨by show 0 ≤ x % 90 ∧ x % 90 < _; omega, fun y hy => by simp [kq] at hy; omega⟩
theorem kq_inj {x y : Int} : kq x = kq y ↔ x % 90 = y % 90 := by simp [kq]
theorem PR_zero (l : List Int) : PRr l 0 = [] := by simp [PRr]
theorem PR_next {l : List Int} {k : Nat} (hk : k < l.length) : PRr l (k + 1) = (kq l[k], l[k] % 3) :: PRr l k := by
  unfold PRr
  rw [List.take_succ_eq_append_getElem hk, List.reverse_append]
  rfl
theorem PR_all (l : List Int) : PRr l l.length = DRr l 0 := by simp [PRr, DRr]
theorem DR_end (l : List Int) : DRr l l.length = [] := by simp [DRr]
theorem DR_step {l : List Int} {j : Nat} (hj : j < l.length) : DRr l j = DRr l (j + 1) ++ [eb l[j]] := by
  unfold DRr
  rw [List.drop_eq_getElem_cons hj, List.reverse_cons, List.map_append]
  rfl
theorem DR_all {l : List Int} {j : Nat} (hj : j < l.length) : DRr l 0 = DRr l (j + 1) ++ [eb l[j]] ++ PRr l j := by
  rw [← DR_step hj]
  unfold DRr PRr
  rw [← List.map_append, ← List.reverse_append, List.take_append_drop, List.drop_zero]
theorem PR_ok (l : List Int) (k : Nat) : ∀ y ∈ PRr l k, y.1.ok := fun y hy => by
  obtain ⟨x, _, rfl⟩ := List.mem_map.1 hy
  exact kq_ok x
theorem DR_ok (l : List Int) (k : Nat) : ∀ y ∈ DRr l k, y.1.ok := fun y hy => by
  obtain ⟨x, _, rfl⟩ := List.mem_map.1 hy
  exact kq_ok x
theorem recent_keys : ∀ {P : List En} {q : Fa}, q ∈ (recent P).map (·.1) ↔ q ∈ P.map (·.1)
  | [], q => by simp [recent]
  | x :: P, q => by
    unfold recent
    rw [List.map_cons, List.map_cons, List.mem_cons, List.mem_cons, ← recent_keys (P := P)]
    constructor
    · rintro (h | h)
      · exact .inl h
      · obtain ⟨y, hy, e⟩ := List.mem_map.1 h
        exact .inr (List.mem_map.2 ⟨y, (List.mem_filter.1 hy).1, e⟩)
    · rintro (h | h)
      · exact .inl h
      · by_cases e : q = x.1
        · exact .inl e
        · obtain ⟨y, hy, e2⟩ := List.mem_map.1 h
          exact .inr (List.mem_map.2 ⟨y, List.mem_filter.2 ⟨hy, by simp [e2, e]⟩, e2⟩)
def ks (l : List Int) (j : Nat) : List Int := (l.drop (j + 1)).map (· % 90)
theorem ks_len (l : List Int) (j : Nat) : (ks l j).length = l.length - (j + 1) := by simp [ks]
theorem ks_get {l : List Int} {j t : Nat} (h : t < (ks l j).length) (h' : j + 1 + t < l.length) : (ks l j)[t] = l[j + 1 + t] % 90 := by simp [ks]
theorem again_iff {l : List Int} {j : Nat} (hj : j < l.length) : (eb l[j]).1 ∈ (recent (DRr l (j + 1))).map (·.1) ↔ l[j] % 90 ∈ ks l j := by
  rw [recent_keys]
  unfold DRr ks
  simp only [List.map_map, List.mem_map, List.mem_reverse]
  constructor
  · rintro ⟨x, hx, e⟩
    exact ⟨x, hx, kq_inj.1 e⟩
  · rintro ⟨x, hx, e⟩
    exact ⟨x, hx, kq_inj.2 e⟩
theorem far_same {l : List Int} {j : Nat} (hj : j < l.length) (h : l[j] % 90 ∈ ks l j) : recent (DRr l j) = recent (DRr l (j + 1)) := by
  rw [DR_step hj, recent_snoc, if_pos ((again_iff hj).2 h)]
theorem far_next {l : List Int} {j : Nat} (hj : j < l.length) (h : ¬ l[j] % 90 ∈ ks l j) : recent (DRr l j) = recent (DRr l (j + 1)) ++ [eb l[j]] := by
  rw [DR_step hj, recent_snoc, if_neg (fun q => h ((again_iff hj).1 q))]
theorem room_get {l : List Int} {j n : Nat} (hj : j < l.length) (h : ¬ l[j] % 90 ∈ ks l j) : cget (held n (DRr l 0)) (kq l[j]) = (if (recent (DRr l (j + 1))).length < n then l[j] % 3 else 0, decide ((recent (DRr l (j + 1))).length < n)) := by
  obtain ⟨t, ht⟩ := recent_prefix (DRr l (j + 1) ++ [eb l[j]]) (PRr l j)
  rw [← DR_all hj, ← DR_step hj, far_next hj h, List.append_assoc] at ht
  exact cget_held ht
theorem far_len (l : List Int) (j : Nat) : (recent (DRr l j)).length ≤ l.length - j := by
  have : ∀ P : List En, (recent P).length ≤ P.length := fun P => by
    induction P with
    | nil => simp [recent]
    | cons x P ih =>
      unfold recent
      simp only [List.length_cons]
      have := List.length_filter_le (fun y : En => decide (¬ y.1 = x.1)) (recent P)
      omega
  have := this (DRr l j)
  simpa [DRr] using this
theorem mem_stepI {q : Int} {xs : List Int} {j : Nat} (hj : j < xs.length) {is r : Bool} (h : (is = decide (q ∈ xs.take j) ∧ is = true ∧ r = true) ∨ (is = decide (q ∈ xs.take j) ∧ is = false ∧ r = decide (xs[j] = q))) : r = decide (q ∈ xs.take (j + 1)) := by
  have e : (q ∈ xs.take (j + 1)) ↔ (q ∈ xs.take j ∨ q = xs[j]) := by
    rw [List.take_succ_eq_append_getElem hj, List.mem_append, List.mem_singleton]
  rcases h with ⟨h1, h2, h3⟩ | ⟨h1, h2, h3⟩
  · rw [h2] at h1
    rw [h3, eq_comm, decide_eq_true_eq]
    exact e.2 (.inl (of_decide_eq_true h1.symm))
  · rw [h2] at h1
    rw [h3, decide_eq_decide, e]
    have := of_decide_eq_false h1.symm
    exact ⟨fun q => .inr q.symm, fun q => by rcases q with q | q; · exact absurd q this
                                             · exact q.symm⟩
theorem wrap_u32 {n : Int} (h : 0 ≤ n ∧ n < 4294967296) : IntKind.u32.wrap n = n := by
  unfold IntKind.wrap IntKind.signed IntKind.bits
  simp
  omega
end Go.Proofs.YtkhddfknpegpmaaGreat.SL

/- Sets of facts: lists that rise; where a fact stands. -/
set_option linter.unusedVariables false
set_option linter.unusedSimpArgs false
namespace Go.Proofs.YtkhddfknpegpmaaGreat.SL
def cF (x y : Fa) : Int := cmpF x.p x.a y.p y.a
theorem cmpL_swap : ∀ a b : List Int, cmpL a b = - cmpL b a
  | [], [] => rfl
  | [], _ :: _ => rfl
  | _ :: _, [] => rfl
  | x :: a, y :: b => by
    simp only [cmpL]
    by_cases h : x < y
    · rw [if_pos h, if_neg (by omega), if_pos h]
    · by_cases g : y < x
      · rw [if_neg h, if_pos g, if_pos g]; rfl
      · rw [if_neg h, if_neg g, if_neg g, if_neg h, cmpL_swap a b]
theorem cmpL_range : ∀ a b : List Int, cmpL a b = -1 ∨ cmpL a b = 0 ∨ cmpL a b = 1
  | [], [] => .inr (.inl rfl)
  | [], _ :: _ => .inl rfl
  | _ :: _, [] => .inr (.inr rfl)
  | x :: a, y :: b => by
    simp only [cmpL]
    split
    · exact .inl rfl
    · split
      · exact .inr (.inr rfl)
      · exact cmpL_range a b
theorem cF_swap (x y : Fa) : cF x y = - cF y x := by
  unfold cF cmpF
  by_cases h1 : x.p < y.p
  · simp [h1, show ¬ y.p < x.p by omega]
  · by_cases h2 : y.p < x.p
    · simp [h1, h2]
    · by_cases h3 : x.a.length < y.a.length
      · simp [h1, h2, h3, show ¬ y.a.length < x.a.length by omega]
      · by_cases h4 : y.a.length < x.a.length
        · simp [h1, h2, h3, h4]
        · simp only [h1, h2, h3, h4, if_false]; exact cmpL_swap _ _
theorem cF_range (x y : Fa) : cF x y = -1 ∨ cF x y = 0 ∨ cF x y = 1 := by
  unfold cF cmpF
  split
  · exact .inl rfl
  · split
    · exact .inr (.inr rfl)
    · split
      · exact .inl rfl
      · split
        · exact .inr (.inr rfl)
        · exact cmpL_range _ _
theorem cF_zero {x y : Fa} : cF x y = 0 ↔ x = y := cmpF_zero
theorem cmpL_trans : ∀ {a b c : List Int}, cmpL a b < 0 → cmpL b c < 0 → cmpL a c < 0
  | [], [], _, h, _ => by simp [cmpL] at h
  | [], _ :: _, [], _, h => by simp [cmpL] at h
  | [], _ :: _, _ :: _, _, _ => by simp [cmpL]
  | _ :: _, [], _, h, _ => by simp [cmpL] at h
  | _ :: _, _ :: _, [], _, h => by simp [cmpL] at h
  | x :: a, y :: b, z :: c, h, g => by
    simp only [cmpL] at h g ⊢
    by_cases h1 : x < y
    · by_cases g1 : y < z
      · rw [if_pos (by omega)]; omega
      · rw [if_neg g1] at g
        by_cases g2 : z < y
        · rw [if_pos g2] at g; omega
        · rw [if_pos (by omega)]; omega
    · rw [if_neg h1] at h
      by_cases h2 : y < x
      · rw [if_pos h2] at h; omega
      · rw [if_neg h2] at h
        by_cases g1 : y < z
        · rw [if_pos (by omega)]; omega
        · rw [if_neg g1] at g
          by_cases g2 : z < y
          · rw [if_pos g2] at g; omega
          · rw [if_neg g2] at g
            rw [if_neg (by omega), if_neg (by omega)]
            exact cmpL_trans h g
theorem cF_lt_iff (x y : Fa) : cF x y < 0 ↔ x.p < y.p ∨ (x.p = y.p ∧ (x.a.length < y.a.length ∨ (x.a.length = y.a.length ∧ cmpL x.a y.a < 0))) := by
  unfold cF cmpF
  by_cases h1 : x.p < y.p
  · simp [h1]
  · by_cases h2 : y.p < x.p
    · simp [h1, h2]; omega
    · by_cases h3 : x.a.length < y.a.length
      · simp [h1, h2, h3]; omega
      · by_cases h4 : y.a.length < x.a.length
        · simp [h1, h2, h3, h4]; omega
        · simp only [h1, h2, h3, h4, if_false, false_or]
          constructor
          · intro h; exact ⟨by omega, by omega, h⟩
          · exact fun h => h.2.2
theorem cF_trans {x y z : Fa} (h : cF x y < 0) (g : cF y z < 0) : cF x z < 0 := by
  rw [cF_lt_iff] at *
  rcases h with h | ⟨h1, h | ⟨h2, h3⟩⟩ <;> rcases g with g | ⟨g1, g | ⟨g2, g3⟩⟩
  · left; omega
  · left; omega
  · left; omega
  · left; omega
  · right; exact ⟨by omega, .inl (by omega)⟩
  · right; exact ⟨by omega, .inl (by omega)⟩
  · left; omega
  · right; exact ⟨by omega, .inl (by omega)⟩
  · right; exact ⟨by omega, .inr ⟨by omega, cmpL_trans h3 g3⟩⟩
/-- The facts rise. -/
def rises (l : List Fa) : Prop := l.Pairwise fun x y => cF x y < 0
/-- How many stand ahead of a fact. -/
def at_ (l : List Fa) (q : Fa) : Nat := (l.takeWhile fun x => decide (cF x q < 0)).length
theorem at_le (l : List Fa) (q : Fa) : at_ l q ≤ l.length := (List.takeWhile_sublist _).length_le
/-- The place, found from two sides. -/
theorem at_of {l : List Fa} {q : Fa} {i : Nat} (hi : i ≤ l.length) (h1 : ∀ x ∈ l.take i, cF x q < 0) (h2 : ∀ x ∈ l.drop i, ¬ cF x q < 0) : at_ l q = i := by
  unfold at_
  have e : l.takeWhile (fun x => decide (cF x q < 0)) = l.take i := by
    conv => lhs; rw [← List.take_append_drop i l]
    rw [List.takeWhile_append_of_pos (fun x hx => by simpa using h1 x hx)]
    have : (l.drop i).takeWhile (fun x => decide (cF x q < 0)) = [] := by
      cases hd : l.drop i with
      | nil => rfl
      | cons y r =>
        have := h2 y (by rw [hd]; exact .head _)
        simp [List.takeWhile_cons, this]
    rw [this, List.append_nil]
  rw [e]; simp; omega
theorem rises_take {l : List Fa} (h : rises l) {k : Nat} (hk : k < l.length) {q : Fa} (g : cF l[k] q < 0) : ∀ x ∈ l.take (k + 1), cF x q < 0 := by
  rw [List.take_succ_eq_append_getElem hk]
  intro x hx
  rcases List.mem_append.1 hx with hx | hx
  · obtain ⟨j, hj, rfl⟩ := List.mem_take_iff_getElem.1 hx
    have := List.pairwise_iff_getElem.1 h j k (by omega) hk (by omega)
    exact cF_trans this g
  · simp at hx; subst hx; exact g
theorem rises_drop {l : List Fa} (h : rises l) {k : Nat} (hk : k < l.length) {q : Fa} (g : ¬ cF l[k] q < 0) : ∀ x ∈ l.drop k, ¬ cF x q < 0 := by
  rw [List.drop_eq_getElem_cons hk]
  intro x hx
  rcases List.mem_cons.1 hx with rfl | hx
  · exact g
  · obtain ⟨j, hj, rfl⟩ := List.getElem_of_mem hx
    rw [List.getElem_drop]
    have := List.pairwise_iff_getElem.1 h k (k + 1 + j) hk (by simp at hj; omega) (by omega)
    intro c
    have h1 := cF_trans this c
    exact g h1
/-- Whether it is there. -/
theorem has_at {l : List Fa} (h : rises l) (q : Fa) : (∃ hk : at_ l q < l.length, l[at_ l q] = q) ↔ q ∈ l := by
  constructor
  · rintro ⟨hk, e⟩; rw [← e]; exact List.getElem_mem _
  · intro hm
    obtain ⟨j, hj, e⟩ := List.getElem_of_mem hm
    have : at_ l q = j := at_of (by omega) (fun x hx => by
      obtain ⟨i, hi, rfl⟩ := List.mem_take_iff_getElem.1 hx
      have := List.pairwise_iff_getElem.1 h i j (by omega) hj (by omega)
      rw [e] at this; exact this) (rises_drop h hj (by rw [e, (cF_zero (x := q) (y := q)).2 rfl]; omega))
    subst this
    exact ⟨hj, e⟩
theorem wrap_u64 {n : Int} (h : 0 ≤ n ∧ n < 18446744073709551616) : IntKind.u64.wrap n = n := by
  unfold IntKind.wrap IntKind.signed IntKind.bits
  simp
  omega
theorem half {n : Nat} : ((n : Int)).fdiv (2 ^ Nat.min 1 IntKind.u64.bits) = ((n / 2 : Nat) : Int) := by
  have : (2 : Int) ^ Nat.min 1 IntKind.u64.bits = 2 := by decide
  rw [this, Int.fdiv_eq_ediv_of_nonneg _ (by omega)]
  omega
section
variable {C : Ctx} {k : List It} {E : Env} {Ps : List PA} {Os : List OA}
theorem go_rp_fa' {x : Fa} {ds : List Value} (h : rp tFa x ds ∈ Ps) (g : ∀ A c, ds = [.int .u32 x.p, .slice A x.a.length c] → Go C k E (sl tU A c x.a :: Ps) Os) : Go C k E Ps Os := fun a w hp ho hf hs hb => by
  obtain ⟨A, c, e, s⟩ := tFa_open (hs.ps _ h)
  exact g A c e a w hp ho hf (hs.addp s) hb
theorem go_nil_sl {α : Type} {T : Ty α} {c : Nat} {xs : List α} (h : sl T none c xs ∈ Ps) (g : xs = [] → Go C k E Ps Os) : Go C k E Ps Os :=
  go_fact (φ := xs = []) _ h (fun _ s => List.eq_nil_of_length_eq_zero (by have := s.1; have := s.2.2.1 rfl; omega)) g
end
theorem bin_yes {l : List Fa} {q : Fa} {i : Nat} (h : rises l) (hi : i < l.length) (hi' : i ≤ l.length) (h1 : ∀ x ∈ l.take i, cF x q < 0) (h2 : ∀ x ∈ l.drop i, ¬ cF x q < 0) :
    Value.tuple #[.int .i64 (at_ l q : Int), .bool (decide (q ∈ l))] = Value.tuple #[.int .i64 (i : Int), .bool (decide (cmpF l[i].p l[i].a q.p q.a = 0))] := by
  have e := at_of hi' h1 h2
  have hb : decide (q ∈ l) = decide (cmpF l[i].p l[i].a q.p q.a = 0) := by
    rw [decide_eq_decide, ← has_at h q]
    constructor
    · rintro ⟨hk, g⟩
      subst e
      exact cmpF_zero.2 g
    · intro g
      subst e
      exact ⟨hi, cmpF_zero.1 g⟩
  rw [e, hb]
theorem bin_no {l : List Fa} {q : Fa} {i : Nat} (h : rises l) (hi : i = l.length) (h1 : ∀ x ∈ l.take i, cF x q < 0) : Value.tuple #[.int .i64 (at_ l q : Int), .bool (decide (q ∈ l))] = Value.tuple #[.int .i64 (i : Int), .bool false] := by
  have e : at_ l q = i := at_of (by omega) h1 (by subst hi; simp)
  have hb : decide (q ∈ l) = false := by
    rw [decide_eq_false_iff_not, ← has_at h q]
    rintro ⟨hk, _⟩
    omega
  rw [e, hb]
/-- A set without a fact; with a fact. -/
def fcut (l : List Fa) (q : Fa) : List Fa := if q ∈ l then l.take (at_ l q) ++ l.drop (at_ l q + 1) else l
def fput (l : List Fa) (q : Fa) : List Fa := if q ∈ l then l else l.take (at_ l q) ++ q :: l.drop (at_ l q)
theorem fcut_yes {l : List Fa} {q : Fa} (h : q ∈ l) : fcut l q = l.take (at_ l q) ++ l.drop (at_ l q + 1) := by unfold fcut; rw [if_pos h]
theorem fcut_no {l : List Fa} {q : Fa} (h : ¬ q ∈ l) : fcut l q = l := by unfold fcut; rw [if_neg h]
theorem fput_yes {l : List Fa} {q : Fa} (h : q ∈ l) : fput l q = l := by unfold fput; rw [if_pos h]
theorem fput_no {l : List Fa} {q : Fa} (h : ¬ q ∈ l) : fput l q = l.take (at_ l q) ++ q :: l.drop (at_ l q) := by unfold fput; rw [if_neg h]
end Go.Proofs.YtkhddfknpegpmaaGreat.SL

/- What a set is after a fact was put or cut. -/
set_option linter.unusedVariables false
set_option linter.unusedSimpArgs false
namespace Go.Proofs.YtkhddfknpegpmaaGreat.SL
theorem take_while {α : Type} {p : α → Bool} : ∀ (l : List α), ∀ x ∈ l.take (l.takeWhile p).length, p x = true
  | [], x, h => by simp at h
  | y :: l, x, h => by
    rw [List.takeWhile_cons] at h
    by_cases hy : p y = true
    · rw [if_pos hy, List.length_cons, List.take_succ_cons] at h
      rcases List.mem_cons.1 h with rfl | h
      · exact hy
      · exact take_while l x h
    · rw [if_neg hy] at h
      simp at h
theorem at_low {l : List Fa} (q : Fa) : ∀ x ∈ l.take (at_ l q), cF x q < 0 := fun x hx => by
  have := take_while (p := fun x => decide (cF x q < 0)) l x hx
  simpa using this
theorem at_high {l : List Fa} (h : rises l) (q : Fa) : ∀ x ∈ l.drop (at_ l q), ¬ cF x q < 0 := by
  rcases Nat.lt_or_ge (at_ l q) l.length with hl | hl
  · refine rises_drop h hl ?_
    intro c
    have h1 := rises_take h hl c
    have : at_ l q + 1 ≤ (l.takeWhile fun x => decide (cF x q < 0)).length := by
      have e : l.takeWhile (fun x => decide (cF x q < 0)) = l.take (at_ l q + 1) ++ (l.drop (at_ l q + 1)).takeWhile (fun x => decide (cF x q < 0)) := by
        conv => lhs; rw [← List.take_append_drop (at_ l q + 1) l]
        rw [List.takeWhile_append_of_pos (fun x hx => by simpa using h1 x hx)]
      rw [e, List.length_append, List.length_take]
      omega
    unfold at_ at this
    omega
  · rw [List.drop_of_length_le hl]
    intro x hx; cases hx
theorem rises_fput {l : List Fa} (h : rises l) (q : Fa) : rises (fput l q) := by
  by_cases hm : q ∈ l
  · rw [fput_yes hm]; exact h
  · rw [fput_no hm]
    unfold rises at h ⊢
    have hs := h
    rw [← List.take_append_drop (at_ l q) l, List.pairwise_append] at hs
    rw [List.pairwise_append, List.pairwise_cons]
    have hi : ∀ x ∈ l.drop (at_ l q), cF q x < 0 := fun x hx => by
      have h1 := at_high h q x hx
      have h2 : cF x q ≠ 0 := fun e => hm (by rw [← cF_zero.1 e]; exact List.mem_of_mem_drop hx)
      rw [cF_swap]
      omega
    refine ⟨hs.1, ⟨hi, hs.2.1⟩, fun x hx y hy => ?_⟩
    rcases List.mem_cons.1 hy with rfl | hy
    · exact at_low _ x hx
    · exact hs.2.2 x hx y hy
theorem rises_fcut {l : List Fa} (h : rises l) (q : Fa) : rises (fcut l q) := by
  by_cases hm : q ∈ l
  · rw [fcut_yes hm]
    unfold rises at h ⊢
    rw [← List.take_append_drop (at_ l q) l, List.pairwise_append] at h
    rw [List.pairwise_append]
    have hd : (l.drop (at_ l q + 1)).Sublist (l.drop (at_ l q)) := by
      rw [← List.drop_drop]; exact List.drop_sublist _ _
    exact ⟨h.1, h.2.1.sublist hd, fun x hx y hy => h.2.2 x hx y (hd.subset hy)⟩
  · rw [fcut_no hm]; exact h
theorem mem_fput {l : List Fa} {q x : Fa} : x ∈ fput l q ↔ x = q ∨ x ∈ l := by
  by_cases hm : q ∈ l
  · rw [fput_yes hm]
    constructor
    · exact .inr
    · rintro (rfl | h)
      · exact hm
      · exact h
  · rw [fput_no hm]
    conv => rhs; rw [← List.take_append_drop (at_ l q) l]
    simp only [List.mem_append, List.mem_cons]
    constructor
    · rintro (h | h | h)
      · exact .inr (.inl h)
      · exact .inl h
      · exact .inr (.inr h)
    · rintro (h | h | h)
      · exact .inr (.inl h)
      · exact .inl h
      · exact .inr (.inr h)
theorem fput_len (l : List Fa) (q : Fa) : (fput l q).length ≤ l.length + 1 := by
  unfold fput; split
  · omega
  · simp; omega
theorem fcut_len (l : List Fa) (q : Fa) : (fcut l q).length ≤ l.length := by
  unfold fcut; split
  · simp; omega
  · omega
theorem mem_fcut {l : List Fa} (h : rises l) {q x : Fa} : x ∈ fcut l q ↔ x ∈ l ∧ x ≠ q := by
  by_cases hm : q ∈ l
  · obtain ⟨hk, e⟩ := (has_at h q).2 hm
    rw [fcut_yes hm]
    have hs : l = l.take (at_ l q) ++ l[at_ l q] :: l.drop (at_ l q + 1) := by rw [← List.drop_eq_getElem_cons hk, List.take_append_drop]
    have hp := h
    unfold rises at hp
    rw [hs, List.pairwise_append, List.pairwise_cons] at hp
    constructor
    · intro hx
      rcases List.mem_append.1 hx with hx | hx
      · refine ⟨List.mem_of_mem_take hx, fun c => ?_⟩
        have := hp.2.2 x hx _ (.head _)
        rw [e, c, (cF_zero (x := q) (y := q)).2 rfl] at this
        omega
      · refine ⟨List.mem_of_mem_drop hx, fun c => ?_⟩
        have := hp.2.1.1 x hx
        rw [e, c, (cF_zero (x := q) (y := q)).2 rfl] at this
        omega
    · rintro ⟨h1, h2⟩
      rw [hs] at h1
      rcases List.mem_append.1 h1 with h1 | h1
      · exact List.mem_append_left _ h1
      · rcases List.mem_cons.1 h1 with h1 | h1
        · exact absurd (h1.trans e) h2
        · exact List.mem_append_right _ h1
  · rw [fcut_no hm]
    exact ⟨fun hx => ⟨hx, fun c => hm (c ▸ hx)⟩, fun hx => hx.1⟩
/-- Two sets of the same facts are the same. -/
theorem rises_ext : ∀ {a b : List Fa}, rises a → rises b → (∀ x, x ∈ a ↔ x ∈ b) → a = b
  | [], [], _, _, _ => rfl
  | [], y :: b, _, _, h => by have := (h y).2 (.head _); cases this
  | x :: a, [], _, _, h => by have := (h x).1 (.head _); cases this
  | x :: a, y :: b, ha, hb, h => by
    unfold rises at ha hb
    rw [List.pairwise_cons] at ha hb
    have irr : ∀ z : Fa, ¬ cF z z < 0 := fun z => by rw [cF_zero.2 rfl]; omega
    have hxy : x = y := by
      rcases List.mem_cons.1 ((h x).1 (.head _)) with e | h1
      · exact e
      · rcases List.mem_cons.1 ((h y).2 (.head _)) with e | h2
        · exact e.symm
        · exact absurd (cF_trans (ha.1 y h2) (hb.1 x h1)) (irr x)
    subst hxy
    rw [rises_ext ha.2 hb.2 fun z => ?_]
    constructor
    · intro hz
      rcases List.mem_cons.1 ((h z).1 (.tail _ hz)) with e | h1
      · subst e; exact absurd (ha.1 z hz) (irr z)
      · exact h1
    · intro hz
      rcases List.mem_cons.1 ((h z).2 (.tail _ hz)) with e | h1
      · subst e; exact absurd (hb.1 z hz) (irr z)
      · exact h1
section
variable {C : Ctx} {k : List It} {E : Env} {Ps : List PA} {Os : List OA}
/-- A fact of one's own through and through. -/
theorem go_vo_fa {e : Nat} {A : Option Addr} {c : Nat} (x : Fa) {rr : List OA} (h : Rem (ol tU e A c x.a) Os rr) (g : Go C k E Ps (vo tFa x [.int .u32 x.p, .slice A x.a.length c] :: rr)) : Go C k E Ps Os :=
  go_imp _ [vo tFa x [.int .u32 x.p, .slice A x.a.length c]] h (fun hp h1 ⟨cs, r, s⟩ => sep_one (by
    obtain ⟨q1, q2, q3, q4⟩ := r
    rcases q4 with q | ⟨b, cur, e1, e2, e3, e4⟩
    · exact ⟨Heap.nil, Heap.nil_le _, Wr.nil, tFa_mk (sl_of_row (e := e) (h1 := Heap.nil) ⟨q1, q2, q3, .inl q⟩ (Heap.le_refl _) (Reps.flat tU_flat s))⟩
    · exact ⟨Heap.one b (.cells cur e (0, 0)), Heap.one_le e2, Wr.one, tFa_mk (sl_of_row (e := e) (h1 := Heap.one b (.cells cur e (0, 0))) ⟨q1, q2, q3, .inr ⟨b, cur, e1, by simp [Heap.one], e3, e4⟩⟩ (Heap.le_refl _) (Reps.flat tU_flat s))⟩)) g
end
/-- The set of some facts. -/
noncomputable def fof (l : List Fa) : List Fa := l.foldl fput []
theorem fof_next {l : List Fa} {k : Nat} (hk : k < l.length) : fof (l.take (k + 1)) = fput (fof (l.take k)) l[k] := by
  unfold fof
  rw [List.take_succ_eq_append_getElem hk, List.foldl_append]; rfl
theorem foldl_rises : ∀ (l s : List Fa), rises s → rises (l.foldl fput s)
  | [], _, h => h
  | x :: l, s, h => foldl_rises l _ (rises_fput h x)
theorem rises_fof (l : List Fa) : rises (fof l) := foldl_rises l [] .nil
theorem foldl_mem : ∀ (l s : List Fa) (x : Fa), x ∈ l.foldl fput s ↔ x ∈ s ∨ x ∈ l
  | [], s, x => by simp
  | y :: l, s, x => by
    rw [List.foldl_cons, foldl_mem l, mem_fput, List.mem_cons]
    constructor
    · rintro ((h | h) | h)
      · exact .inr (.inl h)
      · exact .inl h
      · exact .inr (.inr h)
    · rintro (h | h | h)
      · exact .inl (.inr h)
      · exact .inl (.inl h)
      · exact .inr h
theorem mem_fof {l : List Fa} {x : Fa} : x ∈ fof l ↔ x ∈ l := by simp [fof, foldl_mem]
theorem foldl_flen : ∀ (l s : List Fa), (l.foldl fput s).length ≤ s.length + l.length
  | [], s => by simp
  | y :: l, s => by
    have h1 := foldl_flen l (fput s y)
    have h2 := fput_len s y
    rw [List.foldl_cons, List.length_cons]
    omega
theorem fof_len (l : List Fa) : (fof l).length ≤ l.length := by have := foldl_flen l []; simpa [fof] using this
theorem filt_all {α : Type} (l : List α) : l.filter (fun _ => true) = l := by simp
theorem rises_filter {l : List Fa} (h : rises l) (p : Fa → Bool) : rises (l.filter p) := List.Pairwise.sublist List.filter_sublist h
theorem rises_nil : rises [] := .nil
theorem has_yes {l : List Fa} {q : Fa} (h : rises l) (hi : at_ l q < l.length) : decide (q ∈ l) = decide (cmpF l[at_ l q].p l[at_ l q].a q.p q.a = 0) := by
  rw [decide_eq_decide, ← has_at h q]
  exact ⟨fun ⟨_, g⟩ => cmpF_zero.2 g, fun g => ⟨hi, cmpF_zero.1 g⟩⟩
theorem has_no {l : List Fa} {q : Fa} (h : rises l) (hi : ¬ at_ l q < l.length) : decide (q ∈ l) = false := by
  rw [decide_eq_false_iff_not, ← has_at h q]
  rintro ⟨hk, _⟩; omega
/-- What is in one and not in another. -/
noncomputable def less (a b : List Fa) : List Fa := a.filter (fun x => !decide (x ∈ b))
end Go.Proofs.YtkhddfknpegpmaaGreat.SL

/- When an atom matches a fact; what variables stand for. -/
set_option linter.unusedVariables false
set_option linter.unusedSimpArgs false
namespace Go.Proofs.YtkhddfknpegpmaaGreat.SL
/-- What a term is, its variable standing for a symbol. -/
def tv (s : Int → Int) (t : Tm) : Int := if t.v then s t.n else t.n
def ap (s : Int → Int) (a : Am) : Fa := ⟨a.p, a.a.map (tv s)⟩
def Mt (a : Am) (f : Fa) : Prop := ∃ s, f = ap s a
noncomputable instance (a : Am) (f : Fa) : Decidable (Mt a f) := Classical.propDecidable _
noncomputable def mtch (a : Am) (f : Fa) : Bool := decide (Mt a f)
theorem Mt.pred {a : Am} {f : Fa} (h : Mt a f) : a.p = f.p ∧ a.a.length = f.a.length := by obtain ⟨s, rfl⟩ := h; simp [ap]
/-- So many places fit. -/
def fits (s : Int → Int) (a : List Tm) (f : List Int) (i : Nat) : Prop := ∀ k t n, k < i → a[k]? = some t → f[k]? = some n → tv s t = n
theorem fits_zero (s : Int → Int) (a : List Tm) (f : List Int) : fits s a f 0 := fun k t n h => by omega
theorem fits_next {s : Int → Int} {a : List Tm} {f : List Int} {i : Nat} (h1 : i < a.length) (h2 : i < f.length) : fits s a f (i + 1) ↔ fits s a f i ∧ tv s a[i] = f[i] := by
  constructor
  · intro h
    exact ⟨fun k t n hk => h k t n (by omega), h i _ _ (by omega) (List.getElem?_eq_getElem h1) (List.getElem?_eq_getElem h2)⟩
  · rintro ⟨h, g⟩ k t n hk ha hf
    rcases Nat.lt_or_ge k i with q | q
    · exact h k t n q ha hf
    · obtain rfl : k = i := by omega
      rw [List.getElem?_eq_getElem h1] at ha
      rw [List.getElem?_eq_getElem h2] at hf
      cases ha; cases hf; exact g
theorem Mt_of_fits {a : Am} {f : Fa} {s : Int → Int} (hp : a.p = f.p) (hl : a.a.length = f.a.length) (h : fits s a.a f.a a.a.length) : Mt a f := by
  refine ⟨s, ?_⟩
  obtain ⟨p, l⟩ := f
  simp only at hp hl h
  unfold ap
  rw [hp]
  congr 1
  apply List.ext_getElem?
  intro k
  rcases Nat.lt_or_ge k a.a.length with q | q
  · rw [List.getElem?_map, List.getElem?_eq_getElem q, List.getElem?_eq_getElem (by omega)]
    simp only [Option.map_some, Option.some.injEq]
    exact (h k _ _ q (List.getElem?_eq_getElem q) (List.getElem?_eq_getElem (by omega))).symm
  · rw [List.getElem?_eq_none (by omega), List.getElem?_eq_none (by simpa using q)]
theorem fits_of_Mt {a : Am} {s : Int → Int} (i : Nat) : fits s a.a (ap s a).a i := fun k t n hk ha hf => by
  simp only [ap, List.getElem?_map, ha, Option.map_some, Option.some.injEq] at hf
  exact hf
theorem mtch_no {a : Am} {f : Fa} (h : a.p = f.p → a.a.length = f.a.length → False) : mtch a f = false := by
  unfold mtch
  rw [decide_eq_false_iff_not]
  intro c; exact h c.pred.1 c.pred.2
/-- What is held agrees. -/
def agrees (σ : Int → Option Int) (s : Int → Int) : Prop := ∀ n m, 0 ≤ n → σ n = some m → s n = m
def upd (σ : Int → Option Int) (n m : Int) : Int → Option Int := fun k => if k = n then some m else σ k
def inv (σ : Int → Option Int) (a : List Tm) (f : List Int) (i : Nat) : Prop := ∀ s, fits s a f i ↔ agrees σ s
theorem inv_zero (a : List Tm) (f : List Int) : inv (fun _ => none) a f 0 := fun s => ⟨fun _ n m _ h => (by cases h), fun _ => fits_zero s a f⟩
theorem inv_sym {σ : Int → Option Int} {a : List Tm} {f : List Int} {i : Nat} (h : inv σ a f i) (h1 : i < a.length) (h2 : i < f.length) (hv : a[i].v = false) (hn : a[i].n = f[i]) : inv σ a f (i + 1) := fun s => by
  rw [fits_next h1 h2, h s]
  simp [tv, hv, hn]
theorem inv_var {σ : Int → Option Int} {a : List Tm} {f : List Int} {i : Nat} (h : inv σ a f i) (h1 : i < a.length) (h2 : i < f.length) (hv : a[i].v = true) (h0 : 0 ≤ a[i].n) (hn : σ a[i].n = none ∨ σ a[i].n = some f[i]) : inv (upd σ a[i].n f[i]) a f (i + 1) := fun s => by
  rw [fits_next h1 h2, h s]
  simp only [tv, hv, if_true]
  constructor
  · rintro ⟨g1, g2⟩ n m hn0 e
    unfold upd at e
    split at e
    · rename_i q; cases e; rw [q]; exact g2
    · exact g1 n m hn0 e
  · intro g
    refine ⟨fun n m hn0 e => ?_, g _ _ h0 (by simp [upd])⟩
    by_cases q : n = a[i].n
    · subst q
      rcases hn with hn | hn
      · rw [hn] at e; cases e
      · rw [hn] at e; cases e
        exact g _ _ h0 (by simp [upd])
    · exact g n m hn0 (by simp [upd, q, e])
theorem mtch_sym_no {a : Am} {f : Fa} {i : Nat} (h1 : i < a.a.length) (h2 : i < f.a.length) (hv : a.a[i].v = false) (hn : ¬ a.a[i].n = f.a[i]) : mtch a f = false := by
  unfold mtch
  rw [decide_eq_false_iff_not]
  rintro ⟨s, rfl⟩
  have := fits_of_Mt (a := a) (s := s) (i + 1) i _ _ (by omega) (List.getElem?_eq_getElem h1) (List.getElem?_eq_getElem h2)
  simp only [tv, hv] at this
  exact hn (by simpa using this)
theorem mtch_var_no {σ : Int → Option Int} {a : Am} {f : Fa} {i : Nat} (h : inv σ a.a f.a i) (h1 : i < a.a.length) (h2 : i < f.a.length) (hv : a.a[i].v = true) (h0 : 0 ≤ a.a[i].n) (hn : ¬ (σ a.a[i].n = none ∨ σ a.a[i].n = some f.a[i])) : mtch a f = false := by
  unfold mtch
  rw [decide_eq_false_iff_not]
  rintro ⟨s, rfl⟩
  have g := fits_of_Mt (a := a) (s := s) (i + 1) i _ _ (by omega) (List.getElem?_eq_getElem h1) (List.getElem?_eq_getElem h2)
  have g2 := (h s).1 (fits_of_Mt i)
  simp only [tv, hv, if_true] at g
  cases e : σ a.a[i].n with
  | none => exact hn (.inl e)
  | some m =>
    have := g2 _ _ h0 e
    refine hn (.inr ?_)
    rw [e, ← g, this]
theorem mtch_yes {σ : Int → Option Int} {a : Am} {f : Fa} (hp : a.p = f.p) (hl : a.a.length = f.a.length) (h : inv σ a.a f.a a.a.length) : mtch a f = true := by
  unfold mtch
  rw [decide_eq_true_iff]
  exact Mt_of_fits hp hl ((h fun n => (σ n).getD 0).2 fun n m _ e => by simp [e])
/-! ### what is held, in lists -/
def sig (few : List Int) (is : List Bool) (many : List Tm) (by_ : List Int) (n : Int) : Option Int :=
  if n < 16 then (if is[n.toNat]? = some true then few[n.toNat]? else none) else (many.findIdx? (· = ⟨true, n⟩)).bind (by_[·]?)
structure HeldOk (few : List Int) (is : List Bool) (many : List Tm) (by_ : List Int) (σ : Int → Option Int) (m : Nat) : Prop where
  l1 : few.length = 16
  l2 : is.length = 16
  l3 : many.length = by_.length
  l4 : many.length ≤ m
  so : ∀ n, 0 ≤ n → sig few is many by_ n = σ n
theorem held_small {few : List Int} {is : List Bool} {many : List Tm} {by_ : List Int} {σ : Int → Option Int} {m : Nat} (h : HeldOk few is many by_ σ m) {n : Nat} (hn : n < 16) (x : Int) :
    HeldOk (few.set n x) (is.set n true) many by_ (upd σ n x) m := by
  refine ⟨by simp [h.l1], by simp [h.l2], h.l3, h.l4, fun k hk => ?_⟩
  unfold sig upd
  have h1 := h.l1
  have h2 := h.l2
  by_cases e : k = n
  · subst e
    simp [show ((n : Int) < 16) by omega, h1, h2, hn]
  · have hs := h.so k hk
    unfold sig at hs
    rw [if_neg e, ← hs]
    by_cases hk16 : k < 16
    · rw [if_pos hk16, if_pos hk16, List.getElem?_set_ne (by omega), List.getElem?_set_ne (by omega)]
    · rw [if_neg hk16, if_neg hk16]
theorem findIdx_app {l : List Tm} {x y : Tm} : (l ++ [y]).findIdx? (· = x) = match l.findIdx? (· = x) with | some j => some j | none => if y = x then some l.length else none := by
  rw [List.findIdx?_append]
  cases e : l.findIdx? (· = x) with
  | some j => simp
  | none =>
    by_cases q : y = x
    · simp [q, List.findIdx?_cons]
    · simp [q, List.findIdx?_cons]
theorem findIdx_lt {l : List Tm} {x : Tm} {j : Nat} (h : l.findIdx? (· = x) = some j) : j < l.length := by
  rw [List.findIdx?_eq_some_iff_getElem] at h
  exact h.1
theorem held_new {few : List Int} {is : List Bool} {many : List Tm} {by_ : List Int} {σ : Int → Option Int} {m : Nat} (h : HeldOk few is many by_ σ m) {n : Int} (hn : ¬ n < 16) (hf : many.findIdx? (· = ⟨true, n⟩) = none) (x : Int) :
    HeldOk few is (many ++ [⟨true, n⟩]) (by_ ++ [x]) (upd σ n x) (m + 1) := by
  refine ⟨h.l1, h.l2, by simp [h.l3], by have := h.l4; simp; omega, fun k hk => ?_⟩
  have hs := h.so k hk
  unfold sig at hs ⊢
  unfold upd
  by_cases hk16 : k < 16
  · rw [if_pos hk16] at hs ⊢
    rw [if_neg (show ¬ k = n by omega), ← hs]
  · rw [if_neg hk16] at hs ⊢
    rw [findIdx_app]
    by_cases e : k = n
    · subst e
      rw [hf, if_pos rfl]
      simp [h.l3]
    · rw [if_neg e, ← hs]
      cases e2 : many.findIdx? (· = ⟨true, k⟩) with
      | none =>
        have : ¬ (⟨true, n⟩ : Tm) = ⟨true, k⟩ := fun q => e (by cases q; rfl)
        simp [this]
      | some j =>
        have := findIdx_lt e2
        have h3 := h.l3
        simp only [Option.bind_some]
        rw [List.getElem?_append_left (by omega)]
/-- What the first one of some is that is like a term. -/
def idxT (l : List Tm) (x : Tm) : Int := match l.findIdx? (· = x) with | some j => (j : Int) | none => -1
theorem idxT_hit {l : List Tm} {x : Tm} {k : Nat} (hk : k < l.length) (hz : ∀ y ∈ l.take k, ¬ y = x) (e : l[k] = x) : l.findIdx? (· = x) = some k := by
  rw [List.findIdx?_eq_some_iff_getElem]
  refine ⟨hk, by simpa using e, fun j hj => ?_⟩
  have := hz l[j] (List.mem_take_iff_getElem.2 ⟨j, by omega, rfl⟩)
  simpa using this
theorem idxT_none {l : List Tm} {x : Tm} (hz : ∀ y ∈ l, ¬ y = x) : l.findIdx? (· = x) = none := by
  rw [List.findIdx?_eq_none_iff]
  intro y hy; simpa using hz y hy
theorem mem_take_next' {α : Type} {l : List α} {k : Nat} (hk : k < l.length) {P : α → Prop} (h : ∀ y ∈ l.take k, P y) (g : P l[k]) : ∀ y ∈ l.take (k + 1), P y := by
  rw [List.take_succ_eq_append_getElem hk]
  intro y hy
  rcases List.mem_append.1 hy with hy | hy
  · exact h y hy
  · simp at hy; subst hy; exact g
/-! ### pairs of places -/
/-- The reference's words. -/
def pairs (a : List Tm) (f : List Int) (i : Nat) : Prop := ∀ k t n, k < i → a[k]? = some t → f[k]? = some n → (t.v = false → t.n = n) ∧ ∀ j m, j < k → a[j]? = some t → f[j]? = some m → t.v = true → m = n
theorem mtch_pairs {a : Am} {f : Fa} (hp : a.p = f.p) (hl : a.a.length = f.a.length) (h : pairs a.a f.a a.a.length) : mtch a f = true := by
  unfold mtch
  rw [decide_eq_true_iff]
  let s : Int → Int := fun x => match a.a.findIdx? (· = ⟨true, x⟩) with
    | some j => f.a.getD j 0
    | none => 0
  refine Mt_of_fits (s := s) hp hl fun k t n hk ha hf => ?_
  obtain ⟨g1, g2⟩ := h k t n hk ha hf
  unfold tv
  cases hv : t.v with
  | false => simpa using g1 hv
  | true =>
    simp only [if_true]
    have ht : t = ⟨true, t.n⟩ := by cases t; simp_all
    cases e : a.a.findIdx? (· = (⟨true, t.n⟩ : Tm)) with
    | none =>
      rw [List.findIdx?_eq_none_iff] at e
      have := e t (List.mem_of_getElem? ha)
      simp [← ht] at this
    | some j =>
      show (match a.a.findIdx? (· = (⟨true, t.n⟩ : Tm)) with | some j => f.a.getD j 0 | none => 0) = n
      rw [e]
      rw [List.findIdx?_eq_some_iff_getElem] at e
      obtain ⟨hj, e1, e2⟩ := e
      have e1' : a.a[j] = t := by rw [ht]; simpa using e1
      rcases Nat.lt_trichotomy j k with q | q | q
      · show f.a.getD j 0 = n
        rw [List.getD_eq_getElem?_getD, List.getElem?_eq_getElem (by omega)]
        exact g2 j _ q (by rw [List.getElem?_eq_getElem hj, e1']) (List.getElem?_eq_getElem (by omega)) hv
      · subst q
        show f.a.getD j 0 = n
        simp [hf]
      · have := e2 k q
        rw [List.getElem?_eq_getElem (by omega)] at ha
        have ha' : a.a[k] = t := by simpa using ha
        rw [ha', ← ht] at this
        simp at this
theorem pairs_of {a : Am} {f : Fa} (h : mtch a f = true) (i : Nat) : pairs a.a f.a i := by
  unfold mtch at h
  rw [decide_eq_true_iff] at h
  obtain ⟨s, rfl⟩ := h
  intro k t n hk ha hf
  have h1 := fits_of_Mt (a := a) (s := s) (k + 1) k t n (by omega) ha hf
  refine ⟨fun hv => by simpa [tv, hv] using h1, fun j m hj ha2 hf2 hv => ?_⟩
  have h2 := fits_of_Mt (a := a) (s := s) (j + 1) j t m (by omega) ha2 hf2
  rw [← h1, ← h2]
/-! ### the cells -/
def hc (few : List Int) (is : List Bool) (tail : List Value) : List Value := few.map (Value.int .u32) ++ (is.map Value.bool ++ tail)
theorem hc_few {few : List Int} {is : List Bool} {tail : List Value} {j oo : Nat} (hj : j < few.length) (ho : oo = j) : (hc few is tail)[oo]? = some (.int .u32 few[j]) := by
  subst ho
  unfold hc
  rw [List.getElem?_append_left (by simpa using hj)]
  simp [hj]
theorem hc_is {few : List Int} {is : List Bool} {tail : List Value} {j oo : Nat} (hj : j < is.length) (ho : oo = few.length + j) : (hc few is tail)[oo]? = some (.bool is[j]) := by
  subst ho
  unfold hc
  rw [List.getElem?_append_right (by simp), List.getElem?_append_left (by simpa using hj)]
  simp [hj]
theorem hc_tail {few : List Int} {is : List Bool} {tail : List Value} {j oo : Nat} {v : Value} (hj : tail[j]? = some v) (ho : oo = few.length + (is.length + j)) : (hc few is tail)[oo]? = some v := by
  subst ho
  unfold hc
  rw [List.getElem?_append_right (by simp), List.getElem?_append_right (by simp)]
  simp [hj]
theorem putS_one {l : List Value} {n : Nat} {v : Value} (h : n < l.length) : putS n [v] l = l.set n v := by
  unfold putS
  rw [List.set_eq_take_append_cons_drop]
  simp [h]
theorem hc_put_few {few : List Int} {is : List Bool} {tail : List Value} {j oo : Nat} {x : Int} (hj : j < few.length) (ho : oo = j) : putL oo [.int .u32 x] (hc few is tail) = some (hc (few.set j x) is tail) := by
  subst ho
  have hl : (hc few is tail).length = few.length + (is.length + tail.length) := by simp [hc]
  rw [putL_put _ _ _ (by rw [hl]; simp; omega), putS_one (by rw [hl]; omega)]
  unfold hc
  rw [List.set_append_left _ _ (by simpa using hj), List.map_set]
theorem hc_put_is {few : List Int} {is : List Bool} {tail : List Value} {j oo : Nat} {x : Bool} (hj : j < is.length) (ho : oo = few.length + j) : putL oo [.bool x] (hc few is tail) = some (hc few (is.set j x) tail) := by
  subst ho
  have hl : (hc few is tail).length = few.length + (is.length + tail.length) := by simp [hc]
  rw [putL_put _ _ _ (by rw [hl]; simp; omega), putS_one (by rw [hl]; omega)]
  unfold hc
  rw [List.set_append_right _ _ (by simp), List.set_append_left _ _ (by simpa using hj), List.map_set]
  simp
theorem hc_put_tail {few : List Int} {is : List Bool} {tail : List Value} {j oo : Nat} {v : Value} (hj : j < tail.length) (ho : oo = few.length + (is.length + j)) : putL oo [v] (hc few is tail) = some (hc few is (tail.set j v)) := by
  subst ho
  have hl : (hc few is tail).length = few.length + (is.length + tail.length) := by simp [hc]
  rw [putL_put _ _ _ (by rw [hl]; simp; omega), putS_one (by rw [hl]; omega)]
  unfold hc
  rw [List.set_append_right _ _ (by simp), List.set_append_right _ _ (by simp)]
  simp
theorem tm_eq (x y : Tm) : (x.v == y.v && (decide (x.n = y.n) && true)) = decide (y = x) := by
  obtain ⟨a, b⟩ := x
  obtain ⟨c, d⟩ := y
  by_cases h1 : a = c
  · by_cases h2 : b = d
    · simp [h1, h2]
    · simp [h1, h2, Ne.symm h2, eq_comm]
  · simp [h1, Ne.symm h1]
theorem st_new {few : List Int} {is : List Bool} {σ : Int → Option Int} {j : Nat} {n : Int} (hj : j < 16) (f1 : few.length = 16) (f2 : is.length = 16) (f3 : (if is[j]? = some true then few[j]? else none) = σ j) (g : is[j] = false) :
    decide (σ (j : Int) = none ∨ σ (j : Int) = some n) = true := by
  rw [← f3, List.getElem?_eq_getElem (by omega), g]; simp
theorem st_old {few : List Int} {is : List Bool} {σ : Int → Option Int} {j : Nat} {n : Int} (hj : j < 16) (f1 : few.length = 16) (f2 : is.length = 16) (f3 : (if is[j]? = some true then few[j]? else none) = σ j) (g : is[j] = true) :
    decide (σ (j : Int) = none ∨ σ (j : Int) = some n) = decide (few[j] = n) := by
  rw [← f3, List.getElem?_eq_getElem (by omega), g, List.getElem?_eq_getElem (by omega)]; simp
theorem sig_big {few : List Int} {is : List Bool} {many : List Tm} {by_ : List Int} {σ : Int → Option Int} {m : Nat} (h : HeldOk few is many by_ σ m) {x : Int} (hx : 16 ≤ x) : (many.findIdx? (· = ⟨true, x⟩)).bind (by_[·]?) = σ x := by
  have := h.so x (by omega)
  rwa [sig, if_neg (by omega)] at this
theorem upd_same {σ : Int → Option Int} {x n : Int} (h : σ x = some n) : σ = upd σ x n := by
  funext k
  unfold upd
  split
  · rename_i e; rw [e, h]
  · rfl
theorem idx_yes {l : List Tm} {x : Tm} (h : 0 ≤ idxT l x) : ∃ k, l.findIdx? (· = x) = some k ∧ idxT l x = k ∧ k < l.length := by
  unfold idxT at h ⊢
  cases e : l.findIdx? (· = x) with
  | none => rw [e] at h; simp at h
  | some k => exact ⟨k, rfl, rfl, findIdx_lt e⟩
theorem idx_no {l : List Tm} {x : Tm} (h : ¬ 0 ≤ idxT l x) : l.findIdx? (· = x) = none := by
  unfold idxT at h
  cases e : l.findIdx? (· = x) with
  | none => rfl
  | some k => rw [e] at h; simp at h
theorem hc_put_a {few : List Int} {is : List Bool} {u v x : Value} {oo : Nat} (ho : oo = few.length + (is.length + 0)) : putL oo [x] (hc few is [u, v]) = some (hc few is [x, v]) := hc_put_tail (j := 0) (by simp) ho
theorem hc_put_b {few : List Int} {is : List Bool} {u v x : Value} {oo : Nat} (ho : oo = few.length + (is.length + 1)) : putL oo [x] (hc few is [u, v]) = some (hc few is [u, x]) := hc_put_tail (j := 1) (by simp) ho
theorem held_zero : HeldOk (List.replicate 16 0) (List.replicate 16 false) [] [] (fun _ => none) 0 := ⟨rfl, rfl, rfl, by simp, fun n hn => by
  unfold sig
  split
  · rw [List.getElem?_replicate]; split <;> simp
  · rfl⟩
theorem mtch_pair_no {a : Am} {f : Fa} {i j : Nat} (hj : j < i) (h1 : i < a.a.length) (h2 : i < f.a.length) (hv : a.a[i].v = true) (he : a.a[i] = a.a[j]) (hn : ¬ f.a[j] = f.a[i]) : mtch a f = false := by
  cases e : mtch a f with
  | false => rfl
  | true =>
    have := (pairs_of e (i + 1) i _ _ (by omega) (List.getElem?_eq_getElem h1) (List.getElem?_eq_getElem h2)).2 j f.a[j] hj (by rw [List.getElem?_eq_getElem (by omega), he]) (List.getElem?_eq_getElem (by omega)) hv
    exact absurd this hn
theorem pairs_next {a : List Tm} {f : List Int} {i : Nat} (h : pairs a f i) (h1 : i < a.length) (h2 : i < f.length) (g1 : a[i].v = false → a[i].n = f[i]) (g2 : ∀ j (hj : j < i), a[i].v = true → a[i] = a[j] → f[j] = f[i]) : pairs a f (i + 1) := by
  intro k t n hk ha hf
  rcases Nat.lt_or_ge k i with q | q
  · exact h k t n q ha hf
  · obtain rfl : k = i := by omega
    rw [List.getElem?_eq_getElem h1] at ha
    rw [List.getElem?_eq_getElem h2] at hf
    cases ha; cases hf
    refine ⟨g1, fun j m hj ha2 hf2 hv => ?_⟩
    rw [List.getElem?_eq_getElem (by omega)] at ha2 hf2
    simp only [Option.some.injEq] at ha2 hf2
    rw [← hf2]
    exact g2 j hj hv ha2.symm
/-! ### parts of lists -/
theorem filter_yes {α : Type} {p : α → Bool} {l : List α} {k : Nat} (hk : k < l.length) (h : p l[k] = true) : (l.take (k + 1)).filter p = (l.take k).filter p ++ [l[k]] := by
  rw [List.take_succ_eq_append_getElem hk, List.filter_append]; simp [h]
theorem filter_no {α : Type} {p : α → Bool} {l : List α} {k : Nat} (hk : k < l.length) (h : p l[k] = false) : (l.take (k + 1)).filter p = (l.take k).filter p := by
  rw [List.take_succ_eq_append_getElem hk, List.filter_append]; simp [h]
theorem filter_len {α : Type} (p : α → Bool) (l : List α) (k : Nat) : ((l.take k).filter p).length ≤ l.length := by
  have h1 := List.length_filter_le p (l.take k)
  rw [List.length_take] at h1
  omega
theorem same_no {l m : List Fa} {k : Nat} (h1 : k < l.length) (h2 : k < m.length) (h : ¬ cmpF l[k].p l[k].a m[k].p m[k].a = 0) : ¬ l = m := fun e => by
  subst e; exact h (cmpF_zero.2 rfl)
theorem same_yes {α : Type} {l m : List α} {k : Nat} (hl : l.length = m.length) (hk : l.length ≤ k) (h : l.take k = m.take k) : l = m := by
  rwa [List.take_of_length_le hk, List.take_of_length_le (by omega)] at h
def fewF (l : List Fa) : Bool := decide (l.length ≤ 300 ∧ ∀ x ∈ l, x.a.length ≤ 20)
theorem fewF_no1 {l : List Fa} (h : 300 < l.length) : fewF l = false := by unfold fewF; rw [decide_eq_false_iff_not]; rintro ⟨g, _⟩; omega
theorem fewF_no2 {l : List Fa} {k : Nat} (hk : k < l.length) (h : 20 < l[k].a.length) : fewF l = false := by
  unfold fewF; rw [decide_eq_false_iff_not]; rintro ⟨_, g⟩; have := g _ (List.getElem_mem hk); omega
theorem fewF_yes {l : List Fa} (h : l.length ≤ 300) (g : ∀ x ∈ l, x.a.length ≤ 20) : fewF l = true := by unfold fewF; rw [decide_eq_true_iff]; exact ⟨h, g⟩
theorem fewF_iff {l : List Fa} : fewF l = true ↔ l.length ≤ 300 ∧ ∀ x ∈ l, x.a.length ≤ 20 := by unfold fewF; rw [decide_eq_true_iff]
/-- An atom without variables. -/
def lift (q : Fa) : Am := ⟨q.p, q.a.map fun n => ⟨false, n⟩⟩
theorem lift_len (q : Fa) : (lift q).a.length = q.a.length := by simp [lift]
theorem lift_next {q : Fa} {k : Nat} (hk : k < q.a.length) : (lift q).a.take k ++ [⟨false, q.a[k]⟩] = (lift q).a.take (k + 1) := by
  rw [List.take_succ_eq_append_getElem (by rw [lift_len]; exact hk)]
  simp [lift]
end Go.Proofs.YtkhddfknpegpmaaGreat.SL

/- Plain laws of sets of facts: what the statements of stage 10 say of them. -/
set_option linter.unusedVariables false
set_option linter.unusedSimpArgs false
namespace Go.Proofs.YtkhddfknpegpmaaGreat.SL
theorem mem_less {a b : List Fa} {x : Fa} : x ∈ less a b ↔ x ∈ a ∧ ¬ x ∈ b := by simp [less]
theorem rises_less {a : List Fa} (h : rises a) (b : List Fa) : rises (less a b) := rises_filter h _
theorem less_len (a b : List Fa) : (less a b).length ≤ a.length := List.length_filter_le _ _
theorem less_nil (a : List Fa) : less a [] = a := by simp [less]
theorem less_self (a : List Fa) : less a a = [] := by
  unfold less; rw [List.filter_eq_nil_iff]; intro x hx; simp [hx]
noncomputable def cuts (z l : List Fa) : List Fa := l.foldl fcut z
theorem cuts_next {z l : List Fa} {k : Nat} (hk : k < l.length) : cuts z (l.take (k + 1)) = fcut (cuts z (l.take k)) l[k] := by
  unfold cuts; rw [List.take_succ_eq_append_getElem hk, List.foldl_append]; rfl
theorem cuts_rises : ∀ (l z : List Fa), rises z → rises (cuts z l)
  | [], _, h => h
  | x :: l, z, h => cuts_rises l _ (rises_fcut h x)
theorem cuts_len : ∀ (l z : List Fa), (cuts z l).length ≤ z.length
  | [], _ => Nat.le_refl _
  | x :: l, z => Nat.le_trans (cuts_len l _) (fcut_len z x)
theorem mem_cuts : ∀ (l : List Fa) {z : List Fa}, rises z → ∀ x, x ∈ cuts z l ↔ x ∈ z ∧ ¬ x ∈ l
  | [], z, h, x => by simp [cuts]
  | y :: l, z, h, x => by
    have := mem_cuts l (rises_fcut h y) x
    unfold cuts at this ⊢
    rw [List.foldl_cons, this, mem_fcut h, List.mem_cons, not_or, and_assoc]
theorem cuts_none {a b : List Fa} : cuts (less (fof a) b) a = [] := by
  rw [List.eq_nil_iff_forall_not_mem]
  intro x hx
  rw [mem_cuts a (rises_less (rises_fof a) b), mem_less, mem_fof] at hx
  exact hx.2 hx.1.1
theorem fput_ge (l : List Fa) (q : Fa) : l.length ≤ (fput l q).length := by
  by_cases h : q ∈ l
  · rw [fput_yes h]; exact Nat.le_refl _
  · rw [fput_no h]; simp; omega
theorem fput_has (l : List Fa) (q : Fa) : q ∈ fput l q := mem_fput.2 (.inl rfl)
theorem fcut_has {l : List Fa} (h : rises l) (q : Fa) : ¬ q ∈ fcut l q := fun c => ((mem_fcut h).1 c).2 rfl
theorem rises_at {l : List Fa} (h : rises l) {j k : Nat} (hj : j < k) (hk : k < l.length) : cF l[j] l[k] < 0 := List.pairwise_iff_getElem.1 h j k (by omega) hk hj
theorem ap_lift (s : Int → Int) (q : Fa) : ap s (lift q) = q := by
  obtain ⟨p, a⟩ := q
  simp [ap, lift, tv, Function.comp_def]
theorem mtch_lift (q f : Fa) : mtch (lift q) f = decide (f = q) := by
  unfold mtch
  rw [decide_eq_decide]
  constructor
  · rintro ⟨s, h⟩; rw [ap_lift] at h; exact h
  · rintro rfl; exact ⟨fun _ => 0, (ap_lift _ _).symm⟩
theorem rises_nodup {l : List Fa} (h : rises l) : l.Nodup := List.Pairwise.imp (fun {a b} g e => by subst e; rw [cF_zero.2 rfl] at g; omega) h
theorem find_lift {l : List Fa} (h : rises l) {q : Fa} (hq : q ∈ l) : l.filter (mtch (lift q)) = [q] := by
  have e : l.filter (mtch (lift q)) = l.filter (fun f => f == q) := by
    apply List.filter_congr
    intro f _
    rw [mtch_lift]
    by_cases g : f = q <;> simp [g]
  rw [e]
  refine rises_ext (rises_filter h _) (by unfold rises; simp) fun x => ?_
  simp only [List.mem_filter, beq_iff_eq, List.mem_singleton]
  exact ⟨fun g => g.2, fun g => ⟨g ▸ hq, g⟩⟩
theorem filter_at {α : Type} {p : α → Bool} {l : List α} {k : Nat} (hk : k < l.length) (h : p l[k] = true) : ((l.take k).filter p).length < (l.filter p).length ∧ (l.filter p)[((l.take k).filter p).length]? = some l[k] := by
  have e : l.filter p = (l.take k).filter p ++ (l[k] :: (l.drop (k + 1)).filter p) := by
    conv => lhs; rw [← List.take_append_drop k l, List.drop_eq_getElem_cons hk, List.filter_append, List.filter_cons_of_pos h]
  rw [e]
  constructor
  · simp
  · simp
/-- The atom of so many unlike variables. -/
def loose (p : Int) (n : Nat) : Am := ⟨p, (List.range n).map fun (i : Nat) => (⟨true, (i : Int)⟩ : Tm)⟩
theorem mtch_loose (p : Int) (n : Nat) (f : Fa) : mtch (loose p n) f = decide (f.p = p ∧ f.a.length = n) := by
  unfold mtch
  rw [decide_eq_decide]
  constructor
  · intro h; have := h.pred; simp [loose] at this; exact ⟨this.1.symm, this.2.symm⟩
  · rintro ⟨h1, h2⟩
    refine Mt_of_fits (s := fun x => f.a.getD x.toNat 0) (by simp [loose, h1]) (by simp [loose, h2]) fun k t m hk ha hf => ?_
    simp only [loose, List.length_map, List.length_range] at hk
    simp only [loose, List.getElem?_map, List.getElem?_range hk, Option.map_some, Option.some.injEq] at ha
    subst ha
    simp [tv, hf]
theorem loose_next (p : Int) (n : Nat) : (loose p (n + 1)).a = (loose p n).a ++ [⟨true, (n : Int)⟩] := by simp [loose, List.range_succ]
theorem loose_len (p : Int) (n : Nat) : (loose p n).a.length = n := by simp [loose]
/-! ### algebra -/
theorem less_less (a b c : List Fa) : less (less a b) c = less (less a c) b := by
  unfold less; rw [List.filter_filter, List.filter_filter]; congr 1; funext x; rw [Bool.and_comm]
theorem less_both {a b c : List Fa} : less (less a (fof b)) (fof c) = less a (fof (b ++ c)) := by
  unfold less
  rw [List.filter_filter]
  apply List.filter_congr
  intro x _
  by_cases h1 : x ∈ b <;> by_cases h2 : x ∈ c <;> simp [mem_fof, h1, h2]
theorem less_common {a b : List Fa} (ha : rises a) (hb : rises b) : less a (less a b) = less b (less b a) := by
  refine rises_ext (rises_less ha _) (rises_less hb _) fun x => ?_
  simp only [mem_less]
  by_cases h1 : x ∈ a <;> by_cases h2 : x ∈ b <;> simp [h1, h2]
theorem mem_common {a b : List Fa} {x : Fa} (h : x ∈ less a (less a b)) : x ∈ a ∧ x ∈ b := by
  simp only [mem_less] at h
  by_cases h1 : x ∈ a <;> by_cases h2 : x ∈ b <;> simp_all
theorem len_common (a b : List Fa) : a.length = (less a (less a b)).length + (less a b).length := by
  have e : less a (less a b) = a.filter (fun x => decide (x ∈ b)) := by
    unfold less
    apply List.filter_congr
    intro x hx
    by_cases h2 : x ∈ b <;> simp [h2, hx]
  rw [e]
  unfold less
  clear e
  induction a with
  | nil => rfl
  | cons x a ih =>
    by_cases h : x ∈ b
    · simp only [List.filter_cons, h, decide_true, if_true, List.length_cons, Bool.not_true, Bool.false_eq_true, if_false]; omega
    · simp only [List.filter_cons, h, decide_false, if_true, List.length_cons, Bool.not_false, Bool.false_eq_true, if_false]; omega
theorem wrap32 {n : Int} (h : 0 ≤ n ∧ n < 4294967296) : IntKind.u32.wrap n = n := by
  unfold IntKind.wrap IntKind.signed IntKind.bits
  simp
  omega
theorem cmpF_self (p : Int) (a : List Int) : cmpF p a p a = 0 := cmpF_zero (x := ⟨p, a⟩) |>.2 rfl
structure Fine (l : List Fa) : Prop where
  r : rises l
  n : l.length ≤ 1000000
  b : ∀ x ∈ l, x.a.length ≤ 100000
theorem Fine.less {a : List Fa} (h : Fine a) (b : List Fa) : Fine (less a b) := ⟨rises_less h.r b, Nat.le_trans (less_len _ _) h.n, fun x hx => h.b x (mem_less.1 hx).1⟩
theorem Fine.nil : Fine [] := ⟨rises_nil, by simp, by simp⟩
theorem Fine.fof {l : List Fa} (h1 : l.length ≤ 1000000) (h2 : ∀ x ∈ l, x.a.length ≤ 100000) : Fine (fof l) := ⟨rises_fof l, Nat.le_trans (fof_len l) h1, fun x hx => h2 x (mem_fof.1 hx)⟩
theorem Fine.few {l : List Fa} (h : fewF l = true) : Fine (SL.fof l) := by
  obtain ⟨h1, h2⟩ := fewF_iff.1 h
  exact Fine.fof (by omega) (fun x hx => Nat.le_trans (h2 x hx) (by omega))
/-- One list holds only what is in another, each at most once. -/
theorem nodup_len : ∀ {a b : List Fa}, a.Nodup → (∀ x ∈ a, x ∈ b) → a.length ≤ b.length
  | [], _, _, _ => by simp
  | x :: a, b, hn, h => by
    rw [List.nodup_cons] at hn
    have hx := h x (.head _)
    have h1 := nodup_len (a := a) (b := b.erase x) hn.2 fun y hy => (List.mem_erase_of_ne (by rintro rfl; exact hn.1 hy)).2 (h y (.tail _ hy))
    rw [List.length_erase_of_mem hx] at h1
    have : 0 < b.length := List.length_pos_of_mem hx
    simp only [List.length_cons]; omega
theorem sub_len {a b : List Fa} (ha : rises a) (h : ∀ x ∈ a, x ∈ b) : a.length ≤ b.length := nodup_len (rises_nodup ha) h
theorem fof_all {l s : List Fa} (h : rises s) (h1 : ∀ x ∈ s, x ∈ l) (h2 : ∀ x ∈ l, x ∈ s) : s = fof l := rises_ext h (rises_fof l) fun x => ⟨fun hx => mem_fof.2 (h1 x hx), fun hx => h2 x (mem_fof.1 hx)⟩
theorem rem_idx {x : Int} {n : Nat} (hx : 0 ≤ x) (hn : 0 < n) : ∃ j : Nat, j < n ∧ x.tmod (n : Int) = (j : Int) := by
  obtain ⟨m, rfl⟩ := Int.eq_ofNat_of_zero_le hx
  exact ⟨m % n, Nat.mod_lt _ hn, tmod_cast m n⟩
theorem in_next_yes {l : List Fa} {x : Fa} {j : Nat} (h : x ∈ l.take j) : decide (x ∈ l.take (j + 1)) = true := by
  rw [decide_eq_true_iff]; exact (List.take_sublist_take_left (by omega)).subset h
theorem in_next_no {l : List Fa} {x : Fa} {j : Nat} (hj : j < l.length) (h : ¬ x ∈ l.take j) : decide (x ∈ l.take (j + 1)) = decide (cmpF l[j].p l[j].a x.p x.a = 0) := by
  rw [List.take_succ_eq_append_getElem hj, decide_eq_decide, List.mem_append, List.mem_singleton]
  constructor
  · rintro (q | q)
    · exact absurd q h
    · rw [q]; exact cmpF_self _ _
  · intro q; exact .inr (cmpF_zero.1 q).symm
theorem lift_ok {x : Fa} (h : x.ok) : ∀ t ∈ (lift x).a, 0 ≤ t.n := fun t ht => by
  simp only [lift, List.mem_map] at ht
  obtain ⟨n, hn, rfl⟩ := ht
  exact (h.2 n hn).1
theorem drop_in {l s : List Fa} {j : Nat} (h0 : 0 < j) (hj : j - 1 < l.length) (h : ∀ y ∈ l.drop j, y ∈ s) : ∀ y ∈ l.drop (j - 1), y ∈ fput (fput s l[j - 1]) l[j - 1] := by
  rw [List.drop_eq_getElem_cons hj, show j - 1 + 1 = j by omega]
  intro y hy
  rcases List.mem_cons.1 hy with rfl | hy
  · exact fput_has _ _
  · exact mem_fput.2 (.inr (mem_fput.2 (.inr (h y hy))))
/-- Of the predicate, and as long. -/
def isOf (t : Am) (f : Fa) : Bool := decide (f.p = t.p ∧ f.a.length = t.a.length)
theorem loose_is {t : Am} : mtch (loose t.p t.a.length) = isOf t := by funext f; rw [mtch_loose]; rfl
theorem isOf_yes {t : Am} {f : Fa} (h : f.p = t.p) (g : (f.a.length : Int) = t.a.length) : isOf t f = true := by unfold isOf; rw [decide_eq_true_iff]; exact ⟨h, by omega⟩
theorem isOf_no {t : Am} {f : Fa} (h : f.p = t.p) (g : ¬ (f.a.length : Int) = t.a.length) : isOf t f = false := by unfold isOf; rw [decide_eq_false_iff_not]; rintro ⟨_, q⟩; omega
theorem isOf_no' {t : Am} {f : Fa} (h : ¬ f.p = t.p) : isOf t f = false := by unfold isOf; rw [decide_eq_false_iff_not]; rintro ⟨q, _⟩; exact h q
theorem loose_ok (p : Int) (n : Nat) : ∀ t ∈ (loose p n).a, 0 ≤ t.n := fun t ht => by
  simp only [loose, List.mem_map] at ht
  obtain ⟨n, _, rfl⟩ := ht
  simp
end Go.Proofs.YtkhddfknpegpmaaGreat.SL

/- Lists of facts that are owned through and through: read, lent, and written over. -/
set_option linter.unusedVariables false
set_option linter.unusedSimpArgs false
namespace Go.Proofs.YtkhddfknpegpmaaGreat.SL
/-- Such a list, its cells known. -/
def Dlc (e : Nat) (A : Option Addr) (c : Nat) (xs : List Fa) (cs : List Value) (ho : Heap) : Prop := ∃ h1 h2 : Heap, h1.le ho ∧ h2.le ho ∧ h1.dj h2 ∧ Row e tFa.size A xs.length c cs h1 ∧ Reps tFa h2 xs cs ∧ Wr h2
def dlc (e : Nat) (A : Option Addr) (c : Nat) (xs : List Fa) (cs : List Value) : OA := ⟨fun _ ho => Dlc e A c xs cs ho, fun _ q => q⟩
theorem free_dlc {e : Nat} {A : Option Addr} {c : Nat} {xs : List Fa} {cs : List Value} : (dlc e A c xs cs).free := fun _ _ _ h => h
/-- The cells of an element. -/
def cell2 (cs : List Value) (j : Nat) (x : Fa) (A : Option Addr) (c : Nat) : Prop := cs[j * 2]? = some (.int .u32 x.p) ∧ cs[j * 2 + 1]? = some (.slice A x.a.length c)
theorem Reps.cell2 {h : Heap} {xs : List Fa} {cs : List Value} (r : Reps tFa h xs cs) {j : Nat} {x : Fa} (hj : xs[j]? = some x) : ∃ A c, SL.cell2 cs j x A c ∧ Sl tU h A c x.a := by
  obtain ⟨ds, h1, h2⟩ := r.at j x hj
  obtain ⟨A, c, rfl, s⟩ := tFa_open h1
  exact ⟨A, c, ⟨h2 0 _ rfl, h2 1 _ rfl⟩, s⟩
theorem cell2_eq {cs : List Value} {j : Nat} {x y : Fa} {A B : Option Addr} {c d : Nat} (h : cell2 cs j x A c) (g : cell2 cs j y B d) : B = A ∧ y.a.length = x.a.length ∧ d = c := by
  have := g.2.symm.trans h.2
  simp only [Option.some.injEq, Value.slice.injEq] at this
  exact this
section
variable {C : Ctx} {k : List It} {E : Env} {Ps : List PA} {Os : List OA}
theorem go_dlc {e : Nat} {A : Option Addr} {c : Nat} {xs : List Fa} {rr : List OA} (h : Rem (dl tFa e A c xs) Os rr) (g : ∀ cs, Go C k E Ps (dlc e A c xs cs :: rr)) : Go C k E Ps Os := fun a w hp ho hf hs hb => by
  obtain ⟨g1, g2, i, b, d, ⟨cs, h1, h2, x1, x2, x3, x4, x5, x6⟩, e⟩ := Sep.rem h hs.os
  exact g cs a w hp ho hf ⟨hs.inp, hs.ino, hs.dj, hs.ps, g1, g2, i, b, d, ⟨h1, h2, x1, x2, x3, x4, x5, x6⟩, e⟩ hb
theorem go_undlc {e : Nat} {A : Option Addr} {c : Nat} {xs : List Fa} {cs : List Value} {rr : List OA} (h : Rem (dlc e A c xs cs) Os rr) (g : Go C k E Ps (dl tFa e A c xs :: rr)) : Go C k E Ps Os :=
  go_imp _ [dl tFa e A c xs] h (fun _ _ ⟨h1, h2, q⟩ => sep_one ⟨cs, h1, h2, q⟩) g
theorem go_dlc_at {e : Nat} {A : Option Addr} {c : Nat} {xs : List Fa} {cs : List Value} {rr : List OA} (h : Rem (dlc e A c xs cs) Os rr) (j : Nat) {x : Fa} (hj : xs[j]? = some x) (g : ∀ b A' c', A = some ⟨b, 0, none⟩ → cell2 cs j x A' c' → x.a.length ≤ 9223372036854775807 → Go C k E Ps Os) : Go C k E Ps Os :=
  go_ofact (φ := ∃ b A' c', A = some ⟨b, 0, none⟩ ∧ cell2 cs j x A' c' ∧ x.a.length ≤ 9223372036854775807) _ h (fun _ _ ⟨h1, h2, x1, x2, x3, x4, x5, x6⟩ => by
    obtain ⟨A', c', q1, q2⟩ := x5.cell2 hj
    rcases x4.2.2.2 with q | ⟨b, _, q, _⟩
    · have := (List.getElem?_eq_some_iff.1 hj).1; omega
    · exact ⟨b, A', c', q, q1, by have h1 := q2.1; have h2 := q2.2.1; simp only [maxLen] at h2; omega⟩) fun ⟨b, A', c', q1, q2, q3⟩ => g b A' c' q1 q2 q3
theorem at_dlc {e b c o n : Nat} {xs : List Fa} {cs out : List Value} {rr : List OA} (h : Rem (dlc e (some ⟨b, 0, none⟩) c xs cs) Os rr) (hl : out.length = n) (h3 : ∀ i v, out[i]? = some v → cs[o + i]? = some v) : At Ps Os b (0 + o) n out :=
  ⟨hl, fun w hp ho hs i v hv => by
    obtain ⟨h1, l1, g1, g2, x1, x2, x3, x4, x5, x6⟩ := h.sep hs.os
    have hv2 := h3 i v hv
    rcases x4.2.2.2 with q | ⟨g, cur, q1, q2, q3, q4⟩
    · have : cs = [] := List.eq_nil_of_length_eq_zero (by rw [x4.1, q.1]; simp)
      subst this; simp at hv2
    · cases q1
      refine cellH_world (cellH_le ((x1.tr l1).tr hs.ino) ?_)
      simp only [cellH, q2]
      rw [← q4, List.getElem?_take] at hv2
      split at hv2
      · rw [← Array.getElem?_toList, Nat.zero_add]; exact hv2
      · cases hv2⟩
theorem at_fa {e b c j p : Nat} {x : Fa} {A' : Option Addr} {c' : Nat} {xs : List Fa} {cs : List Value} {rr : List OA} (h : Rem (dlc e (some ⟨b, 0, none⟩) c xs cs) Os rr) (q : cell2 cs j x A' c') (hp : p = 0 + j * 2) : At Ps Os b p 2 [.int .u32 x.p, .slice A' x.a.length c'] := by
  subst hp
  exact at_dlc h rfl (fun i v hv => by
    match i, hv with
    | 0, hv => simp at hv; subst hv; exact q.1
    | 1, hv => simp at hv; subst hv; exact q.2)
theorem at_fa1 {e b c j p : Nat} {x : Fa} {A' : Option Addr} {c' : Nat} {xs : List Fa} {cs : List Value} {rr : List OA} (h : Rem (dlc e (some ⟨b, 0, none⟩) c xs cs) Os rr) (q : cell2 cs j x A' c') (hp : p = 0 + (j * 2 + 1)) : At Ps Os b p 1 [.slice A' x.a.length c'] := by
  subst hp
  exact at_dlc h rfl (fun i v hv => by
    match i, hv with
    | 0, hv => simp at hv; subst hv; exact q.2)
end
/-- What an element's Args are, read in such a list. -/
theorem lend_dlc {e : Nat} {A : Option Addr} {c : Nat} {xs : List Fa} {cs : List Value} {j : Nat} {x : Fa} {A' : Option Addr} {c' : Nat} (hj : xs[j]? = some x) (q : cell2 cs j x A' c') : ∀ hp h1 H, hp.le H → h1.le H → (dlc e A c xs cs).p hp h1 → (sl tU A' c' x.a).p H := fun hp h1 H _ l2 ⟨g1, g2, x1, x2, x3, x4, x5, x6⟩ => by
  obtain ⟨A2, c2, q1, q2⟩ := x5.cell2 hj
  have := q1.2.symm.trans q.2
  simp only [Option.some.injEq, Value.slice.injEq] at this
  obtain ⟨rfl, _, rfl⟩ := this
  exact q2.up (x2.tr l2)
/-! ### written over -/
def shc (e : Nat) (A : Option Addr) (c n : Nat) (cs : List Value) : OA := ⟨fun _ ho => ∃ xs : List Fa, xs.length = n ∧ Dlc e A c xs cs ho, fun _ q => q⟩
theorem Sl.over {h h' : Heap} {A : Option Addr} {c : Nat} {xs : List Int} (s : Sl tU h A c xs) (hc : ∀ b i v, cellH h b i = some (.int .u32 v) → ∃ v', cellH h' b i = some (.int .u32 v')) : ∃ ys : List Int, ys.length = xs.length ∧ Sl tU h' A c ys := by
  obtain ⟨s1, s2, s3, s4⟩ := s
  have key : ∀ n, n ≤ xs.length → ∃ ys : List Int, ys.length = n ∧ ∀ j x, ys[j]? = some x → ∃ b o cs, A = some ⟨b, o, none⟩ ∧ tU.rep h' x cs ∧ ∀ i v, cs[i]? = some v → cellH h' b (o + (j * tU.size + i)) = some v := by
    intro n
    induction n with
    | zero => exact fun _ => ⟨[], rfl, fun j x hj => by simp at hj⟩
    | succ n ih =>
      intro hn
      obtain ⟨ys, h1, h2⟩ := ih (by omega)
      obtain ⟨b, o, cs, e, r, hcs⟩ := s4 n _ (List.getElem?_eq_getElem (by omega))
      have r' : cs = [.int .u32 xs[n]] := r
      subst r'
      obtain ⟨v', hv'⟩ := hc _ _ _ (hcs 0 _ rfl)
      refine ⟨ys ++ [v'], by simp [h1], fun j x hj => ?_⟩
      rw [List.getElem?_append] at hj
      split at hj
      · exact h2 j x hj
      · rename_i hlt
        have : j = n := by
          rcases Nat.lt_or_ge j (n + 1) with q | q
          · omega
          · rw [List.getElem?_eq_none (by simp; omega)] at hj; cases hj
        subst this
        simp [h1] at hj
        subst hj
        exact ⟨b, o, _, e, rfl, fun i v hi => by
          cases i with
          | zero => simp at hi; subst hi; exact hv'
          | succ i => simp at hi⟩
  obtain ⟨ys, h1, h2⟩ := key xs.length (Nat.le_refl _)
  exact ⟨ys, h1, by rw [h1]; exact s1, s2, s3, h2⟩
theorem Reps.over {h h' : Heap} (hc : ∀ b i v, cellH h b i = some (.int .u32 v) → ∃ v', cellH h' b i = some (.int .u32 v')) : ∀ {xs : List Fa} {cs : List Value}, Reps tFa h xs cs → ∃ ys : List Fa, ys.length = xs.length ∧ Reps tFa h' ys cs
  | [], cs, r => ⟨[], rfl, r⟩
  | x :: xs, _, ⟨a, b, e, r, s⟩ => by
    obtain ⟨A, c, rfl, sx⟩ := tFa_open r
    obtain ⟨ys, h1, h2⟩ := Reps.over hc s
    obtain ⟨zs, h3, h4⟩ := sx.over hc
    exact ⟨⟨x.p, zs⟩ :: ys, by simp [h1], _, _, e, by rw [← h3]; exact tFa_mk (x := ⟨x.p, zs⟩) h4, h2⟩
section
variable {C : Ctx} {k : List It} {E : Env} {Ps : List PA} {Os : List OA}
variable {o : Oper} {ops : Array Oper} {S : World → Prop} {r : Pl} {f : Bool}
theorem go_shc {e : Nat} {A : Option Addr} {c n : Nat} {cs : List Value} {rr : List OA} (h : Rem (shc e A c n cs) Os rr) (g : ∀ xs, xs.length = n → Go C k E Ps (dlc e A c xs cs :: rr)) : Go C k E Ps Os := fun a w hp ho hf hs hb => by
  obtain ⟨g1, g2, i, b, d, ⟨xs, q1, q2⟩, e⟩ := Sep.rem h hs.os
  exact g xs q1 a w hp ho hf ⟨hs.inp, hs.ino, hs.dj, hs.ps, g1, g2, i, b, d, q2, e⟩ hb
theorem go_unshc {e : Nat} {A : Option Addr} {c n : Nat} {xs : List Fa} {cs : List Value} {rr : List OA} (h : Rem (dlc e A c xs cs) Os rr) (hn : xs.length = n) (g : Go C k E Ps (shc e A c n cs :: rr)) : Go C k E Ps Os :=
  go_imp _ [shc e A c n cs] h (fun _ _ q => sep_one ⟨xs, hn, q⟩) g
/-- A symbol in such a list. -/
theorem Dlc.arg {e : Nat} {A : Option Addr} {c : Nat} {xs : List Fa} {cs : List Value} {ho : Heap} (d : Dlc e A c xs cs ho) {j m : Nat} {x : Fa} {A' : Option Addr} {c' : Nat} (hj : xs[j]? = some x) (q : cell2 cs j x A' c') (hm : m < x.a.length) :
    ∃ (h1 h2 : Heap) (b o : Nat) (cur : Array Value) (ty : TypeId), A' = some ⟨b, o, none⟩ ∧ h1.le ho ∧ h2.le ho ∧ h1.dj h2 ∧ Row e tFa.size A xs.length c cs h1 ∧ Reps tFa h2 xs cs ∧ Wr h2 ∧ h2 b = some (.cells cur ty (0, 0)) ∧ cur[o + m]? = some (.int .u32 x.a[m]) := by
  obtain ⟨h1, h2, x1, x2, x3, x4, x5, x6⟩ := d
  obtain ⟨A2, c2, q1, q2⟩ := x5.cell2 hj
  have := q1.2.symm.trans q.2
  simp only [Option.some.injEq, Value.slice.injEq] at this
  obtain ⟨rfl, _, rfl⟩ := this
  obtain ⟨b, o, ds, e1, r, hc⟩ := q2.2.2.2 m _ (List.getElem?_eq_getElem hm)
  have r' : ds = [.int .u32 x.a[m]] := r
  subst r'
  have h0 := hc 0 _ rfl
  have hs1 : tU.size = 1 := rfl
  rw [hs1, Nat.mul_one, Nat.add_zero] at h0
  unfold cellH at h0
  split at h0
  · rename_i cur ty z hb
    obtain ⟨c3, ty3, e3⟩ := x6 _ _ hb
    cases e3
    exact ⟨h1, h2, b, o, cur, ty, e1, x1, x2, x3, x4, x5, x6, hb, h0⟩
  · cases h0
theorem go_arg_at {e : Nat} {A : Option Addr} {c : Nat} {xs : List Fa} {cs : List Value} {rr : List OA} (h : Rem (dlc e A c xs cs) Os rr) {j m : Nat} {x : Fa} {A' : Option Addr} {c' : Nat} (hj : xs[j]? = some x) (q : cell2 cs j x A' c') (hm : m < x.a.length) (g : ∀ b o, A' = some ⟨b, o, none⟩ → Go C k E Ps Os) : Go C k E Ps Os :=
  go_ofact (φ := ∃ b o, A' = some ⟨b, o, none⟩) _ h (fun hp h1 d => by
    obtain ⟨_, _, b, o, _, _, q, _⟩ := Dlc.arg d hj q hm
    exact ⟨b, o, q⟩) fun ⟨b, o, q⟩ => g b o q
theorem at_arg {e : Nat} {A : Option Addr} {c : Nat} {xs : List Fa} {cs : List Value} {rr : List OA} (h : Rem (dlc e A c xs cs) Os rr) {j m b oo p : Nat} {x : Fa} {c' : Nat} (hj : xs[j]? = some x) (q : cell2 cs j x (some ⟨b, oo, none⟩) c') (hm : m < x.a.length) (hp : p = oo + m) : At Ps Os b p 1 [.int .u32 x.a[m]] := by
  subst hp
  refine ⟨rfl, fun w hp ho hs i v hv => ?_⟩
  obtain ⟨h1, l1, d⟩ := h.sep hs.os
  obtain ⟨g1, g2, b2, o2, cur, ty, e1, y1, y2, y3, y4, y5, y6, y7, y8⟩ := Dlc.arg d hj q hm
  cases e1
  cases i with
  | zero =>
    simp at hv; subst hv
    refine cellH_world (cellH_le ((y2.tr l1).tr hs.ino) ?_)
    simp only [cellH, y7, Nat.add_zero]
    exact y8
  | succ i => simp at hv
/-- A symbol written over: what is there then is some list in the same cells. -/
theorem go_store_arg {tb : TB} (ht : TOk C.P tb) {t : TypeId} {x y : Operand} {i : TI} {b oo p : Nat} {v : Int} {e : Nat} {A : Option Addr} {c : Nat} {xs : List Fa} {cs : List Value} {rr : List OA} (ho : o.op = .store t x y) (hw : wants ops E o = some true)
    (hx : ev E x = some (.pointer (some ⟨b, p, none⟩))) (hy : ev E y = some (.int .u32 v)) (hi : lookT tb t = some i) (hi1 : i.size = 1) (hd : okDst C.N o.dst = true) (h : Rem (dlc e A c xs cs) Os rr) {j m : Nat} {f0 : Fa} {c' : Nat} (hj : xs[j]? = some f0) (q : cell2 cs j f0 (some ⟨b, oo, none⟩) c') (hm : m < f0.a.length) (hp : p = oo + m)
    (hS : f = true → ∀ w hp ho, Sat w hp ho Ps (shc e A c xs.length cs :: rr) → S w)
    (g : Go C (.ops ops S r :: k) (setE o.dst undef E) Ps (shc e A c xs.length cs :: rr)) : Go C (.ops ops S (.one 0 f o r) :: k) E Ps Os := by
  subst hp
  refine go_effU Ps (shc e A c xs.length cs :: rr) hw hd (fun a w hp ho' hf hs hb => ?_) hS g
  obtain ⟨h1, h2, a1, b1, c1, d1, e1⟩ := Sep.rem h hs.os
  obtain ⟨g1, g2, b2, o2, cur, ty, ee, y1, y2, y3, y4, y5, y6, y7, y8⟩ := Dlc.arg d1 hj q hm
  cases ee
  have hb1 : h1 b = some (.cells cur ty (0, 0)) := y2 _ _ y7
  have hbo := a1 _ _ hb1
  have hbw : w.heap[b]? = some (.cells cur ty (0, 0)) := hs.ino _ _ hbo
  have hlt : b < w.heap.size := (Array.getElem?_eq_some_iff.1 hbw).1
  have hidx : oo + m < cur.size := (Array.getElem?_eq_some_iff.1 y8).1
  let ob : Obj := .cells (cur.setIfInBounds (oo + m) (.int .u32 v)) ty (0, 0)
  have hob : ob = .cells (cur.setIfInBounds (oo + m) (.int .u32 v)) ty (0, 0) := rfl
  have other : ∀ hh : Heap, hh.le (hpOf w) → hh b = none → hh.le (hpOf { w with heap := w.heap.setIfInBounds b ob }) := fun hh hl hn z u e => by
    have hz : z ≠ b := fun q => by subst q; rw [hn] at e; cases e
    have := hl _ _ e
    simp only [hpOf] at this ⊢
    rw [Array.getElem?_setIfInBounds_ne (Ne.symm hz)]
    exact this
  have n2 : h2 b = none := by rcases c1 b with q | q; · rw [hb1] at q; cases q
                              · exact q
  have np : hp b = none := by rcases hs.dj b with q | q; · exact q
                              · rw [hbo] at q; cases q
  have nf : C.hf b = none := by rcases hb.djo b with q | q; · exact q
                                · rw [hbo] at q; cases q
  have ng : g1 b = none := by rcases y3 b with q | q; · exact q
                              · rw [y7] at q; cases q
  -- the part that is written over
  let g3 : Heap := fun z => if z = b then some ob else g2 z
  have g3b : g3 b = some ob := by simp [g3]
  have g3o : ∀ z, z ≠ b → g3 z = g2 z := fun z hz => by simp [g3, hz]
  have lg3 : g3.le (hpOf { w with heap := w.heap.setIfInBounds b ob }) := fun z u e => by
    by_cases hz : z = b
    · subst hz
      rw [g3b] at e; cases e
      simp [hpOf, hlt]
    · rw [g3o z hz] at e
      have := hs.ino _ _ (a1 _ _ (y2 _ _ e))
      simp only [hpOf] at this ⊢
      rw [Array.getElem?_setIfInBounds_ne (Ne.symm hz)]
      exact this
  have dj3 : ∀ hh : Heap, hh b = none → g2.dj hh → g3.dj hh := fun hh hn d z => by
    by_cases hz : z = b
    · subst hz; exact .inr hn
    · rcases d z with q | q
      · left; rw [g3o z hz]; exact q
      · exact .inr q
  have d13 : g1.dj g3 := Heap.dj_symm (dj3 _ ng (Heap.dj_symm y3))
  have d12 : g1.dj h2 := Heap.dj_le c1 y1 (Heap.le_refl _)
  have d32 : g3.dj h2 := dj3 _ n2 (Heap.dj_le c1 y2 (Heap.le_refl _))
  have w3 : Wr g3 := fun z u e => by
    by_cases hz : z = b
    · subst hz; rw [g3b] at e; cases e; exact ⟨_, _, rfl⟩
    · rw [g3o z hz] at e; exact y6 _ _ e
  have over : ∀ b' i' v', cellH g2 b' i' = some (.int .u32 v') → ∃ v'', cellH g3 b' i' = some (.int .u32 v'') := fun b' i' v' e => by
    by_cases hz : b' = b
    · subst hz
      simp only [cellH, y7] at e
      simp only [cellH, g3b, hob]
      by_cases hi' : oo + m = i'
      · subst hi'; exact ⟨v, by simp [hidx]⟩
      · exact ⟨v', by rw [Array.getElem?_setIfInBounds_ne hi']; exact e⟩
    · refine ⟨v', ?_⟩
      simp only [cellH, g3o b' hz]
      exact e
  obtain ⟨ys, hy1, hy2⟩ := y5.over over
  refine ⟨{ w with heap := w.heap.setIfInBounds b ob }, hp, (g1.add g3).add h2, ?_, ?_, ?_⟩
  · have hrun := run_store_one (P := C.P) (w := w) (b := b) (i := oo + m) hbw hidx (v := .int .u32 v) rfl
    have hsz := (ht _ _ hi).size
    rw [hi1] at hsz
    simp [execOp, ho, hf.ev hx, hf.ev hy, Instr.storeAt, Instr.sureAddr, storeVar, hsz, Value.cells, storeCells, hrun, run_addOff, ob]
  · have l13 : (g1.add g3).le (hpOf { w with heap := w.heap.setIfInBounds b ob }) := Heap.add_le (other g1 ((y1.tr a1).tr hs.ino) ng) lg3
    have dA : (g1.add g3).dj h2 := Heap.add_dj d12 d32
    refine ⟨other hp hs.inp np, Heap.add_le l13 (other h2 (b1.tr hs.ino) n2), ?_, hs.ps, g1.add g3, h2, Heap.le_add_left _ _, Heap.le_add_right dA, dA, ⟨ys, hy1, g1, g3, Heap.le_add_left _ _, Heap.le_add_right d13, d13, by rw [hy1]; exact y4, hy2, w3⟩, e1⟩
    refine Heap.dj_symm (Heap.add_dj (Heap.add_dj (Heap.dj_symm (Heap.dj_le hs.dj (Heap.le_refl _) (y1.tr a1))) (dj3 _ np (Heap.dj_symm (Heap.dj_le hs.dj (Heap.le_refl _) (y2.tr a1))))) (Heap.dj_symm (Heap.dj_le hs.dj (Heap.le_refl _) b1)))
  · refine ⟨hb.hp0, other _ hb.hf nf, hb.djp, Heap.dj_symm (Heap.add_dj (Heap.add_dj (Heap.dj_symm (Heap.dj_le hb.djo (Heap.le_refl _) (y1.tr a1))) (dj3 _ nf (Heap.dj_symm (Heap.dj_le hb.djo (Heap.le_refl _) (y2.tr a1))))) (Heap.dj_symm (Heap.dj_le hb.djo (Heap.le_refl _) b1))), hb.rest.os, hb.rest.tape, hb.rest.output, hb.rest.drawn, ?_⟩
    have := hb.rest.size
    simpa using this
end
/-! ### steps -/
structure St where
  c : Bool
  f : Fa
def St.ok (x : St) : Prop := x.f.ok
def tSt : Ty St := tIso (tPair tBool tFa) (fun x => (x.c, x.f))
theorem tSt_open {h : Heap} {x : St} {cs : List Value} (r : tSt.rep h x cs) : ∃ A c, cs = [.bool x.c, .int .u32 x.f.p, .slice A x.f.a.length c] ∧ Sl tU h A c x.f.a := by
  obtain ⟨a, b, e, h1, h2⟩ := r
  cases h1
  obtain ⟨A, c, rfl, s⟩ := tFa_open h2
  exact ⟨A, c, e, s⟩
theorem go_elem_st {C : Ctx} {k : List It} {E : Env} {Ps : List PA} {Os : List OA} {A : Option Addr} {c : Nat} {xs : List St} (h : sl tSt A c xs ∈ Ps) (j : Nat) {x : St} (hj : xs[j]? = some x)
    (g : ∀ b o A' c', A = some ⟨b, o, none⟩ → Go C k E (cl b (o + j * 3) [.bool x.c, .int .u32 x.f.p, .slice A' x.f.a.length c'] :: sl tU A' c' x.f.a :: Ps) Os) : Go C k E Ps Os :=
  go_elem h j hj fun b o cs e a w hp ho hf hs hb => by
    obtain ⟨A', c', hc, hsl⟩ := tSt_open (hs.ps (rp tSt x cs) (.tail _ (.head _)))
    subst hc
    exact g b o A' c' e a w hp ho hf ⟨hs.inp, hs.ino, hs.dj, forall_cons (hs.ps _ (.head _)) (forall_cons hsl fun p hq => hs.ps p (.tail _ (.tail _ hq))), hs.os⟩ hb
noncomputable def play (s : List Fa) (x : St) : List Fa := if 20 < x.f.a.length then s else if x.c then fcut s x.f else fput s x.f
noncomputable def plays (s : List Fa) (l : List St) : List Fa := l.foldl play s
theorem plays_next {s : List Fa} {l : List St} {k : Nat} (hk : k < l.length) : plays s (l.take (k + 1)) = play (plays s (l.take k)) l[k] := by
  unfold plays; rw [List.take_succ_eq_append_getElem hk, List.foldl_append]; rfl
theorem plays_skip {s : List Fa} {l : List St} {k : Nat} (hk : k < l.length) (h : 20 < l[k].f.a.length) : plays s (l.take (k + 1)) = plays s (l.take k) := by rw [plays_next hk, play, if_pos h]
theorem plays_cut {s : List Fa} {l : List St} {k : Nat} (hk : k < l.length) (h : ¬ 20 < l[k].f.a.length) (hc : l[k].c = true) : plays s (l.take (k + 1)) = fcut (plays s (l.take k)) l[k].f := by rw [plays_next hk, play, if_neg h, if_pos hc]
theorem plays_put {s : List Fa} {l : List St} {k : Nat} (hk : k < l.length) (h : ¬ 20 < l[k].f.a.length) (hc : l[k].c = false) : plays s (l.take (k + 1)) = fput (plays s (l.take k)) l[k].f := by rw [plays_next hk, play, if_neg h, if_neg (by simp [hc])]
structure Small (s : List Fa) (n : Nat) : Prop where
  r : rises s
  n : s.length ≤ n
  b : ∀ x ∈ s, x.a.length ≤ 20
theorem Small.play {s : List Fa} {n : Nat} (h : Small s n) (x : St) : Small (play s x) (n + 1) := by
  unfold SL.play
  split
  · exact ⟨h.r, by have := h.n; omega, h.b⟩
  · split
    · exact ⟨rises_fcut h.r _, by have := h.n; have := fcut_len s x.f; omega, fun y hy => h.b y ((mem_fcut h.r).1 hy).1⟩
    · rename_i h1 _
      exact ⟨rises_fput h.r _, by have := h.n; have := fput_len s x.f; omega, fun y hy => (mem_fput.1 hy).elim (fun e => by subst e; omega) (h.b y)⟩
theorem Small.mono {s : List Fa} {n m : Nat} (h : Small s n) (hm : n ≤ m) : Small s m := ⟨h.r, Nat.le_trans h.n hm, h.b⟩
theorem Small.fof {l : List Fa} (h1 : l.length ≤ 300) (h2 : ∀ x ∈ l, x.a.length ≤ 20) : Small (SL.fof l) 300 := ⟨rises_fof l, Nat.le_trans (fof_len l) h1, fun x hx => h2 x (mem_fof.1 hx)⟩
theorem Small.plays : ∀ (l : List St) {s : List Fa} {n : Nat}, Small s n → Small (plays s l) (n + l.length)
  | [], _, _, h => h
  | x :: l, s, n, h => by have := Small.plays l (h.play x); simp only [List.length_cons]; rw [show n + (l.length + 1) = n + 1 + l.length by omega]; exact this
end Go.Proofs.YtkhddfknpegpmaaGreat.SL

/- Rows of facts with the places of their Args; sorted, each once. -/
set_option linter.unusedVariables false
set_option linter.unusedSimpArgs false
namespace Go.Proofs.YtkhddfknpegpmaaGreat.SL
structure Fy where
  f : Fa
  A : Option Addr
  c : Nat
def fcY (x : Fy) : List Value := [.int .u32 x.f.p, .slice x.A x.f.a.length x.c]
def tFy : Ty Fy := ⟨2, fun h x cs => cs = fcY x ∧ Sl tU h x.A x.c x.f.a, fun ⟨e, _⟩ => by subst e; rfl, fun ⟨e, _⟩ => by subst e; rfl, fun hl ⟨e, s⟩ => ⟨e, s.up hl⟩⟩
theorem fcY_eq : ∀ (h : Heap) (x : Fy) (cs : List Value), tFy.rep h x cs → cs = fcY x := fun _ _ _ h => h.1
theorem Reps.toY {h : Heap} : ∀ {l : List Fa} {cs : List Value}, Reps tFa h l cs → ∃ xs : List Fy, xs.map (fun x : Fy => x.f) = l ∧ Reps tFy h xs cs
  | [], cs, e => ⟨[], rfl, e⟩
  | x :: l, _, ⟨a, b, e, r, s⟩ => by
    obtain ⟨A, c, rfl, sx⟩ := tFa_open r
    obtain ⟨xs, h1, h2⟩ := Reps.toY s
    exact ⟨⟨x, A, c⟩ :: xs, by simp [h1], _, _, e, ⟨rfl, sx⟩, h2⟩
theorem Reps.ofY {h : Heap} : ∀ {xs : List Fy} {cs : List Value}, Reps tFy h xs cs → Reps tFa h (xs.map fun x : Fy => x.f) cs
  | [], _, e => e
  | x :: xs, _, ⟨a, b, e, ⟨r, sx⟩, s⟩ => ⟨a, b, e, by rw [r]; exact tFa_mk sx, s.ofY⟩
section
variable {C : Ctx} {k : List It} {E : Env} {Ps : List PA} {Os : List OA}
theorem go_toY {e : Nat} {A : Option Addr} {c : Nat} {l : List Fa} {rr : List OA} (h : Rem (ol tFa e A c l) Os rr) (g : ∀ xs : List Fy, xs.map (fun x : Fy => x.f) = l → xs.length = l.length → Go C k E Ps (ol tFy e A c xs :: rr)) : Go C k E Ps Os := fun a w hp ho hf hs hb => by
  obtain ⟨g1, g2, i, b, d, ⟨cs, r, s⟩, sp⟩ := Sep.rem h hs.os
  obtain ⟨xs, h1, h2⟩ := s.toY
  have hl : xs.length = l.length := by rw [← h1]; simp
  exact g xs h1 hl a w hp ho hf ⟨hs.inp, hs.ino, hs.dj, hs.ps, g1, g2, i, b, d, ⟨cs, by rw [hl]; exact r, h2⟩, sp⟩ hb
theorem go_ofY {e : Nat} {A : Option Addr} {c : Nat} {xs : List Fy} {rr : List OA} (h : Rem (ol tFy e A c xs) Os rr) (g : Go C k E Ps (ol tFa e A c (xs.map fun x : Fy => x.f) :: rr)) : Go C k E Ps Os := fun a w hp ho hf hs hb => by
  obtain ⟨g1, g2, i, b, d, ⟨cs, r, s⟩, sp⟩ := Sep.rem h hs.os
  exact g a w hp ho hf ⟨hs.inp, hs.ino, hs.dj, hs.ps, g1, g2, i, b, d, ⟨cs, by rw [List.length_map]; exact r, s.ofY⟩, sp⟩ hb
/-- An element: its Args are read, its place is known. -/
theorem go_atY {e : Nat} {A : Option Addr} {c : Nat} {xs : List Fy} {rr : List OA} (h : Rem (ol tFy e A c xs) Os rr) (j : Nat) {x : Fy} (hj : xs[j]? = some x) (g : Go C k E (sl tU x.A x.c x.f.a :: Ps) Os) : Go C k E Ps Os := fun a w hp ho hf hs hb => by
  obtain ⟨g1, g2, i, b, d, ⟨cs, r, s⟩, sp⟩ := Sep.rem h hs.os
  obtain ⟨ds, ⟨_, h1⟩, _⟩ := s.at j x hj
  exact g a w hp ho hf (hs.addp (q := sl tU x.A x.c x.f.a) h1) hb
theorem ent_Y {x : Fy} (h : sl tU x.A x.c x.f.a ∈ Ps) : Ent Ps (rp tFy x (fcY x)) := fun hp a => ⟨rfl, a _ h⟩
end
theorem getF {xs : List Fy} {l : List Fa} (h : xs.map (fun x : Fy => x.f) = l) {j : Nat} (hj : j < xs.length) (hj' : j < l.length) : xs[j].f = l[j] := by subst h; simp
/-! ### insertion from behind -/
theorem set_mid {α : Type} {l : List α} {n : Nat} {w z : α} (hn : n ≤ l.length) : (l.take n ++ w :: l.drop n).set n z = l.take n ++ z :: l.drop n := by
  rw [List.set_append_right _ _ (by simp; omega)]
  simp [Nat.min_eq_left hn]
theorem mid_back {α : Type} {l : List α} {n : Nat} (h0 : 0 < n) (hn : n - 1 < l.length) : l.take n ++ l[n - 1] :: l.drop n = l.take (n - 1) ++ l[n - 1] :: l.drop (n - 1) := by
  have h1 : l.take n = l.take (n - 1) ++ [l[n - 1]] := by
    have := List.take_succ_eq_append_getElem hn
    rwa [show n - 1 + 1 = n by omega] at this
  have h2 : l.drop (n - 1) = l[n - 1] :: l.drop n := by rw [List.drop_eq_getElem_cons hn, show n - 1 + 1 = n by omega]
  conv => lhs; rw [h1]
  rw [h2, List.append_assoc]; rfl
theorem mid_get {α : Type} {l : List α} {n j : Nat} {w : α} (hn : n ≤ l.length) (hj : j < n) : (l.take n ++ w :: l.drop n)[j]? = some (l[j]'(by omega)) := by
  rw [List.getElem?_append_left (by simp; omega), List.getElem?_take, if_pos hj, List.getElem?_eq_getElem (by omega)]
theorem mid_len {α : Type} {l : List α} {n : Nat} {w : α} (hn : n ≤ l.length) : (l.take n ++ w :: l.drop n).length = l.length + 1 := by simp; omega
theorem fput_at {l : List Fa} {q : Fa} (hq : ¬ q ∈ l) (hr : rises l) {n : Nat} (hn : n ≤ l.length) (h1 : ∀ x ∈ l.drop n, 0 < cF x q) (h2 : ∀ (h : 0 < n), ¬ 0 < cF (l[n - 1]'(by omega)) q) : l.take n ++ q :: l.drop n = fput l q := by
  have : at_ l q = n := by
    refine at_of hn ?_ (fun x hx c => by have := h1 x hx; omega)
    rcases Nat.eq_zero_or_pos n with rfl | h0
    · intro x hx; simp at hx
    · have h3 : cF (l[n - 1]'(by omega)) q < 0 := by
        have := h2 h0
        have h4 : cF (l[n - 1]'(by omega)) q ≠ 0 := fun e => hq (by rw [← cF_zero.1 e]; exact List.getElem_mem _)
        omega
      have := rises_take hr (k := n - 1) (by omega) h3
      rwa [show n - 1 + 1 = n by omega] at this
  rw [fput_no hq, this]
/-! ### neighbours that are the same, once -/
def dd : List Fa → List Fa
  | [] => []
  | [x] => [x]
  | x :: y :: l => if x = y then dd (y :: l) else x :: dd (y :: l)
theorem dd_len : ∀ l : List Fa, (dd l).length ≤ l.length
  | [] => Nat.le_refl _
  | [x] => Nat.le_refl _
  | x :: y :: l => by
    have := dd_len (y :: l)
    unfold dd
    split <;> simp at this ⊢ <;> omega
theorem dd_snoc : ∀ (l : List Fa) (a b : Fa), dd (l ++ [a, b]) = if a = b then dd (l ++ [a]) else dd (l ++ [a]) ++ [b]
  | [], a, b => by
    by_cases h : a = b <;> simp [dd, h]
  | [x], a, b => by
    by_cases h : a = b
    · subst h; by_cases g : x = a <;> simp [dd, g]
    · by_cases g : x = a <;> simp [dd, g, h]
  | x :: y :: l, a, b => by
    have := dd_snoc (y :: l) a b
    simp only [List.cons_append] at this ⊢
    by_cases g : x = y
    · simp only [dd, g, if_true]; exact this
    · simp only [dd, g, if_false, this]; split <;> rfl
theorem dd_next {l : List Fa} {k : Nat} (h0 : 0 < k) (hk : k < l.length) : dd (l.take (k + 1)) = if l[k - 1] = l[k] then dd (l.take k) else dd (l.take k) ++ [l[k]] := by
  have h1 : l.take k = l.take (k - 1) ++ [l[k - 1]] := by
    have := List.take_succ_eq_append_getElem (l := l) (i := k - 1) (by omega)
    rwa [show k - 1 + 1 = k by omega] at this
  rw [List.take_succ_eq_append_getElem hk, h1, List.append_assoc]
  exact dd_snoc _ _ _
theorem dd_mem : ∀ {l : List Fa} {x : Fa}, x ∈ dd l ↔ x ∈ l
  | [], x => by simp [dd]
  | [y], x => by simp [dd]
  | y :: z :: l, x => by
    unfold dd
    split
    · rename_i e; subst e; rw [dd_mem (l := y :: l)]; simp
    · rw [List.mem_cons, dd_mem (l := z :: l), List.mem_cons (a := x) (b := y)]
theorem dd_rises : ∀ {l : List Fa}, l.Pairwise (fun x y => ¬ cF y x < 0) → rises (dd l)
  | [], _ => .nil
  | [x], _ => by unfold rises dd; simp
  | x :: y :: l, h => by
    rw [List.pairwise_cons] at h
    unfold dd
    split
    · exact dd_rises h.2
    · rename_i hne
      unfold rises
      rw [List.pairwise_cons]
      refine ⟨fun z hz => ?_, dd_rises h.2⟩
      have hz' : z ∈ y :: l := dd_mem.1 hz
      have h1 : ¬ cF z x < 0 := h.1 z hz'
      have h2 : ¬ cF y x < 0 := h.1 y (.head _)
      have h3 : cF x y < 0 := by
        rcases cF_range x y with e | e | e
        · omega
        · exact absurd (cF_zero.1 e) hne
        · rw [cF_swap] at e; omega
      rcases List.mem_cons.1 hz' with rfl | hz2
      · exact h3
      · have h4 : ¬ cF z y < 0 := (List.pairwise_cons.1 h.2).1 z hz2
        rcases cF_range y z with e | e | e
        · exact cF_trans h3 (by omega)
        · rw [← cF_zero.1 e]; exact h3
        · rw [cF_swap] at e; omega
theorem dd_sorted {l m : List Fa} (hp : l.Perm m) (hs : m.Pairwise fun x y => ¬ cF y x < 0) : dd m = fof l :=
  rises_ext (dd_rises hs) (rises_fof l) fun x => by rw [dd_mem, mem_fof]; exact hp.symm.mem_iff
/-! ### where something is so -/
def idxF (p : Fa → Bool) (l : List Fa) : Int := match l.findIdx? p with | some j => (j : Int) | none => -1
theorem idxF_hit {p : Fa → Bool} {l : List Fa} {k : Nat} (hk : k < l.length) (hz : ∀ y ∈ l.take k, p y = false) (e : p l[k] = true) : l.findIdx? p = some k := by
  rw [List.findIdx?_eq_some_iff_getElem]
  refine ⟨hk, e, fun j hj => ?_⟩
  have := hz l[j] (List.mem_take_iff_getElem.2 ⟨j, by omega, rfl⟩)
  simp [this]
theorem idxF_none {p : Fa → Bool} {l : List Fa} (hz : ∀ y ∈ l, p y = false) : l.findIdx? p = none := by
  rw [List.findIdx?_eq_none_iff]
  intro y hy; simpa using hz y hy
theorem idxF_any (p : Fa → Bool) (l : List Fa) : l.any p = decide (0 ≤ idxF p l) := by
  unfold idxF
  cases e : l.findIdx? p with
  | none =>
    rw [List.findIdx?_eq_none_iff] at e
    have : l.any p = false := by rw [List.any_eq_false]; intro x hx; simpa using e x hx
    rw [this]; rfl
  | some j =>
    rw [List.findIdx?_eq_some_iff_getElem] at e
    obtain ⟨hj, h, _⟩ := e
    have : l.any p = true := List.any_eq_true.2 ⟨_, List.getElem_mem hj, h⟩
    rw [this]; simp
theorem any_mem (y : Fa) (l : List Fa) : decide (y ∈ l) = l.any (fun x => decide (x = y)) := by
  rw [Bool.eq_iff_iff, decide_eq_true_iff, List.any_eq_true]
  constructor
  · intro h; exact ⟨y, h, by simp⟩
  · rintro ⟨x, h, e⟩; rw [decide_eq_true_iff] at e; exact e ▸ h
theorem dd_short {l : List Fa} (h : l.length < 2) : dd l = l := by
  match l, h with
  | [], _ => rfl
  | [x], _ => rfl
theorem dd_keep {l : List Fa} {k : Nat} (h0 : 1 ≤ k) (hk : k < l.length) (hz : dd (l.take k) = l.take k) (hne : ¬ l[k] = l[k - 1]) : dd (l.take (k + 1)) = l.take (k + 1) := by
  rw [dd_next (by omega) hk, if_neg (fun e => hne e.symm), hz, List.take_succ_eq_append_getElem hk]
/-- How far the second half of Compact has come: m kept, i looked at behind k. -/
structure Cmp (l : List Fa) (xs ys : List Fy) (k m i : Nat) : Prop where
  len : ys.length = l.length
  lo : k ≤ m
  hi : m + 1 ≤ k + i
  i1 : 1 ≤ i
  i2 : i ≤ l.length - k
  kept : (ys.take m).map (fun x : Fy => x.f) = dd (l.take (k + i))
  rest : ys.drop (k + i - 1) = xs.drop (k + i - 1)
theorem Cmp.start {l : List Fa} {xs : List Fy} {k : Nat} (hx : xs.map (fun x : Fy => x.f) = l) (h0 : 1 ≤ k) (hk : k < l.length) (hz : dd (l.take k) = l.take k) (he : l[k] = l[k - 1]) : Cmp l xs xs k k 1 :=
  ⟨by rw [← hx]; simp, Nat.le_refl _, Nat.le_refl _, Nat.le_refl _, by omega, by rw [dd_next (by omega) hk, if_pos he.symm, hz, ← hx, List.map_take], rfl⟩
theorem Cmp.get {l : List Fa} {xs ys : List Fy} {k m i : Nat} (hx : xs.map (fun x : Fy => x.f) = l) (h : Cmp l xs ys k m i) {j : Nat} (hj : k + i - 1 ≤ j) (hl : j < ys.length) (hl2 : j < l.length) : ys[j].f = l[j] := by
  have hxl : xs.length = l.length := by rw [← hx]; simp
  have e : ys[j]? = xs[j]? := by
    have h1 : (ys.drop (k + i - 1))[j - (k + i - 1)]? = (xs.drop (k + i - 1))[j - (k + i - 1)]? := by rw [h.rest]
    rw [List.getElem?_drop, List.getElem?_drop, show k + i - 1 + (j - (k + i - 1)) = j by omega] at h1
    exact h1
  rw [List.getElem?_eq_getElem hl, List.getElem?_eq_getElem (by omega)] at e
  rw [Option.some.inj e]
  exact getF hx (by omega) hl2
theorem Cmp.skip {l : List Fa} {xs ys : List Fy} {k m i : Nat} (h : Cmp l xs ys k m i) (hi : k + i < l.length) (he : l[k + i] = l[k + i - 1]) : Cmp l xs ys k m (i + 1) :=
  ⟨h.len, h.lo, by have := h.hi; omega, by omega, by omega, by rw [h.kept, show k + (i + 1) = k + i + 1 by omega, dd_next (by have := h.i1; omega) hi, if_pos he.symm], by
    have h1 := congrArg (List.drop 1) h.rest
    have := h.i1
    rw [List.drop_drop, List.drop_drop, show k + i - 1 + 1 = k + (i + 1) - 1 by omega] at h1
    exact h1⟩
theorem Cmp.keep {l : List Fa} {xs ys : List Fy} {k m i : Nat} (hx : xs.map (fun x : Fy => x.f) = l) (h : Cmp l xs ys k m i) (hi : k + i < l.length) (hl : k + i < ys.length) (he : ¬ l[k + i] = l[k + i - 1]) : Cmp l xs (ys.set m ys[k + i]) k (m + 1) (i + 1) :=
  ⟨by rw [List.length_set]; exact h.len, by have := h.lo; omega, by have := h.hi; omega, by omega, by omega, by
    have h1 := h.hi
    have h2 := h.get hx (j := k + i) (by omega) hl hi
    rw [show k + (i + 1) = k + i + 1 by omega, dd_next (by have := h.i1; omega) hi, if_neg (fun e => he e.symm), List.take_succ_eq_append_getElem (by rw [List.length_set]; omega), List.map_append, List.take_set_of_le (Nat.le_refl _), h.kept]
    simp [h2], by
    have h1 := congrArg (List.drop 1) h.rest
    have h3 := h.hi
    have := h.i1
    rw [List.drop_drop, List.drop_drop, show k + i - 1 + 1 = k + (i + 1) - 1 by omega] at h1
    rw [List.drop_set_of_lt (by omega)]
    exact h1⟩
theorem Cmp.done {l : List Fa} {xs ys : List Fy} {k m i : Nat} (h : Cmp l xs ys k m i) (hi : l.length ≤ k + i) : (ys.take m).map (fun x : Fy => x.f) = dd l := by rw [h.kept, List.take_of_length_le hi]
theorem not_next {l : List Fa} {q : Fa} {k : Nat} (hk : k < l.length) (h : ¬ q ∈ l.take k) (g : ¬ cmpF l[k].p l[k].a q.p q.a = 0) : ¬ q ∈ l.take (k + 1) := by
  rw [List.take_succ_eq_append_getElem hk, List.mem_append, List.mem_singleton]
  rintro (c | c)
  · exact h c
  · exact g (cmpF_zero.2 c.symm)
theorem split_last {l : List Fa} {q : Fa} {ys : List Fy} (h : ys.map (fun x : Fy => x.f) = l ++ [q]) : ∃ xs w, ys = xs ++ [w] ∧ xs.map (fun x : Fy => x.f) = l ∧ w.f = q := by
  have hl : ys.length = l.length + 1 := by have := congrArg List.length h; simpa using this
  have e : ys = ys.take l.length ++ [ys[l.length]] := by rw [← List.take_succ_eq_append_getElem (by omega), List.take_of_length_le (by omega)]
  refine ⟨_, _, e, ?_⟩
  rw [e, List.map_append] at h
  have := List.append_inj' h (by simp)
  exact ⟨this.1, by simpa using this.2⟩
theorem drop_more {l : List Fa} {q : Fa} {n : Nat} (h0 : 0 < n) (hn : n - 1 < l.length) (hz : ∀ y ∈ l.drop n, 0 < cF y q) (h : 0 < cF l[n - 1] q) : ∀ y ∈ l.drop (n - 1), 0 < cF y q := by
  rw [List.drop_eq_getElem_cons hn, show n - 1 + 1 = n by omega]
  intro y hy
  rcases List.mem_cons.1 hy with rfl | hy
  · exact h
  · exact hz y hy
theorem mid_map {l : List Fa} {xs : List Fy} {n : Nat} {w : Fy} (hx : xs.map (fun x : Fy => x.f) = l) : (xs.take n ++ w :: xs.drop n).map (fun x : Fy => x.f) = l.take n ++ w.f :: l.drop n := by
  subst hx; simp
end Go.Proofs.YtkhddfknpegpmaaGreat.SL

/- Plain laws of what is asked of facts: what the statements of stage 16 say. -/
set_option linter.unusedVariables false
set_option linter.unusedSimpArgs false
namespace Go.Proofs.YtkhddfknpegpmaaGreat.SL
theorem fof_snoc (l : List Fa) (x : Fa) : fof (l ++ [x]) = fput (fof l) x := by unfold fof; rw [List.foldl_append]; rfl
theorem fof_filter_yes {p : Fa → Bool} {l : List Fa} {k : Nat} (hk : k < l.length) (h : p l[k] = true) : fof ((l.take (k + 1)).filter p) = fput (fof ((l.take k).filter p)) l[k] := by rw [filter_yes hk h, fof_snoc]
theorem fof_filter_no {p : Fa → Bool} {l : List Fa} {k : Nat} (hk : k < l.length) (h : p l[k] = false) : fof ((l.take (k + 1)).filter p) = fof ((l.take k).filter p) := by rw [filter_no hk h]
def fewQ (l : List Fa) (a : Am) : Bool := decide (l.length ≤ 150 ∧ a.a.length ≤ 30 ∧ ∀ x ∈ l, x.a.length ≤ 30)
theorem fewQ_no1 {l : List Fa} {a : Am} (h : 150 < l.length ∨ 30 < a.a.length) : fewQ l a = false := by unfold fewQ; rw [decide_eq_false_iff_not]; rintro ⟨g1, g2, _⟩; omega
theorem fewQ_no2 {l : List Fa} {a : Am} {k : Nat} (hk : k < l.length) (h : 30 < l[k].a.length) : fewQ l a = false := by
  unfold fewQ; rw [decide_eq_false_iff_not]; rintro ⟨_, _, g⟩; have := g _ (List.getElem_mem hk); omega
theorem fewQ_yes {l : List Fa} {a : Am} (h : l.length ≤ 150) (h2 : a.a.length ≤ 30) (g : ∀ x ∈ l, x.a.length ≤ 30) : fewQ l a = true := by unfold fewQ; rw [decide_eq_true_iff]; exact ⟨h, h2, g⟩
theorem fewQ_iff {l : List Fa} {a : Am} : fewQ l a = true ↔ l.length ≤ 150 ∧ a.a.length ≤ 30 ∧ ∀ x ∈ l, x.a.length ≤ 30 := by unfold fewQ; rw [decide_eq_true_iff]
/-! ### two parts -/
theorem mem_ask {p : Fa → Bool} {l : List Fa} {x : Fa} : x ∈ fof (l.filter p) ↔ x ∈ l ∧ p x = true := by rw [mem_fof, List.mem_filter]
theorem both_sorted (p : Fa → Bool) (l m : List Fa) : fof ((l ++ m).filter p) = fof (fof (l.filter p) ++ fof (m.filter p)) :=
  rises_ext (rises_fof _) (rises_fof _) fun x => by
    rw [mem_fof, mem_fof, List.mem_append, mem_ask, mem_ask, List.mem_filter, List.mem_append]
    constructor
    · rintro ⟨h | h, g⟩
      · exact .inl ⟨h, g⟩
      · exact .inr ⟨h, g⟩
    · rintro (⟨h, g⟩ | ⟨h, g⟩)
      · exact ⟨.inl h, g⟩
      · exact ⟨.inr h, g⟩
theorem ask_again (p : Fa → Bool) (l : List Fa) : fof ((fof (l.filter p)).filter p) = fof (l.filter p) :=
  rises_ext (rises_fof _) (rises_fof _) fun x => by
    rw [mem_ask, mem_ask]; exact ⟨fun h => h.1, fun h => ⟨h, h.2⟩⟩
theorem ask_lift {l : List Fa} {q : Fa} (h : q ∈ l) : fof (l.filter (mtch (lift q))) = [q] :=
  rises_ext (rises_fof _) (by unfold rises; simp) fun x => by
    rw [mem_ask, mtch_lift, decide_eq_true_iff, List.mem_singleton]
    exact ⟨fun g => g.2, fun g => ⟨g ▸ h, g⟩⟩
theorem is_ask {l : List Fa} {a : Am} {q : Fa} (h : q ∈ l) : (decide (q ∈ fof (l.filter (mtch a))) == mtch a q) = true := by
  cases e : mtch a q with
  | true => rw [decide_eq_true (mem_ask.2 ⟨h, e⟩)]; rfl
  | false => rw [decide_eq_false (fun c => by have := (mem_ask.1 c).2; rw [e] at this; cases this)]; rfl
/-! ### a symbol in place of a variable -/
def subT (t : Tm) (s : Int) (x : Tm) : Tm := if x = t then ⟨false, s⟩ else x
def subA (a : Am) (t : Tm) (s : Int) : Am := ⟨a.p, a.a.map (subT t s)⟩
theorem mtch_sub {a : Am} {t : Tm} {s : Int} {f : Fa} {j : Nat} (hj : a.a[j]? = some t) (hv : t.v = true) : mtch (subA a t s) f = true ↔ mtch a f = true ∧ f.a[j]? = some s := by
  unfold mtch
  rw [decide_eq_true_iff, decide_eq_true_iff]
  have key : ∀ σ : Int → Int, σ t.n = s → ap σ (subA a t s) = ap σ a := fun σ hs => by
    simp only [ap, subA, List.map_map, Fa.mk.injEq, true_and]
    apply List.map_congr_left
    intro x _
    simp only [Function.comp, subT]
    split
    · rename_i e; subst e; simp [tv, hv, hs]
    · rfl
  constructor
  · rintro ⟨σ, rfl⟩
    have e : ap σ (subA a t s) = ap (fun n => if n = t.n then s else σ n) a := by
      simp only [ap, subA, List.map_map, Fa.mk.injEq, true_and]
      apply List.map_congr_left
      intro x _
      simp only [Function.comp, subT]
      split
      · rename_i e; subst e; simp [tv, hv]
      · rename_i hne
        unfold tv
        cases hx : x.v with
        | false => rfl
        | true =>
          have : ¬ x.n = t.n := fun q => hne (by cases x; cases t; simp_all)
          simp [this]
    rw [e]
    exact ⟨⟨_, rfl⟩, by simp [ap, hj, tv, hv]⟩
  · rintro ⟨⟨σ, rfl⟩, h⟩
    have hs : σ t.n = s := by simpa [ap, hj, tv, hv] using h
    exact ⟨σ, (key σ hs).symm⟩
/-- Symbols, each once, as they come. -/
def addS (S : List Int) (n : Int) : List Int := if n ∈ S then S else S ++ [n]
def syms (l : List Int) : List Int := l.foldl addS []
theorem syms_snoc (l : List Int) (n : Int) : syms (l ++ [n]) = addS (syms l) n := by unfold syms; rw [List.foldl_append]; rfl
theorem syms_mem (l : List Int) (n : Int) : n ∈ syms l ↔ n ∈ l := by
  have key : ∀ (l S : List Int), n ∈ l.foldl addS S ↔ n ∈ S ∨ n ∈ l := by
    intro l
    induction l with
    | nil => intro S; simp
    | cons m l ih =>
      intro S
      rw [List.foldl_cons, ih, List.mem_cons]
      have : n ∈ addS S m ↔ n ∈ S ∨ n = m := by
        unfold addS; split
        · rename_i h; exact ⟨.inl, fun g => g.elim id (fun e => e ▸ h)⟩
        · rw [List.mem_append, List.mem_singleton]
      rw [this, or_assoc]
  unfold syms; rw [key]; simp
theorem syms_nodup (l : List Int) : (syms l).Nodup := by
  have key : ∀ (l S : List Int), S.Nodup → (l.foldl addS S).Nodup := by
    intro l
    induction l with
    | nil => exact fun S h => h
    | cons m l ih =>
      intro S h
      rw [List.foldl_cons]
      apply ih
      unfold addS; split
      · exact h
      · rename_i hm; rw [List.nodup_append]; exact ⟨h, by simp, fun x hx y hy => by rw [List.mem_singleton.1 hy]; exact fun e => hm (e ▸ hx)⟩
  exact key l [] .nil
theorem syms_len (l : List Int) : (syms l).length ≤ l.length := by
  have key : ∀ (l S : List Int), (l.foldl addS S).length ≤ S.length + l.length := by
    intro l
    induction l with
    | nil => intro S; simp
    | cons m l ih =>
      intro S
      rw [List.foldl_cons, List.length_cons]
      have h1 := ih (addS S m)
      have h2 : (addS S m).length ≤ S.length + 1 := by unfold addS; split <;> simp
      omega
  have := key l []; simpa [syms] using this
def args (l : List Fa) : List Int := l.flatMap fun x => x.a
theorem args_len : ∀ {l : List Fa} {n : Nat}, (∀ x ∈ l, x.a.length ≤ n) → (args l).length ≤ l.length * n
  | [], _, _ => by simp [args]
  | x :: l, n, h => by
    have h1 := args_len (l := l) (n := n) fun y hy => h y (.tail _ hy)
    have h2 := h x (.head _)
    unfold args at h1 ⊢
    rw [List.flatMap_cons, List.length_append, List.length_cons, Nat.add_mul]
    omega
/-- So many match with each symbol in place of the variable. -/
noncomputable def parts (l : List Fa) (a : Am) (t : Tm) (S : List Int) : Nat := (S.map fun s => (fof (l.filter (mtch (subA a t s)))).length).sum
theorem parts_next {l : List Fa} {a : Am} {t : Tm} {S : List Int} {k : Nat} (hk : k < S.length) : parts l a t (S.take (k + 1)) = parts l a t (S.take k) + (fof (l.filter (mtch (subA a t S[k])))).length := by
  unfold parts; rw [List.take_succ_eq_append_getElem hk, List.map_append, List.sum_append]; simp only [List.map_cons, List.map_nil, List.sum_cons, List.sum_nil, Nat.add_zero]
theorem count_parts (X : List Fa) (g : Fa → Int) : ∀ (S : List Int), S.Nodup → (S.map fun s => (X.filter fun f => decide (g f = s)).length).sum = (X.filter fun f => decide (g f ∈ S)).length
  | [], _ => by rw [List.filter_eq_nil_iff.2 (by simp)]; rfl
  | s :: S, h => by
    rw [List.nodup_cons] at h
    rw [List.map_cons, List.sum_cons, count_parts X g S h.2]
    induction X with
    | nil => rfl
    | cons f X ih =>
      simp only [List.mem_cons] at ih ⊢
      by_cases h1 : g f = s
      · have h2 : ¬ g f ∈ S := fun c => h.1 (h1 ▸ c)
        simp only [List.filter_cons, h1, h2, List.mem_cons, true_or, decide_true, if_true, List.length_cons]
        rw [← h1]
        simp only [h2, decide_false, Bool.false_eq_true, if_false]
        rw [← h1] at ih
        omega
      · by_cases h2 : g f ∈ S
        · simp only [List.filter_cons, h1, h2, List.mem_cons, or_true, decide_true, decide_false, if_true, Bool.false_eq_true, if_false, List.length_cons]; omega
        · simp only [List.filter_cons, h1, h2, List.mem_cons, or_false, decide_false, Bool.false_eq_true, if_false]; exact ih
theorem parts_all {l : List Fa} {a : Am} {t : Tm} {j : Nat} (hj : a.a[j]? = some t) (hv : t.v = true) : parts l a t (syms (args l)) = (fof (l.filter (mtch a))).length := by
  have e : ∀ s, fof (l.filter (mtch (subA a t s))) = (fof (l.filter (mtch a))).filter (fun f => decide (f.a.getD j 0 = s)) := fun s =>
    rises_ext (rises_fof _) (rises_filter (rises_fof _) _) fun x => by
      rw [mem_ask, List.mem_filter, mem_ask, mtch_sub hj hv, decide_eq_true_iff]
      constructor
      · rintro ⟨h1, h2, h3⟩; exact ⟨⟨h1, h2⟩, by rw [List.getD_eq_getElem?_getD, h3]; rfl⟩
      · rintro ⟨⟨h1, h2⟩, h3⟩
        refine ⟨h1, h2, ?_⟩
        unfold mtch at h2
        rw [decide_eq_true_iff] at h2
        have hl := h2.pred.2
        have hjl : j < x.a.length := by rw [← hl]; exact (List.getElem?_eq_some_iff.1 hj).1
        rw [List.getD_eq_getElem?_getD, List.getElem?_eq_getElem hjl] at h3
        rw [List.getElem?_eq_getElem hjl]; exact congrArg some h3
  unfold parts
  simp only [e]
  rw [count_parts _ (fun f => f.a.getD j 0) _ (syms_nodup _)]
  congr 1
  rw [List.filter_eq_self]
  intro x hx
  rw [mem_ask] at hx
  obtain ⟨h1, h2⟩ := hx
  unfold mtch at h2
  rw [decide_eq_true_iff] at h2
  have hl := h2.pred.2
  have hjl : j < x.a.length := by rw [← hl]; exact (List.getElem?_eq_some_iff.1 hj).1
  rw [decide_eq_true_iff, syms_mem]
  unfold args
  rw [List.mem_flatMap]
  exact ⟨x, h1, by rw [List.getD_eq_getElem?_getD, List.getElem?_eq_getElem hjl]; exact List.getElem_mem _⟩
theorem part_in {l : List Fa} {a : Am} {t : Tm} {s : Int} {j : Nat} (hj : a.a[j]? = some t) (hv : t.v = true) {x : Fa} (hx : x ∈ fof (l.filter (mtch (subA a t s)))) : x ∈ fof (l.filter (mtch a)) := by
  rw [mem_ask] at hx ⊢
  exact ⟨hx.1, ((mtch_sub hj hv).1 hx.2).1⟩
theorem args_next {l : List Fa} {i : Nat} (hi : i < l.length) : args (l.take (i + 1)) = args (l.take i) ++ l[i].a := by unfold args; rw [List.take_succ_eq_append_getElem hi, List.flatMap_append]; simp
theorem syms_row0 {l : List Fa} {i : Nat} (hi : i < l.length) : syms (args (l.take i)) = syms (args (l.take i) ++ l[i].a.take 0) := by simp
theorem syms_row {l : List Fa} {i k : Nat} (hi : i < l.length) (hk : l[i].a.length ≤ k) : syms (args (l.take i) ++ l[i].a.take k) = syms (args (l.take (i + 1))) := by rw [args_next hi, List.take_of_length_le hk]
theorem syms_new {l : List Fa} {i k : Nat} {hi : i < l.length} (hk : k < l[i].a.length) (h : ¬ l[i].a[k] ∈ syms (args (l.take i) ++ l[i].a.take k)) : syms (args (l.take i) ++ l[i].a.take (k + 1)) = syms (args (l.take i) ++ l[i].a.take k) ++ [l[i].a[k]] := by
  rw [List.take_succ_eq_append_getElem hk, ← List.append_assoc, syms_snoc, addS, if_neg h]
theorem syms_old {l : List Fa} {i k : Nat} {hi : i < l.length} (hk : k < l[i].a.length) (h : l[i].a[k] ∈ syms (args (l.take i) ++ l[i].a.take k)) : syms (args (l.take i) ++ l[i].a.take (k + 1)) = syms (args (l.take i) ++ l[i].a.take k) := by
  rw [List.take_succ_eq_append_getElem hk, ← List.append_assoc, syms_snoc, addS, if_pos h]
theorem syms_part {l : List Fa} {i k : Nat} {hi : i < l.length} {n : Nat} (hb : ∀ x ∈ l, x.a.length ≤ n) (hk : k ≤ l[i].a.length) : (syms (args (l.take i) ++ l[i].a.take k)).length ≤ l.length * n := by
  refine Nat.le_trans (syms_len _) ?_
  have h1 := args_len (l := l.take (i + 1)) (n := n) fun x hx => hb x (List.mem_of_mem_take hx)
  rw [args_next hi, List.length_append] at h1
  have h2 : (l.take (i + 1)).length * n ≤ l.length * n := Nat.mul_le_mul_right _ (by simp; omega)
  rw [List.length_append, List.length_take]
  omega
theorem int_next_yes {l : List Int} {x : Int} {j : Nat} (h : x ∈ l.take j) : decide (x ∈ l.take (j + 1)) = true := by
  rw [decide_eq_true_iff]; exact (List.take_sublist_take_left (by omega)).subset h
theorem int_next_no {l : List Int} {x : Int} {j : Nat} (hj : j < l.length) (h : ¬ x ∈ l.take j) : decide (x ∈ l.take (j + 1)) = decide (l[j] = x) := by
  rw [List.take_succ_eq_append_getElem hj, decide_eq_decide, List.mem_append, List.mem_singleton]
  exact ⟨fun q => q.elim (fun c => absurd c h) (fun e => e.symm), fun q => .inr q.symm⟩
theorem syms_ok {l : List Fa} (h : ∀ x ∈ l, x.ok) {n : Int} (hn : n ∈ syms (args l)) : 0 ≤ n := by
  rw [syms_mem] at hn
  unfold args at hn
  rw [List.mem_flatMap] at hn
  obtain ⟨x, hx, hn⟩ := hn
  exact ((h x hx).2 n hn).1
theorem subA_ok {a : Am} {t : Tm} {s : Int} (h : ∀ x ∈ a.a, 0 ≤ x.n) (hs : 0 ≤ s) : ∀ x ∈ (subA a t s).a, 0 ≤ x.n := fun x hx => by
  simp only [subA, List.mem_map] at hx
  obtain ⟨y, hy, rfl⟩ := hx
  unfold subT; split
  · exact hs
  · exact h y hy
theorem parts_le {l : List Fa} {a : Am} {t : Tm} {S : List Int} : parts l a t S ≤ S.length * l.length := by
  unfold parts
  induction S with
  | nil => simp
  | cons s S ih =>
    rw [List.map_cons, List.sum_cons, List.length_cons, Nat.add_mul]
    have := Nat.le_trans (fof_len (l.filter (mtch (subA a t s)))) (List.length_filter_le _ _)
    omega
/-- The first places gone through. -/
def subs (a : List Tm) (t : Tm) (s : Int) (n : Nat) : List Tm := (a.take n).map (subT t s) ++ a.drop n
theorem subs_len (a : List Tm) (t : Tm) (s : Int) (n : Nat) : (subs a t s n).length = a.length := by simp [subs]; omega
theorem subs_get {a : List Tm} {t : Tm} {s : Int} {n : Nat} (h : n < a.length) : (subs a t s n)[n]? = some a[n] := by
  unfold subs
  rw [List.getElem?_append_right (by simp; omega), List.getElem?_drop]
  simp [Nat.min_eq_left (Nat.le_of_lt h), h]
theorem subs_cons {a : List Tm} {t : Tm} {s : Int} {n : Nat} (h : n < a.length) : subs a t s (n + 1) = (a.take n).map (subT t s) ++ subT t s a[n] :: a.drop (n + 1) := by
  unfold subs; rw [List.take_succ_eq_append_getElem h, List.map_append, List.append_assoc]; rfl
theorem subs_yes {a : List Tm} {t : Tm} {s : Int} {n : Nat} (h : n < a.length) (e : t = a[n]) : subs a t s (n + 1) = (subs a t s n).set n ⟨false, s⟩ := by
  rw [subs_cons h]
  unfold subs
  rw [List.drop_eq_getElem_cons h, List.set_append_right _ _ (by simp; omega)]
  simp [Nat.min_eq_left (Nat.le_of_lt h), subT, ← e]
theorem subs_no {a : List Tm} {t : Tm} {s : Int} {n : Nat} (h : n < a.length) (e : ¬ t = a[n]) : subs a t s (n + 1) = subs a t s n := by
  rw [subs_cons h]
  unfold subs
  rw [List.drop_eq_getElem_cons h]
  simp [subT, Ne.symm e]
theorem subs_all {a : Am} {t : Tm} {s : Int} : subs a.a t s a.a.length = (subA a t s).a := by simp [subs, subA]
def fcT (x : Tm) : List Value := [.bool x.v, .int .u32 x.n]
theorem fcT_eq : ∀ (h : Heap) (x : Tm) (cs : List Value), tTm.rep h x cs → cs = fcT x := fun _ _ _ h => tTm_open h
end Go.Proofs.YtkhddfknpegpmaaGreat.SL

/- Literals and clauses; which may be. -/
set_option linter.unusedVariables false
set_option linter.unusedSimpArgs false
namespace Go.Proofs.YtkhddfknpegpmaaGreat.SL
structure Li where
  no : Bool
  a : Am
  deriving DecidableEq
structure Cl where
  h : Am
  b : List Li
  deriving DecidableEq
def tLi : Ty Li := tIso (tPair tBool tAm) (fun x => (x.no, x.a))
def tCl : Ty Cl := tIso (tPair tAm (tSl tLi)) (fun x => (x.h, x.b))
theorem tLi_open {h : Heap} {x : Li} {cs : List Value} (r : tLi.rep h x cs) : ∃ A c, cs = [.bool x.no, .int .u32 x.a.p, .slice A x.a.a.length c] ∧ Sl tTm h A c x.a.a := by
  obtain ⟨a, b, e, h1, h2⟩ := r
  obtain ⟨A, c, rfl, h3⟩ := tAm_open h2
  cases h1
  exact ⟨A, c, e, h3⟩
theorem tLi_mk {h : Heap} {x : Li} {A : Option Addr} {c : Nat} (s : Sl tTm h A c x.a.a) : tLi.rep h x [.bool x.no, .int .u32 x.a.p, .slice A x.a.a.length c] := ⟨[_], [_, _], rfl, rfl, tAm_mk s⟩
theorem tCl_open {h : Heap} {x : Cl} {cs : List Value} (r : tCl.rep h x cs) : ∃ A c B d, cs = [.int .u32 x.h.p, .slice A x.h.a.length c, .slice B x.b.length d] ∧ Sl tTm h A c x.h.a ∧ Sl tLi h B d x.b := by
  obtain ⟨a, b, e, h1, B, d, h2, h3⟩ := r
  obtain ⟨A, c, rfl, h4⟩ := tAm_open h1
  cases h2
  exact ⟨A, c, B, d, e, h4, h3⟩
theorem tCl_mk {h : Heap} {x : Cl} {A : Option Addr} {c : Nat} {B : Option Addr} {d : Nat} (s : Sl tTm h A c x.h.a) (t : Sl tLi h B d x.b) : tCl.rep h x [.int .u32 x.h.p, .slice A x.h.a.length c, .slice B x.b.length d] := ⟨[_, _], [_], rfl, tAm_mk s, B, d, rfl, t⟩
section
variable {C : Ctx} {k : List It} {E : Env} {Ps : List PA} {Os : List OA}
theorem go_elem_li {A : Option Addr} {c : Nat} {xs : List Li} (h : sl tLi A c xs ∈ Ps) (j : Nat) {x : Li} (hj : xs[j]? = some x)
    (g : ∀ b o A' c', A = some ⟨b, o, none⟩ → Go C k E (cl b (o + j * 3) [.bool x.no, .int .u32 x.a.p, .slice A' x.a.a.length c'] :: sl tTm A' c' x.a.a :: Ps) Os) : Go C k E Ps Os :=
  go_elem h j hj fun b o cs e a w hp ho hf hs hb => by
    obtain ⟨A', c', hc, hsl⟩ := tLi_open (hs.ps (rp tLi x cs) (.tail _ (.head _)))
    subst hc
    exact g b o A' c' e a w hp ho hf ⟨hs.inp, hs.ino, hs.dj, forall_cons (hs.ps _ (.head _)) (forall_cons hsl fun p hq => hs.ps p (.tail _ (.tail _ hq))), hs.os⟩ hb
theorem go_elem_cl {A : Option Addr} {c : Nat} {xs : List Cl} (h : sl tCl A c xs ∈ Ps) (j : Nat) {x : Cl} (hj : xs[j]? = some x)
    (g : ∀ b o A' c' B' d', A = some ⟨b, o, none⟩ → Go C k E (cl b (o + j * 3) [.int .u32 x.h.p, .slice A' x.h.a.length c', .slice B' x.b.length d'] :: sl tTm A' c' x.h.a :: sl tLi B' d' x.b :: Ps) Os) : Go C k E Ps Os :=
  go_elem h j hj fun b o cs e a w hp ho hf hs hb => by
    obtain ⟨A', c', B', d', hc, hsl, hsm⟩ := tCl_open (hs.ps (rp tCl x cs) (.tail _ (.head _)))
    subst hc
    exact g b o A' c' B' d' e a w hp ho hf ⟨hs.inp, hs.ino, hs.dj, forall_cons (hs.ps _ (.head _)) (forall_cons hsl (forall_cons hsm fun p hq => hs.ps p (.tail _ (.tail _ hq)))), hs.os⟩ hb
theorem ent_li {x : Li} {A : Option Addr} {c : Nat} (h : sl tTm A c x.a.a ∈ Ps) : Ent Ps (rp tLi x [.bool x.no, .int .u32 x.a.p, .slice A x.a.a.length c]) := fun hp a => tLi_mk (a _ h)
theorem ent_cl {x : Cl} {A : Option Addr} {c : Nat} {B : Option Addr} {d : Nat} (h : sl tTm A c x.h.a ∈ Ps) (h2 : sl tLi B d x.b ∈ Ps) : Ent Ps (rp tCl x [.int .u32 x.h.p, .slice A x.h.a.length c, .slice B x.b.length d]) := fun hp a => tCl_mk (a _ h) (a _ h2)
end
/-! ### searching -/
def idxP {α : Type} (p : α → Bool) (l : List α) : Int := match l.findIdx? p with | some j => (j : Int) | none => -1
theorem idxP_hit {α : Type} {p : α → Bool} {l : List α} {k : Nat} (hk : k < l.length) (hz : ∀ y ∈ l.take k, p y = false) (e : p l[k] = true) : idxP p l = (k : Int) := by
  unfold idxP
  have : l.findIdx? p = some k := by
    rw [List.findIdx?_eq_some_iff_getElem]
    refine ⟨hk, e, fun j hj => ?_⟩
    have := hz l[j] (List.mem_take_iff_getElem.2 ⟨j, by omega, rfl⟩)
    simp [this]
  rw [this]
theorem idxP_none {α : Type} {p : α → Bool} {l : List α} {k : Nat} (hk : l.length ≤ k) (hz : ∀ y ∈ l.take k, p y = false) : idxP p l = -1 := by
  unfold idxP
  have : l.findIdx? p = none := by
    rw [List.findIdx?_eq_none_iff]
    intro y hy
    rw [List.take_of_length_le hk] at hz
    simpa using hz y hy
  rw [this]
theorem idxP_any {α : Type} (p : α → Bool) (l : List α) : l.any p = decide (0 ≤ idxP p l) := by
  unfold idxP
  cases e : l.findIdx? p with
  | none =>
    rw [List.findIdx?_eq_none_iff] at e
    simp only [List.any_eq]
    rw [decide_eq_decide]
    constructor
    · rintro ⟨x, hx, hp⟩; rw [e x hx] at hp; cases hp
    · intro h; omega
  | some j =>
    rw [List.findIdx?_eq_some_iff_getElem] at e
    obtain ⟨hj, hp, _⟩ := e
    simp only [List.any_eq]
    rw [decide_eq_decide]
    constructor
    · intro _; omega
    · intro _; exact ⟨l[j], List.getElem_mem _, hp⟩
/-! ### numbers without repetitions -/
structure CmpI (l ys : List Int) (k m i : Nat) : Prop where
  len : ys.length = l.length
  k1 : 1 ≤ k
  lo : k ≤ m
  hi : m ≤ k + i - 1
  i1 : 1 ≤ i
  i2 : k + i ≤ l.length
  un : ∀ j, k + i - 1 ≤ j → ys[j]? = l[j]?
  mem : ∀ x, x ∈ ys.take m ↔ x ∈ l.take (k + i)
theorem mem_take_succ {l : List Int} {k : Nat} (h : k < l.length) (x : Int) : x ∈ l.take (k + 1) ↔ x ∈ l.take k ∨ x = l[k] := by
  rw [List.take_succ_eq_append_getElem h, List.mem_append, List.mem_singleton]
theorem getElem_mem_take {l : List Int} {j k : Nat} (hj : j < k) (hl : j < l.length) : l[j] ∈ l.take k := List.mem_take_iff_getElem.2 ⟨j, by omega, rfl⟩
theorem CmpI.start {l : List Int} {k : Nat} (h1 : 1 ≤ k) (h2 : k < l.length) (e : l[k] = l[k - 1]) : CmpI l l k k 1 := by
  refine ⟨rfl, h1, Nat.le_refl _, by omega, Nat.le_refl _, by omega, fun _ _ => rfl, fun x => ?_⟩
  rw [mem_take_succ h2]
  refine ⟨.inl, fun h => h.elim id fun h => ?_⟩
  rw [h, e]; exact getElem_mem_take (by omega) (by omega)
theorem CmpI.get {l ys : List Int} {k m i : Nat} (h : CmpI l ys k m i) (j : Nat) (hj : k + i - 1 ≤ j) (hl : j < l.length) : ys[j]'(by rw [h.len]; exact hl) = l[j] := by
  have := h.un j hj
  rw [List.getElem?_eq_getElem (by rw [h.len]; exact hl), List.getElem?_eq_getElem hl] at this
  exact Option.some.inj this
theorem CmpI.skip {l ys : List Int} {k m i : Nat} (h : CmpI l ys k m i) (hk : k + i < l.length) (e : l[k + i] = l[k + i - 1]) : CmpI l ys k m (i + 1) := by
  refine ⟨h.len, h.k1, h.lo, by have := h.hi; omega, by omega, by omega, fun j hj => h.un j (by omega), fun x => ?_⟩
  rw [h.mem, ← Nat.add_assoc, mem_take_succ hk]
  refine ⟨.inl, fun g => g.elim id fun g => ?_⟩
  rw [g, e]; exact getElem_mem_take (by have := h.k1; omega) (by omega)
theorem CmpI.keep {l ys : List Int} {k m i : Nat} (h : CmpI l ys k m i) (hk : k + i < l.length) : CmpI l (ys.set m (ys[k + i]'(by rw [h.len]; exact hk))) k (m + 1) (i + 1) := by
  have h1 := h.hi
  have h2 := h.i1
  have hl := h.len
  refine ⟨by rw [List.length_set, h.len], h.k1, by have := h.lo; omega, by omega, by omega, by omega, fun j hj => ?_, fun x => ?_⟩
  · rw [List.getElem?_set_ne (by omega)]; exact h.un j (by omega)
  · rw [← Nat.add_assoc, mem_take_succ hk, ← h.mem, ← h.get (k + i) (by omega) hk]
    rw [mem_take_succ (by rw [List.length_set]; omega), List.take_set_of_le (Nat.le_refl _), List.getElem_set_self]
theorem CmpI.done {l ys : List Int} {k m i : Nat} (h : CmpI l ys k m i) (hk : l.length ≤ k + i) (x : Int) : x ∈ ys.take m ↔ x ∈ l := by
  rw [h.mem, List.take_of_length_le hk]
/-! ### which may be -/
def mayA (a : Am) : Bool := decide (a.a.length ≤ 6) && !(a.a.any fun t => t.v && decide (16 ≤ t.n))
def mayC (c : Cl) : Bool := decide (c.b.length ≤ 8) && (mayA c.h && !(c.b.any fun l => !mayA l.a))
def ground (a : Am) : Bool := !(a.a.any fun t => t.v)
/-- the variables of an atom -/
def vars (a : Am) : List Int := (a.a.filter (·.v)).map (·.n)
theorem vars_len (a : Am) (k : Nat) : (vars ⟨a.p, a.a.take k⟩).length ≤ a.a.length := by
  unfold vars
  rw [List.length_map]
  exact Nat.le_trans (List.length_filter_le _ _) (by simp; omega)
theorem vars_yes {a : Am} {k : Nat} (hk : k < a.a.length) (e : a.a[k].v = true) : vars ⟨a.p, a.a.take (k + 1)⟩ = vars ⟨a.p, a.a.take k⟩ ++ [a.a[k].n] := by
  unfold vars
  simp only
  rw [List.take_succ_eq_append_getElem hk, List.filter_append, List.map_append, List.filter_cons_of_pos (by exact e)]; rfl
theorem vars_no {a : Am} {k : Nat} (hk : k < a.a.length) (e : a.a[k].v = false) : vars ⟨a.p, a.a.take (k + 1)⟩ = vars ⟨a.p, a.a.take k⟩ := by
  unfold vars
  simp only
  rw [List.take_succ_eq_append_getElem hk, List.filter_append, List.filter_cons_of_neg (by rw [e]; simp)]; simp
/-- those held by the literals that are not Not -/
def heldBy (c : Cl) : List Int := (c.b.filter fun l => !l.no).flatMap fun l => vars l.a
def heldC (c : Cl) : Bool := ((c.b.filter fun l => l.no).all fun l => (vars l.a).all fun v => decide (v ∈ heldBy c)) && (vars c.h).all fun v => decide (v ∈ heldBy c)
/-! ### lengths -/
/-- A map of numbers that holds 1 for those of a list. -/
def Ones (m : List (Int × Value)) (s : List Int) : Prop := ∀ v, mget m v = if v ∈ s then some (.int .i64 1) else none
theorem Ones.nil : Ones [] [] := fun v => by simp [mget]
theorem Ones.set {m : List (Int × Value)} {s : List Int} (h : Ones m s) (v : Int) : Ones (mset m v (.int .i64 1)) (v :: s) := fun x => by
  rw [mget_mset, h x]
  by_cases e : x = v
  · simp [e]
  · simp [e]
theorem Ones.same {m : List (Int × Value)} {s t : List Int} (h : Ones m s) (e : ∀ x, x ∈ s ↔ x ∈ t) : Ones m t := fun x => by rw [h x]; simp [e x]
abbrev Lens := Int → Option Int
def Lens.Is (m : List (Int × Value)) (L : Lens) : Prop := ∀ p, mget m p = (L p).map (.int .i64)
def fitB (L : Lens) (p n : Int) : Bool := match L p with | none => true | some k => decide (k = n)
def learn (L : Lens) (p n : Int) : Lens := fun q => if q = p ∧ L p = none then some n else L q
theorem Lens.Is.nil : Lens.Is [] (fun _ => none) := fun p => rfl
theorem Lens.Is.new {m : List (Int × Value)} {L : Lens} (h : Lens.Is m L) {p : Int} (e : L p = none) (n : Int) : Lens.Is (mset m p (.int .i64 n)) (learn L p n) := fun q => by
  rw [mget_mset, h q]
  unfold learn
  by_cases c : q = p
  · subst c; simp [e]
  · simp [c]
theorem learn_old {L : Lens} {p n k : Int} (e : L p = some k) : learn L p n = L := by
  funext q; unfold learn; rw [if_neg (by rw [e]; simp)]
def stepL (x : Bool × Lens) (a : Am) : Bool × Lens := (fitB x.2 a.p a.a.length && x.1, learn x.2 a.p a.a.length)
def clauseL (L : Lens) (c : Cl) : Bool × Lens := c.b.foldl (fun x l => stepL x l.a) (stepL (true, L) c.h)
theorem clause_next {L : Lens} {h : Am} {b : List Li} {k : Nat} (hk : k < b.length) : clauseL L ⟨h, b.take (k + 1)⟩ = stepL (clauseL L ⟨h, b.take k⟩) b[k].a := by
  unfold clauseL
  simp only
  rw [List.take_succ_eq_append_getElem hk, List.foldl_append]; rfl
/-! ### literals, one by one -/
abbrev Ax := Am × Option Addr × Nat
def encA (x : Ax) : Value := .agg #[.int .u32 x.1.p, .slice x.2.1 x.1.a.length x.2.2]
def pxA (pre : List Ax) (x : Ax) : List PA := [PA.and (x.1.a.length ≤ 12) (sl tTm x.2.1 x.2.2 x.1.a)]
def litsOf (b : List Li) (nt : Bool) : List Am := (b.filter fun l => l.no == nt).map (·.a)
theorem lits_yes {b : List Li} {nt : Bool} {k : Nat} (hk : k < b.length) (e : b[k].no = nt) : litsOf (b.take (k + 1)) nt = litsOf (b.take k) nt ++ [b[k].a] := by
  unfold litsOf
  rw [List.take_succ_eq_append_getElem hk, List.filter_append, List.map_append, List.filter_cons_of_pos (by simpa using e)]; rfl
theorem lits_no {b : List Li} {nt : Bool} {k : Nat} (hk : k < b.length) (e : ¬ b[k].no = nt) : litsOf (b.take (k + 1)) nt = litsOf (b.take k) nt := by
  unfold litsOf
  rw [List.take_succ_eq_append_getElem hk, List.filter_append, List.filter_cons_of_neg (by simpa using e)]; simp
theorem lits_mem {b : List Li} {nt : Bool} {k : Nat} {a : Am} (h : a ∈ litsOf (b.take k) nt) : a ∈ litsOf b nt := by
  unfold litsOf at *
  rw [List.mem_map] at *
  obtain ⟨l, h1, h2⟩ := h
  rw [List.mem_filter] at h1
  exact ⟨l, List.mem_filter.2 ⟨List.mem_of_mem_take h1.1, h1.2⟩, h2⟩
/-! ### programs -/
def badC (L : Lens) (c : Cl) : Int := if mayC c = false then 8 else if heldC c = false then 10 else if (clauseL L c).1 = false then 9 else 0
def rightF (L : Lens) : List Cl → Nat → Int × Int
  | [], _ => (0, 0)
  | c :: l, i => if badC L c = 0 then rightF (clauseL L c).2 l (i + 1) else ((i : Int), badC L c)
def rightC (l : List Cl) : Int × Int := if 400 < l.length then (0, 6) else rightF (fun _ => none) l 0
theorem may_len {c : Cl} (h : mayC c = true) : c.h.a.length ≤ 12 ∧ ∀ l ∈ c.b, l.a.a.length ≤ 12 := by
  unfold mayC at h
  simp only [Bool.and_eq_true, decide_eq_true_eq, Bool.not_eq_true', List.any_eq_false, Bool.not_eq_true, Bool.not_eq_false'] at h
  have key : ∀ a : Am, mayA a = true → a.a.length ≤ 12 := fun a ha => by
    unfold mayA at ha
    simp only [Bool.and_eq_true, decide_eq_true_eq] at ha
    omega
  exact ⟨key _ h.2.1, fun l hl => key _ (by simpa using h.2.2 l hl)⟩
theorem right_bad {L : Lens} {l : List Cl} {k : Nat} (hk : k < l.length) (h : badC L l[k] ≠ 0) : rightF L (l.drop k) k = ((k : Int), badC L l[k]) := by
  rw [List.drop_eq_getElem_cons hk, rightF, if_neg h]
theorem right_ok {L : Lens} {l : List Cl} {k : Nat} (hk : k < l.length) (h : badC L l[k] = 0) : rightF L (l.drop k) k = rightF (clauseL L l[k]).2 (l.drop (k + 1)) (k + 1) := by
  rw [List.drop_eq_getElem_cons hk, rightF, if_pos h]
/-- the fact that a ground atom is -/
def ofA (a : Am) : Fa := if ground a = true then ⟨a.p, a.a.map (·.n)⟩ else ⟨0, []⟩
/-! ### choices -/
def putT (few : List Int) (is : List Bool) (t : Tm) : Tm := if t.v = true ∧ is[t.n.toNat]? = some true then ⟨false, (few[t.n.toNat]?).getD 0⟩ else t
def putA (few : List Int) (is : List Bool) (a : Am) : Am := ⟨a.p, a.a.map (putT few is)⟩
theorem putT_no {few : List Int} {is : List Bool} {t : Tm} (h : t.v = false) : putT few is t = t := by unfold putT; rw [h]; simp
theorem putT_free {few : List Int} {is : List Bool} {t : Tm} {j : Nat} (hj : j < is.length) (e : t.n = (j : Int)) (h : is[j] = false) : putT few is t = t := by
  unfold putT; rw [e, Int.toNat_natCast, List.getElem?_eq_getElem hj, h]; simp
theorem putT_yes {few : List Int} {is : List Bool} {t : Tm} {j : Nat} (hv : t.v = true) (hf : j < few.length) (hj : j < is.length) (e : t.n = (j : Int)) (h : is[j] = true) : putT few is t = ⟨false, few[j]⟩ := by
  unfold putT; rw [e, Int.toNat_natCast, List.getElem?_eq_getElem hj, h, List.getElem?_eq_getElem hf]; simp [hv]
/-- the choice by which terms become numbers, from place i on -/
def meetL (f : List Int) : List Int × List Bool → List Tm → Nat → List Int × List Bool
  | x, [], _ => x
  | x, t :: l, i => meetL f (if t.v = true then (x.1.set t.n.toNat ((f[i]?).getD 0), x.2.set t.n.toNat true) else x) l (i + 1)
end Go.Proofs.YtkhddfknpegpmaaGreat.SL

/- Choices as values: their cells are known by two lists. -/
set_option linter.unusedVariables false
namespace Go.Proofs.YtkhddfknpegpmaaGreat.SL
theorem takeL_len {α : Type} : ∀ {n : Nat} {l : List α}, l.length = n → takeL n l = some l
  | 0, [], _ => rfl
  | 0, _ :: _, h => by simp at h
  | n + 1, [], h => by simp at h
  | n + 1, a :: l, h => by simp only [takeL, takeL_len (l := l) (n := n) (by simpa using h)]
theorem putL_whole {vs l : List Value} (h : vs.length = l.length) : putL 0 vs l = some vs := by
  rw [putL_put 0 vs l (by omega)]
  simp [putS, h]
theorem hc_len {few : List Int} {is : List Bool} (hf : few.length = 16) (hi : is.length = 16) : (hc few is []).length = 32 := by simp [hc, hf, hi]
theorem oneCells_of : ∀ {l : List Value}, (∀ v ∈ l, oneCells [v] = true) → oneCells l = true
  | [], _ => rfl
  | v :: l, h => by
    have h1 := h v (.head _)
    have h2 := oneCells_of (l := l) fun u hu => h u (.tail _ hu)
    cases v <;> simp_all [oneCells]
theorem hc_one (few : List Int) (is : List Bool) : oneCells (hc few is []) = true := oneCells_of fun v hv => by
  simp only [hc, List.append_nil, List.mem_append, List.mem_map] at hv
  rcases hv with ⟨x, _, rfl⟩ | ⟨x, _, rfl⟩ <;> rfl
theorem beq_of {m n : Nat} (h : m = n) : Nat.beq m n = true := by subst h; exact Nat.beq_refl m
theorem at_all {Ps : List PA} {Os : List OA} {b e n : Nat} {cur : List Value} {rr : List OA} (h : Rem (pt b e cur) Os rr) (hl : cur.length = n) : At Ps Os b 0 n cur :=
  at_any h hl fun i v hv => by rw [Nat.zero_add]; exact hv
theorem at_allcl {Ps : List PA} {Os : List OA} {b n : Nat} {cur : List Value} (h : cl b 0 cur ∈ Ps) (hl : cur.length = n) : At Ps Os b 0 n cur := at_cl 0 h (takeL_len hl)
end Go.Proofs.YtkhddfknpegpmaaGreat.SL

/- What a clause says of facts: by choices gone through, and by valuations. -/
set_option linter.unusedVariables false
set_option linter.unusedSimpArgs false
namespace Go.Proofs.YtkhddfknpegpmaaGreat.SL
section
variable {C : Ctx} {k : List It} {E : Env} {Ps : List PA} {Os : List OA} {ops : Array Oper} {S : World → Prop} {o : Oper} {r : Pl} {f : Bool}
theorem go_skip0f (hw : wants ops E o = some false) (hS : ∀ w hp ho, Sat w hp ho Ps Os → S w) (hd : okDst C.N o.dst = true) (g : Go C (.ops ops S r :: k) (setE o.dst undef E) Ps Os) : Go C (.ops ops S (.one 0 f o r) :: k) E Ps Os := fun a w hp ho hf hs hb => by
  show rwp _ _ _ _ _ _ _
  rw [rwp, if_neg (by rw [wants_eq hf hw]; simp)]
  exact ⟨fun _ => hS w hp ho hs, g _ w hp ho (hf.put hd undef) hs hb⟩
theorem go_val0f {v : Value} (hw : wants ops E o = some true) (h : ∀ a w hp ho, Fits C.N E a → Sat w hp ho Ps Os → (execOp a.eval o).run C.P w = .ok (.value v) w) (hS : ∀ w hp ho, Sat w hp ho Ps Os → S w) (hd : okDst C.N o.dst = true)
    (g : Go C (.ops ops S r :: k) (setE o.dst v E) Ps Os) : Go C (.ops ops S (.one 0 f o r) :: k) E Ps Os := fun a w hp ho hf hs hb => by
  show rwp _ _ _ _ _ _ _
  rw [rwp, if_pos (wants_eq hf hw)]
  unfold Oper.wp
  rw [h a w hp ho hf hs]
  exact ⟨fun _ => hS w hp ho hs, g _ w hp ho (hf.put hd v) hs hb⟩
/-- One thing that is owned, said in other words. -/
theorem go_same {A B : OA} {rr : List OA} (h : Rem A Os rr) (e : A = B) (g : Go C k E Ps (B :: rr)) : Go C k E Ps Os := go_imp A [B] h (fun _ _ q => sep_one (e ▸ q)) g
end
/-- A choice: symbols, and which variables have one. -/
abbrev Ch := List Int × List Bool
def ch0 : Ch := (List.replicate 16 0, List.replicate 16 false)
structure Ch.ok (c : Ch) : Prop where
  f : c.1.length = 16
  i : c.2.length = 16
theorem ch0_ok : ch0.ok := ⟨by simp [ch0], by simp [ch0]⟩
/-- The variables of a list of terms are few. -/
def vok (a : Am) : Prop := ∀ t ∈ a.a, t.v = true → 0 ≤ t.n ∧ t.n < 16
theorem meetL_ok (f : List Int) : ∀ (l : List Tm) (c : Ch) (i : Nat), c.ok → Ch.ok (meetL f c l i)
  | [], c, i, h => h
  | t :: l, c, i, h => by
    unfold meetL
    refine meetL_ok f l _ (i + 1) ?_
    split
    · exact ⟨by simpa using h.f, by simpa using h.i⟩
    · exact h
/-- A valuation agrees with a choice. -/
def agC (c : Ch) (s : Int → Int) : Prop := ∀ j : Nat, c.2[j]? = some true → s (j : Int) = (c.1[j]?).getD 0
theorem agC0 (s : Int → Int) : agC ch0 s := fun j h => by
  simp only [ch0, List.getElem?_replicate] at h
  split at h <;> simp at h
/-- A variable has a symbol. -/
def domC (c : Ch) (n : Int) : Prop := 0 ≤ n ∧ c.2[n.toNat]? = some true
theorem ap_eq {s s' : Int → Int} {a : Am} (h : ∀ t ∈ a.a, t.v = true → s t.n = s' t.n) : ap s a = ap s' a := by
  unfold ap
  congr 1
  refine List.map_congr_left fun t ht => ?_
  unfold tv
  split
  · rename_i e; exact h t ht e
  · rfl
theorem ap_inj {s s' : Int → Int} {a : Am} (h : ap s a = ap s' a) : ∀ t ∈ a.a, t.v = true → s t.n = s' t.n := fun t ht e => by
  have h1 : a.a.map (tv s) = a.a.map (tv s') := by injection h
  have := List.map_inj_left.1 h1 t ht
  simpa [tv, e] using this
/-- A valuation with a choice put over it. -/
def over (c : Ch) (s : Int → Int) : Int → Int := fun n => if c.2[n.toNat]? = some true then (c.1[n.toNat]?).getD 0 else s n
theorem over_ag (c : Ch) (s : Int → Int) : agC c (over c s) := fun j h => by unfold over; rw [Int.toNat_natCast, if_pos h]
theorem ap_put {c : Ch} {s : Int → Int} {a : Am} : ap s (putA c.1 c.2 a) = ap (over c s) a := by
  unfold ap putA
  simp only [List.map_map]
  congr 1
  refine List.map_congr_left fun t ht => ?_
  simp only [Function.comp]
  unfold putT tv over
  by_cases e : t.v = true
  · by_cases g : c.2[t.n.toNat]? = some true
    · simp [e, g]
    · simp [e, g]
  · simp [e]
theorem over_of {c : Ch} {s : Int → Int} {a : Am} (hv : vok a) (h : agC c s) : ap (over c s) a = ap s a := ap_eq fun t ht e => by
  unfold over
  split
  · rename_i g
    have := h t.n.toNat g
    rw [Int.toNat_of_nonneg (hv t ht e).1] at this
    exact this.symm
  · rfl
theorem mtch_put {c : Ch} {a : Am} {f : Fa} (hv : vok a) : mtch (putA c.1 c.2 a) f = true ↔ ∃ s, agC c s ∧ f = ap s a := by
  unfold mtch
  rw [decide_eq_true_iff]
  constructor
  · rintro ⟨s, rfl⟩; exact ⟨over c s, over_ag c s, ap_put⟩
  · rintro ⟨s, h, rfl⟩; exact ⟨s, by rw [ap_put, over_of hv h]⟩
theorem set_at {α : Type} (l : List α) (i j : Nat) (x : α) : (l.set i x)[j]? = if i = j ∧ i < l.length then some x else l[j]? := by
  rw [List.getElem?_set]
  by_cases e : i = j
  · subst e
    by_cases g : i < l.length
    · simp [g]
    · rw [if_pos rfl, if_neg g, if_neg (fun q => g q.2), List.getElem?_eq_none (by omega)]
  · rw [if_neg e, if_neg (fun q => e q.1)]
/-- What a choice becomes by a match. -/
theorem meet_ag (s0 s : Int → Int) : ∀ (l : List Tm) (c : Ch) (f : List Int) (i : Nat), (∀ t ∈ l, t.v = true → 0 ≤ t.n ∧ t.n < 16) → c.ok → agC c s0 → f.drop i = l.map (tv s0) →
    (agC (meetL f c l i) s ↔ agC c s ∧ ∀ t ∈ l, t.v = true → s t.n = s0 t.n)
  | [], c, f, i, _, _, _, _ => by unfold meetL; simp
  | t :: l, c, f, i, hv, hc, hs, hf => by
    unfold meetL
    have hi : i < f.length := by
      have := congrArg List.length hf
      simp at this; omega
    rw [List.drop_eq_getElem_cons hi, List.map_cons, List.cons.injEq] at hf
    have hg : (f[i]?).getD 0 = tv s0 t := by rw [List.getElem?_eq_getElem hi, hf.1]; rfl
    by_cases e : t.v = true
    · rw [if_pos e]
      obtain ⟨h0, h16⟩ := hv t (.head _) e
      have hj : t.n.toNat < 16 := by omega
      have key : ∀ s', agC (c.1.set t.n.toNat ((f[i]?).getD 0), c.2.set t.n.toNat true) s' ↔ s' t.n = s0 t.n ∧ ∀ j : Nat, j ≠ t.n.toNat → c.2[j]? = some true → s' (j : Int) = (c.1[j]?).getD 0 := fun s' => by
        unfold agC
        simp only [set_at, hc.f, hc.i, hj, and_true]
        constructor
        · intro h
          refine ⟨?_, fun j hj' q => ?_⟩
          · have := h t.n.toNat (by simp)
            rw [Int.toNat_of_nonneg h0] at this
            rw [this]; simp [hg, tv, e]
          · have := h j (by rw [if_neg (fun q => hj' q.symm)]; exact q)
            rwa [if_neg (fun q => hj' q.symm)] at this
        · rintro ⟨h1, h2⟩ j q
          by_cases ej : t.n.toNat = j
          · subst ej
            rw [Int.toNat_of_nonneg h0, h1]; simp [hg, tv, e]
          · rw [if_neg ej] at q ⊢
            exact h2 j (fun q => ej q.symm) q
      have hs1 : agC (c.1.set t.n.toNat ((f[i]?).getD 0), c.2.set t.n.toNat true) s0 := (key s0).2 ⟨rfl, fun j _ q => hs j q⟩
      rw [meet_ag s0 s l _ f (i + 1) (fun t ht => hv t (.tail _ ht)) ⟨by simpa using hc.f, by simpa using hc.i⟩ hs1 hf.2, key s]
      constructor
      · rintro ⟨⟨h1, h2⟩, h3⟩
        refine ⟨fun j q => ?_, fun x hx ex => ?_⟩
        · by_cases ej : j = t.n.toNat
          · subst ej
            rw [← hs _ q, Int.toNat_of_nonneg h0, h1]
          · exact h2 j ej q
        · rcases List.mem_cons.1 hx with rfl | hx
          · exact h1
          · exact h3 x hx ex
      · rintro ⟨h1, h2⟩
        exact ⟨⟨h2 t (.head _) e, fun j _ q => h1 j q⟩, fun x hx ex => h2 x (.tail _ hx) ex⟩
    · rw [if_neg e, meet_ag s0 s l c f (i + 1) (fun t ht => hv t (.tail _ ht)) hc hs hf.2]
      constructor
      · rintro ⟨h1, h2⟩
        exact ⟨h1, fun x hx ex => (List.mem_cons.1 hx).elim (fun q => absurd (q ▸ ex) e) (fun q => h2 x q ex)⟩
      · rintro ⟨h1, h2⟩
        exact ⟨h1, fun x hx ex => h2 x (.tail _ hx) ex⟩
theorem meet_dom : ∀ (l : List Tm) (c : Ch) (f : List Int) (i : Nat) (n : Int), (∀ t ∈ l, t.v = true → 0 ≤ t.n ∧ t.n < 16) → c.ok → (domC (meetL f c l i) n ↔ domC c n ∨ ∃ t ∈ l, t.v = true ∧ t.n = n)
  | [], c, f, i, n, _, _ => by unfold meetL; simp
  | t :: l, c, f, i, n, hv, hc => by
    unfold meetL
    by_cases e : t.v = true
    · rw [if_pos e]
      obtain ⟨h0, h16⟩ := hv t (.head _) e
      rw [meet_dom l _ f (i + 1) n (fun t ht => hv t (.tail _ ht)) ⟨by simpa using hc.f, by simpa using hc.i⟩]
      have : domC (c.1.set t.n.toNat ((f[i]?).getD 0), c.2.set t.n.toNat true) n ↔ domC c n ∨ t.n = n := by
        unfold domC
        simp only [set_at, hc.i, show t.n.toNat < 16 by omega, and_true]
        constructor
        · rintro ⟨g1, g2⟩
          by_cases ej : t.n.toNat = n.toNat
          · exact .inr (by omega)
          · rw [if_neg ej] at g2; exact .inl ⟨g1, g2⟩
        · rintro (⟨g1, g2⟩ | rfl)
          · refine ⟨g1, ?_⟩; split
            · rfl
            · exact g2
          · exact ⟨h0, by simp⟩
      rw [this]
      simp only [List.mem_cons, exists_eq_or_imp, e, true_and]
      rw [or_assoc]
    · rw [if_neg e, meet_dom l c f (i + 1) n (fun t ht => hv t (.tail _ ht)) hc]
      simp only [List.mem_cons, exists_eq_or_imp, e, false_and, false_or]
      simp
theorem ofA_put {c : Ch} {s : Int → Int} {a : Am} (hv : vok a) (h : agC c s) (hd : ∀ t ∈ a.a, t.v = true → domC c t.n) : ofA (putA c.1 c.2 a) = ap s a := by
  have hg : ∀ t ∈ (putA c.1 c.2 a).a, t.v = false := fun t ht => by
    simp only [putA, List.mem_map] at ht
    obtain ⟨u, hu, rfl⟩ := ht
    unfold putT
    by_cases e : u.v = true
    · rw [if_pos ⟨e, (hd u hu e).2⟩]
    · rw [if_neg (fun q => e q.1)]; simpa using e
  have hgr : ground (putA c.1 c.2 a) = true := by
    unfold ground
    simp only [Bool.not_eq_true', List.any_eq_false, Bool.not_eq_true]
    exact hg
  rw [ofA, if_pos hgr, ← over_of hv h, ← ap_put (s := s)]
  unfold ap
  congr 1
  refine List.map_congr_left fun t ht => ?_
  simp [tv, hg t ht]
/-- Nothing of what is Not is there. -/
def okN (N : List Fa) (b : List Li) (c : Ch) : Bool := !(b.any fun l => l.no && decide (ofA (putA c.1 c.2 l.a) ∈ N))
/-- The heads, in the order in which they are found. -/
noncomputable def goL (c : Cl) (F R N : List Fa) : List Li → Ch → Bool → List Fa
  | [], ch, new => if okN N c.b ch = true ∧ new = true then [ofA (putA ch.1 ch.2 c.h)] else []
  | l :: r, ch, new => if l.no = true then goL c F R N r ch new else (F.filter (mtch (putA ch.1 ch.2 l.a))).flatMap fun f => goL c F R N r (meetL f.a ch l.a.a 0) (new || decide (f ∈ R))
/-- A head, by a valuation. -/
def Hd (c : Cl) (F R N : Fa → Prop) (some : Bool) (x : Fa) : Prop :=
  ∃ s, (∀ l ∈ c.b, l.no = false → F (ap s l.a)) ∧ (∀ l ∈ c.b, l.no = true → ¬ N (ap s l.a)) ∧ (some = true → ∃ l ∈ c.b, l.no = false ∧ R (ap s l.a)) ∧ x = ap s c.h
structure RightC (c : Cl) : Prop where
  vh : vok c.h
  vb : ∀ l ∈ c.b, vok l.a
  held : ∀ t ∈ c.h.a, t.v = true → t.n ∈ heldBy c
  heldN : ∀ l ∈ c.b, l.no = true → ∀ t ∈ l.a.a, t.v = true → t.n ∈ heldBy c
theorem mem_vars {a : Am} {n : Int} : n ∈ vars a ↔ ∃ t ∈ a.a, t.v = true ∧ t.n = n := by
  unfold vars
  simp only [List.mem_map, List.mem_filter]
  constructor
  · rintro ⟨t, ⟨h1, h2⟩, h3⟩; exact ⟨t, h1, h2, h3⟩
  · rintro ⟨t, h1, h2, h3⟩; exact ⟨t, ⟨h1, h2⟩, h3⟩
theorem mem_heldBy {c : Cl} {n : Int} : n ∈ heldBy c ↔ ∃ l ∈ c.b, l.no = false ∧ ∃ t ∈ l.a.a, t.v = true ∧ t.n = n := by
  unfold heldBy
  simp only [List.mem_flatMap, List.mem_filter, mem_vars]
  constructor
  · rintro ⟨l, ⟨h1, h2⟩, h3⟩; exact ⟨l, h1, by simpa using h2, h3⟩
  · rintro ⟨l, h1, h2, h3⟩; exact ⟨l, ⟨h1, by simpa using h2⟩, h3⟩
theorem mem_goL {c : Cl} (hc : RightC c) (F R N : List Fa) (x : Fa) : ∀ (r : List Li) (ch : Ch) (new : Bool), (∀ l ∈ r, l ∈ c.b) → ch.ok → (∀ n ∈ heldBy c, domC ch n ∨ ∃ l ∈ r, l.no = false ∧ ∃ t ∈ l.a.a, t.v = true ∧ t.n = n) →
    (x ∈ goL c F R N r ch new ↔ ∃ s, agC ch s ∧ (∀ l ∈ r, l.no = false → ap s l.a ∈ F) ∧ (∀ l ∈ c.b, l.no = true → ¬ ap s l.a ∈ N) ∧ (new = true ∨ ∃ l ∈ r, l.no = false ∧ ap s l.a ∈ R) ∧ x = ap s c.h)
  | [], ch, new, _, hok, hd => by
    unfold goL
    have hd' : ∀ n ∈ heldBy c, domC ch n := fun n hn => by
      rcases hd n hn with h | ⟨l, hl, _⟩
      · exact h
      · cases hl
    have hN : ∀ s, agC ch s → (okN N c.b ch = true ↔ ∀ l ∈ c.b, l.no = true → ¬ ap s l.a ∈ N) := fun s hs => by
      unfold okN
      simp only [Bool.not_eq_true', List.any_eq_false, Bool.and_eq_true, decide_eq_true_eq, not_and]
      constructor
      · intro h l hl e; rw [← ofA_put (hc.vb l hl) hs (fun t ht et => hd' _ (hc.heldN l hl e t ht et))]; exact h l hl e
      · intro h l hl e; rw [ofA_put (hc.vb l hl) hs (fun t ht et => hd' _ (hc.heldN l hl e t ht et))]; exact h l hl e
    have hH : ∀ s, agC ch s → ofA (putA ch.1 ch.2 c.h) = ap s c.h := fun s hs => ofA_put hc.vh hs fun t ht et => hd' _ (hc.held t ht et)
    constructor
    · intro h
      split at h
      · rename_i g
        refine ⟨over ch fun _ => 0, over_ag _ _, (fun l hl => nomatch hl), (hN _ (over_ag _ _)).1 g.1, .inl g.2, ?_⟩
        rw [List.mem_singleton] at h
        rw [h, hH _ (over_ag _ _)]
      · cases h
    · rintro ⟨s, h1, _, h3, h4, h5⟩
      have h4' : new = true := h4.elim id fun ⟨l, hl, _⟩ => nomatch hl
      rw [if_pos ⟨(hN s h1).2 h3, h4'⟩, List.mem_singleton, hH s h1, h5]
  | l :: r, ch, new, hr, hok, hd => by
    unfold goL
    by_cases e : l.no = true
    · rw [if_pos e, mem_goL hc F R N x r ch new (fun m hm => hr m (.tail _ hm)) hok (fun n hn => (hd n hn).imp id fun ⟨m, hm, h1, h2⟩ => by
        rcases List.mem_cons.1 hm with rfl | hm
        · rw [e] at h1; cases h1
        · exact ⟨m, hm, h1, h2⟩)]
      constructor
      · rintro ⟨s, h1, h2, h3, h4, h5⟩
        exact ⟨s, h1, fun m hm hn => (List.mem_cons.1 hm).elim (fun q => by rw [q, e] at hn; cases hn) (fun q => h2 m q hn), h3, h4.imp id fun ⟨m, hm, q⟩ => ⟨m, .tail _ hm, q⟩, h5⟩
      · rintro ⟨s, h1, h2, h3, h4, h5⟩
        exact ⟨s, h1, fun m hm hn => h2 m (.tail _ hm) hn, h3, h4.imp id fun ⟨m, hm, q⟩ => by
          rcases List.mem_cons.1 hm with rfl | hm
          · rw [e] at q; cases q.1
          · exact ⟨m, hm, q⟩, h5⟩
    · have e' : l.no = false := by simpa using e
      have hvl := hc.vb l (hr l (.head _))
      rw [if_neg e, List.mem_flatMap]
      have step : ∀ (s0 : Int → Int), agC ch s0 → ∀ s, agC (meetL (ap s0 l.a).a ch l.a.a 0) s ↔ agC ch s ∧ ap s l.a = ap s0 l.a := fun s0 h0 s => by
        rw [meet_ag s0 s l.a.a ch (ap s0 l.a).a 0 hvl hok h0 rfl]
        exact ⟨fun ⟨h1, h2⟩ => ⟨h1, ap_eq h2⟩, fun ⟨h1, h2⟩ => ⟨h1, ap_inj h2⟩⟩
      have ih : ∀ f, x ∈ goL c F R N r (meetL f.a ch l.a.a 0) (new || decide (f ∈ R)) ↔ _ := fun f => mem_goL hc F R N x r (meetL f.a ch l.a.a 0) (new || decide (f ∈ R)) (fun m hm => hr m (.tail _ hm)) (meetL_ok _ _ _ _ hok) (fun n hn => by
        rw [meet_dom l.a.a ch f.a 0 n hvl hok]
        rcases hd n hn with h | ⟨m, hm, h1, h2⟩
        · exact .inl (.inl h)
        · rcases List.mem_cons.1 hm with rfl | hm
          · exact .inl (.inr h2)
          · exact .inr ⟨m, hm, h1, h2⟩)
      constructor
      · rintro ⟨f, hf, hx⟩
        rw [List.mem_filter, mtch_put hvl] at hf
        obtain ⟨hF, s0, hs0, rfl⟩ := hf
        rw [ih] at hx
        obtain ⟨s, h1, h2, h3, h4, h5⟩ := hx
        obtain ⟨g1, g2⟩ := (step s0 hs0 s).1 h1
        refine ⟨s, g1, fun m hm hn => ?_, h3, ?_, h5⟩
        · rcases List.mem_cons.1 hm with rfl | hm
          · rw [g2]; exact hF
          · exact h2 m hm hn
        · rcases h4 with h4 | ⟨m, hm, q⟩
          · rw [Bool.or_eq_true, decide_eq_true_eq] at h4
            exact h4.imp id fun h4 => ⟨l, .head _, e', by rw [g2]; exact h4⟩
          · exact .inr ⟨m, .tail _ hm, q⟩
      · rintro ⟨s, h1, h2, h3, h4, h5⟩
        refine ⟨ap s l.a, ?_, ?_⟩
        · rw [List.mem_filter, mtch_put hvl]
          exact ⟨h2 l (.head _) e', s, h1, rfl⟩
        · rw [ih]
          refine ⟨s, (step s h1 s).2 ⟨h1, rfl⟩, fun m hm hn => h2 m (.tail _ hm) hn, h3, ?_, h5⟩
          rw [Bool.or_eq_true, decide_eq_true_eq]
          rcases h4 with h4 | ⟨m, hm, q⟩
          · exact .inl (.inl h4)
          · rcases List.mem_cons.1 hm with rfl | hm
            · exact .inl (.inr q.2)
            · exact .inr ⟨m, hm, q⟩
/-- All heads, in order. -/
noncomputable def headsL (c : Cl) (F R N : List Fa) (some : Bool) : List Fa := fof (goL c F R N c.b ch0 (!some))
theorem mem_headsL {c : Cl} (hc : RightC c) {F R N : List Fa} {some : Bool} {x : Fa} : x ∈ headsL c F R N some ↔ Hd c (· ∈ F) (· ∈ R) (· ∈ N) some x := by
  unfold headsL
  rw [mem_fof, mem_goL hc F R N x c.b ch0 (!some) (fun l hl => hl) ch0_ok (fun n hn => .inr (mem_heldBy.1 hn))]
  unfold Hd
  constructor
  · rintro ⟨s, _, h2, h3, h4, h5⟩
    refine ⟨s, h2, h3, fun e => ?_, h5⟩
    subst e
    exact h4.elim (fun q => by cases q) id
  · rintro ⟨s, h2, h3, h4, h5⟩
    refine ⟨s, agC0 s, h2, h3, ?_, h5⟩
    cases some
    · exact .inl rfl
    · exact .inr (h4 rfl)
theorem goL_len (c : Cl) (F R N : List Fa) : ∀ (r : List Li) (ch : Ch) (new : Bool), (goL c F R N r ch new).length ≤ F.length ^ (r.filter fun l => !l.no).length
  | [], ch, new => by unfold goL; split <;> simp
  | l :: r, ch, new => by
    unfold goL
    by_cases e : l.no = true
    · rw [if_pos e, List.filter_cons_of_neg (by simp [e])]
      exact goL_len c F R N r ch new
    · rw [if_neg e, List.filter_cons_of_pos (by simpa using e), List.length_cons, Nat.pow_succ, Nat.mul_comm]
      have key : ∀ X : List Fa, (X.flatMap fun f => goL c F R N r (meetL f.a ch l.a.a 0) (new || decide (f ∈ R))).length ≤ X.length * F.length ^ (r.filter fun l => !l.no).length := fun X => by
        induction X with
        | nil => simp
        | cons y X ih =>
          rw [List.flatMap_cons, List.length_append, List.length_cons, Nat.add_mul, Nat.one_mul, Nat.add_comm]
          exact Nat.add_le_add ih (goL_len c F R N r _ _)
      exact Nat.le_trans (key _) (Nat.mul_le_mul_right _ (List.length_filter_le _ _))
end Go.Proofs.YtkhddfknpegpmaaGreat.SL

/- Laws of heads: what they are of more facts, of other orders, of other names. -/
set_option linter.unusedVariables false
set_option linter.unusedSimpArgs false
namespace Go.Proofs.YtkhddfknpegpmaaGreat.SL
/-- A clause as it comes: its numbers are ones of 32 bits. -/
def Cl.ok (c : Cl) : Prop := c.h.ok ∧ ∀ l ∈ c.b, l.a.ok
theorem may_vok {a : Am} (h : mayA a = true) (g : a.ok) : vok a := fun t ht e => by
  unfold mayA at h
  simp only [Bool.and_eq_true, Bool.not_eq_true', List.any_eq_false, decide_eq_true_eq, not_and] at h
  have := h.2 t ht e
  exact ⟨(g.2 t ht).1, by omega⟩
theorem may_len6 {a : Am} (h : mayA a = true) : a.a.length ≤ 6 := by
  unfold mayA at h
  simp only [Bool.and_eq_true, decide_eq_true_eq] at h
  exact h.1
theorem mayA_iff {a : Am} : mayA a = true ↔ a.a.length ≤ 6 ∧ ∀ t ∈ a.a, t.v = true → t.n < 16 := by
  unfold mayA
  simp only [Bool.and_eq_true, Bool.not_eq_true', List.any_eq_false, decide_eq_true_eq, not_and, Int.not_le]
theorem mayC_iff {c : Cl} : mayC c = true ↔ c.b.length ≤ 8 ∧ mayA c.h = true ∧ ∀ l ∈ c.b, mayA l.a = true := by
  unfold mayC
  simp only [Bool.and_eq_true, decide_eq_true_eq, Bool.not_eq_true', List.any_eq_false, Bool.not_eq_true, Bool.not_eq_false', Bool.not_eq_false]
theorem mayC_of {c : Cl} (h : mayC c = true) : c.b.length ≤ 8 ∧ mayA c.h = true ∧ ∀ l ∈ c.b, mayA l.a = true := mayC_iff.1 h
def heldP (c : Cl) : Prop := (∀ t ∈ c.h.a, t.v = true → t.n ∈ heldBy c) ∧ ∀ l ∈ c.b, l.no = true → ∀ t ∈ l.a.a, t.v = true → t.n ∈ heldBy c
theorem heldC_iff {c : Cl} : heldC c = true ↔ heldP c := by
  unfold heldC heldP
  simp only [Bool.and_eq_true, List.all_eq_true, decide_eq_true_eq, List.mem_filter]
  constructor
  · intro h
    exact ⟨fun t ht e => h.2 _ (mem_vars.2 ⟨t, ht, e, rfl⟩), fun l hl e t ht et => h.1 l ⟨hl, e⟩ _ (mem_vars.2 ⟨t, ht, et, rfl⟩)⟩
  · intro h
    refine ⟨fun l hl v hv => ?_, fun v hv => ?_⟩
    · obtain ⟨t, ht, e, rfl⟩ := mem_vars.1 hv
      exact h.2 l hl.1 hl.2 t ht e
    · obtain ⟨t, ht, e, rfl⟩ := mem_vars.1 hv
      exact h.1 t ht e
theorem right_of {c : Cl} (hm : mayC c = true) (hh : heldC c = true) (ho : c.ok) : RightC c := by
  obtain ⟨_, h1, h2⟩ := mayC_of hm
  obtain ⟨h3, h4⟩ := heldC_iff.1 hh
  exact ⟨may_vok h1 ho.1, fun l hl => may_vok (h2 l hl) (ho.2 l hl), h3, h4⟩
/-! ### lengths -/
def atomsC (c : Cl) : List Am := c.h :: c.b.map (·.a)
def sameLen (ats : List Am) : Prop := ∀ a ∈ ats, ∀ b ∈ ats, a.p = b.p → a.a.length = b.a.length
theorem fitB_iff {L : Lens} {p n : Int} : fitB L p n = true ↔ ∀ k, L p = some k → k = n := by
  unfold fitB
  cases e : L p with
  | none => simp
  | some k => simp
theorem lens_fold : ∀ (ats : List Am) (x : Bool × Lens), (ats.foldl stepL x).1 = true ↔ x.1 = true ∧ (∀ a ∈ ats, ∀ k, x.2 a.p = some k → k = (a.a.length : Int)) ∧ sameLen ats
  | [], x => by simp [sameLen]
  | a :: r, x => by
    rw [List.foldl_cons, lens_fold r (stepL x a)]
    unfold stepL
    simp only [Bool.and_eq_true, fitB_iff]
    constructor
    · rintro ⟨⟨h1, h2⟩, h3, h4⟩
      have key : ∀ b ∈ r, a.p = b.p → a.a.length = b.a.length := fun b hb e => by
        cases q : x.2 a.p with
        | none =>
          have := h3 b hb a.a.length (by unfold learn; rw [if_pos ⟨e.symm, q⟩])
          omega
        | some k =>
          have g1 := h1 k q
          have := h3 b hb k (by rw [learn_old q, ← e]; exact q)
          omega
      refine ⟨h2, ?_, ?_⟩
      · intro b hb k q
        rcases List.mem_cons.1 hb with rfl | hb
        · exact h1 k q
        · by_cases e : b.p = a.p
          · have g1 := h1 k (by rw [← e]; exact q)
            have g2 := key b hb e.symm
            omega
          · exact h3 b hb k (by unfold learn; rw [if_neg (fun z => e z.1)]; exact q)
      · intro b hb d hd e
        rcases List.mem_cons.1 hb with rfl | hb <;> rcases List.mem_cons.1 hd with rfl | hd
        · rfl
        · exact key d (by assumption) e
        · exact (key b (by assumption) e.symm).symm
        · exact h4 b (by assumption) d (by assumption) e
    · rintro ⟨h1, h2, h3⟩
      refine ⟨⟨h2 a (.head _), h1⟩, fun b hb k q => ?_, fun b hb d hd => h3 b (.tail _ hb) d (.tail _ hd)⟩
      unfold learn at q
      split at q
      · rename_i e
        cases q
        have := h3 b (.tail _ hb) a (.head _) e.1
        omega
      · exact h2 b (.tail _ hb) k q
theorem clause_lens {L : Lens} {c : Cl} : (clauseL L c).1 = true ↔ (∀ a ∈ atomsC c, ∀ k, L a.p = some k → k = (a.a.length : Int)) ∧ sameLen (atomsC c) := by
  have : clauseL L c = (atomsC c).foldl stepL (true, L) := by
    unfold clauseL atomsC
    rw [List.foldl_cons, List.foldl_map]
  rw [this, lens_fold]; simp
theorem right_iff {c : Cl} : (rightC [c]).2 = 0 ↔ mayC c = true ∧ heldP c ∧ sameLen (atomsC c) := by
  have h0 : (clauseL (fun _ => none) c).1 = true ↔ sameLen (atomsC c) := by rw [clause_lens]; simp
  rw [← h0, ← heldC_iff]
  unfold rightC
  rw [if_neg (by simp)]
  unfold rightF
  by_cases e : badC (fun _ => none) c = 0
  · rw [if_pos e]
    unfold badC at e
    constructor
    · intro _
      split at e
      · cases e
      · split at e
        · cases e
        · split at e
          · cases e
          · rename_i h1 h2 h3
            exact ⟨by simpa using h1, by simpa using h2, by simpa using h3⟩
    · intro _; rfl
  · rw [if_neg e]
    constructor
    · intro h; exact absurd h e
    · rintro ⟨h1, h2, h3⟩
      exact absurd (by unfold badC; rw [h1, h2, h3]; rfl) e
theorem right_one {c : Cl} (h : (rightC [c]).2 = 0) : mayC c = true ∧ heldC c = true ∧ (clauseL (fun _ => none) c).1 = true := by
  obtain ⟨h1, h2, h3⟩ := right_iff.1 h
  exact ⟨h1, heldC_iff.2 h2, by rw [clause_lens]; exact ⟨(fun a _ k q => nomatch q), h3⟩⟩
/-- What join.heads answers. -/
noncomputable def headsC (c : Cl) (F R N : List Fa) (some : Bool) : List Fa := if (rightC [c]).2 = 0 then headsL c F R N some else []
theorem headsC_rises (c : Cl) (F R N : List Fa) (some : Bool) : rises (headsC c F R N some) := by
  unfold headsC
  split
  · exact rises_fof _
  · exact rises_nil
theorem mem_headsC {c : Cl} (ho : c.ok) (hr : (rightC [c]).2 = 0) {F R N : List Fa} {some : Bool} {x : Fa} : x ∈ headsC c F R N some ↔ Hd c (· ∈ F) (· ∈ R) (· ∈ N) some x := by
  unfold headsC
  rw [if_pos hr, mem_headsL (right_of (right_one hr).1 (right_one hr).2.1 ho)]
theorem headsC_not {c : Cl} (hr : ¬ (rightC [c]).2 = 0) (F R N : List Fa) (some : Bool) : headsC c F R N some = [] := by unfold headsC; rw [if_neg hr]
theorem mem_headsC' {c : Cl} (ho : c.ok) {F R N : List Fa} {some : Bool} {x : Fa} : x ∈ headsC c F R N some ↔ (rightC [c]).2 = 0 ∧ Hd c (· ∈ F) (· ∈ R) (· ∈ N) some x := by
  by_cases hr : (rightC [c]).2 = 0
  · rw [mem_headsC ho hr]; simp [hr]
  · rw [headsC_not hr]; simp [hr]
theorem Hd.mono {c : Cl} {F F' R R' N N' : Fa → Prop} {some : Bool} {x : Fa} (h : Hd c F R N some x) (hF : ∀ y, F y → F' y) (hR : ∀ y, R y → R' y) (hN : ∀ y, N' y → N y) : Hd c F' R' N' some x := by
  obtain ⟨s, h1, h2, h3, h4⟩ := h
  exact ⟨s, fun l hl e => hF _ (h1 l hl e), fun l hl e q => h2 l hl e (hN _ q), fun e => by obtain ⟨l, hl, e1, e2⟩ := h3 e; exact ⟨l, hl, e1, hR _ e2⟩, h4⟩
theorem Hd.any {c : Cl} {F R N : Fa → Prop} {x : Fa} (h : Hd c F R N true x) (R' : Fa → Prop) : Hd c F R' N false x := by
  obtain ⟨s, h1, h2, h3, h4⟩ := h
  exact ⟨s, h1, h2, (fun e => nomatch e), h4⟩
theorem fof_self {l : List Fa} (h : rises l) : fof l = l := (fof_all h (fun _ hx => hx) (fun _ hx => hx)).symm
/-- More facts: the heads of the facts, and the news of all. -/
theorem heads_grow {c : Cl} (ho : c.ok) (a b : List Fa) : headsC c (fof (a ++ b)) [] [] false = fof (headsC c (fof a) [] [] false ++ headsC c (fof (a ++ b)) (fof b) [] true) := by
  refine rises_ext (headsC_rises _ _ _ _ _) (rises_fof _) fun x => ?_
  rw [mem_fof, List.mem_append, mem_headsC' ho, mem_headsC' ho, mem_headsC' ho, ← and_or_left]
  refine and_congr_right fun hr => ?_
  constructor
  · rintro ⟨s, h1, h2, _, h4⟩
    by_cases q : ∃ l ∈ c.b, l.no = false ∧ ap s l.a ∈ fof b
    · exact .inr ⟨s, h1, h2, fun _ => q, h4⟩
    · refine .inl ⟨s, fun l hl e => ?_, h2, (fun e => nomatch e), h4⟩
      have := List.mem_append.1 (mem_fof.1 (h1 l hl e))
      show ap s l.a ∈ fof a
      rcases this with h | h
      · exact mem_fof.2 h
      · exact absurd ⟨l, hl, e, mem_fof.2 h⟩ q
  · rintro (h | h)
    · exact h.mono (fun y hy => mem_fof.2 (List.mem_append_left _ (mem_fof.1 hy))) (fun _ q => q) (fun _ q => q)
    · exact h.any _
/-- More that is not to be: no more heads. -/
theorem heads_less {c : Cl} (ho : c.ok) {F N : List Fa} {x : Fa} (h : x ∈ headsC c F [] N false) : x ∈ headsC c F [] [] false := by
  rw [mem_headsC' ho] at h ⊢
  exact ⟨h.1, h.2.mono (fun _ q => q) (fun _ q => q) (fun _ q => nomatch q)⟩
/-- The same literals in another order, however often. -/
theorem heads_same {c d : Cl} (ho : c.ok) (hh : d.h = c.h) (hc : c.b.length ≤ 8) (hd : d.b.length ≤ 8) (hm : ∀ l, l ∈ d.b ↔ l ∈ c.b) (F R N : List Fa) (some : Bool) : headsC d F R N some = headsC c F R N some := by
  have hod : d.ok := ⟨by rw [hh]; exact ho.1, fun l hl => ho.2 l ((hm l).1 hl)⟩
  have hby : ∀ n, n ∈ heldBy d ↔ n ∈ heldBy c := fun n => by
    rw [mem_heldBy, mem_heldBy]
    exact ⟨fun ⟨l, h1, h2⟩ => ⟨l, (hm l).1 h1, h2⟩, fun ⟨l, h1, h2⟩ => ⟨l, (hm l).2 h1, h2⟩⟩
  have hat : ∀ a, a ∈ atomsC d ↔ a ∈ atomsC c := fun a => by
    unfold atomsC
    simp only [List.mem_cons, List.mem_map, hm, hh]
  have hr : (rightC [d]).2 = 0 ↔ (rightC [c]).2 = 0 := by
    rw [right_iff, right_iff, mayC_iff, mayC_iff]
    unfold heldP sameLen
    simp only [hh, hm, hat, hby, hc, hd, true_and]
  refine rises_ext (headsC_rises _ _ _ _ _) (headsC_rises _ _ _ _ _) fun x => ?_
  rw [mem_headsC' ho, mem_headsC' hod, hr]
  unfold Hd
  simp only [hh, hm]
/-- A literal more makes no more heads. -/
theorem heads_more {c d : Cl} (ho : c.ok) (hod : d.ok) (hh : d.h = c.h) (hc : c.b.length ≤ 8) (hm : ∀ l, l ∈ c.b → l ∈ d.b) (hs : heldP c) {F N : List Fa} {x : Fa} (h : x ∈ headsC d F [] N false) : x ∈ headsC c F [] N false := by
  rw [mem_headsC' hod, right_iff, mayC_iff] at h
  rw [mem_headsC' ho, right_iff, mayC_iff]
  obtain ⟨⟨⟨h1, h2, h3⟩, h4, h5⟩, s, g1, g2, g3, g4⟩ := h
  refine ⟨⟨⟨hc, by rw [← hh]; exact h2, fun l hl => h3 l (hm l hl)⟩, hs, fun a ha b hb => ?_⟩, s, fun l hl e => g1 l (hm l hl) e, fun l hl e => g2 l (hm l hl) e, (fun e => nomatch e), by rw [← hh]; exact g4⟩
  have sub : ∀ a ∈ atomsC c, a ∈ atomsC d := fun a ha => by
    unfold atomsC at ha ⊢
    simp only [List.mem_cons, List.mem_map, hh] at ha ⊢
    exact ha.imp id fun ⟨l, hl, e⟩ => ⟨l, hm l hl, e⟩
  exact h5 a (sub a ha) b (sub b hb)
/-! ### other names of variables -/
def rho (by_ n : Int) : Int := if n < 16 then (n + by_) % 16 else n
def renT (by_ : Int) (t : Tm) : Tm := if t.v = true then ⟨true, rho by_ t.n⟩ else t
def renA (by_ : Int) (a : Am) : Am := ⟨a.p, a.a.map (renT by_)⟩
def renC (by_ : Int) (c : Cl) : Cl := ⟨renA by_ c.h, (c.b.map fun l => (⟨l.no, renA by_ l.a⟩ : Li)).reverse⟩
theorem rho_inv {by_ n : Int} (hn : 0 ≤ n) : rho (- by_) (rho by_ n) = n := by
  unfold rho
  by_cases h : n < 16
  · rw [if_pos h, if_pos (by omega)]; omega
  · rw [if_neg h, if_neg h]
theorem rho_inj {by_ m n : Int} (hm : 0 ≤ m) (hn : 0 ≤ n) (e : rho by_ m = rho by_ n) : m = n := by rw [← rho_inv (by_ := by_) hm, e, rho_inv hn]
theorem ap_ren (s : Int → Int) (by_ : Int) (a : Am) : ap s (renA by_ a) = ap (fun n => s (rho by_ n)) a := by
  unfold ap renA
  simp only [List.map_map]
  congr 1
  refine List.map_congr_left fun t _ => ?_
  simp only [Function.comp, tv, renT]
  by_cases e : t.v = true
  · simp [e]
  · simp [e]
theorem renT_v (by_ : Int) (t : Tm) : (renT by_ t).v = t.v := by unfold renT; split <;> simp_all
theorem rho_lt {by_ n : Int} (hn : 0 ≤ n) : rho by_ n < 16 ↔ n < 16 := by
  unfold rho
  split <;> omega
theorem mem_ren {by_ : Int} {a : Am} {φ : Int → Prop} : (∀ t ∈ (renA by_ a).a, t.v = true → φ t.n) ↔ ∀ t ∈ a.a, t.v = true → φ (rho by_ t.n) := by
  unfold renA
  simp only [List.mem_map, forall_exists_index, and_imp, forall_apply_eq_imp_iff₂, renT_v]
  refine forall_congr' fun t => forall_congr' fun _ => forall_congr' fun e => ?_
  unfold renT
  rw [if_pos e]
theorem may_ren {by_ : Int} {a : Am} (ho : a.ok) : mayA (renA by_ a) = true ↔ mayA a = true := by
  rw [mayA_iff, mayA_iff, mem_ren (φ := fun n => n < 16)]
  refine and_congr (by simp [renA]) (forall_congr' fun t => forall_congr' fun ht => forall_congr' fun _ => rho_lt (ho.2 t ht).1)
theorem rho_ok {by_ n : Int} (h : 0 ≤ n ∧ n < 4294967296) : 0 ≤ rho by_ n ∧ rho by_ n < 4294967296 := by unfold rho; split <;> omega
theorem renA_ok {by_ : Int} {a : Am} (h : a.ok) : (renA by_ a).ok := ⟨h.1, fun t ht => by
  simp only [renA, List.mem_map] at ht
  obtain ⟨u, hu, rfl⟩ := ht
  unfold renT
  split
  · exact rho_ok (h.2 u hu)
  · exact h.2 u hu⟩
theorem mem_renC {by_ : Int} {c : Cl} {l : Li} : l ∈ (renC by_ c).b ↔ ∃ m ∈ c.b, (⟨m.no, renA by_ m.a⟩ : Li) = l := by
  unfold renC
  simp only [List.mem_reverse, List.mem_map]
theorem renC_ok {by_ : Int} {c : Cl} (h : c.ok) : (renC by_ c).ok := ⟨renA_ok h.1, fun l hl => by
  obtain ⟨m, hm, rfl⟩ := mem_renC.1 hl
  exact renA_ok (h.2 m hm)⟩
theorem held_ren {by_ : Int} {c : Cl} (ho : c.ok) {n : Int} (hn : 0 ≤ n) : rho by_ n ∈ heldBy (renC by_ c) ↔ n ∈ heldBy c := by
  rw [mem_heldBy, mem_heldBy]
  constructor
  · rintro ⟨l, hl, e, t, ht, et, g⟩
    obtain ⟨m, hm, rfl⟩ := mem_renC.1 hl
    simp only [renA, List.mem_map] at ht
    obtain ⟨u, hu, rfl⟩ := ht
    rw [renT_v] at et
    refine ⟨m, hm, e, u, hu, et, ?_⟩
    unfold renT at g
    rw [if_pos et] at g
    exact rho_inj ((ho.2 m hm).2 u hu).1 hn g
  · rintro ⟨m, hm, e, u, hu, et, rfl⟩
    exact ⟨_, mem_renC.2 ⟨m, hm, rfl⟩, e, renT by_ u, List.mem_map.2 ⟨u, hu, rfl⟩, by rw [renT_v]; exact et, by unfold renT; rw [if_pos et]⟩
theorem right_ren {by_ : Int} {c : Cl} (ho : c.ok) : (rightC [renC by_ c]).2 = 0 ↔ (rightC [c]).2 = 0 := by
  rw [right_iff, right_iff, mayC_iff, mayC_iff]
  refine and_congr (and_congr (by simp [renC]) (and_congr (may_ren ho.1) ?_)) (and_congr (and_congr ?_ ?_) ?_)
  · constructor
    · intro h l hl; exact (may_ren (ho.2 l hl)).1 (h _ (mem_renC.2 ⟨l, hl, rfl⟩))
    · intro h l hl
      obtain ⟨m, hm, rfl⟩ := mem_renC.1 hl
      exact (may_ren (ho.2 m hm)).2 (h m hm)
  · show (∀ t ∈ (renA by_ c.h).a, _) ↔ _
    rw [mem_ren (φ := fun n => n ∈ heldBy (renC by_ c))]
    exact forall_congr' fun t => forall_congr' fun ht => forall_congr' fun _ => held_ren ho (ho.1.2 t ht).1
  · constructor
    · intro h l hl e t ht et
      exact (held_ren ho ((ho.2 l hl).2 t ht).1).1 ((mem_ren (φ := fun n => n ∈ heldBy (renC by_ c))).1 (h _ (mem_renC.2 ⟨l, hl, rfl⟩) e) t ht et)
    · intro h l hl e
      obtain ⟨m, hm, rfl⟩ := mem_renC.1 hl
      exact (mem_ren (φ := fun n => n ∈ heldBy (renC by_ c))).2 fun t ht et => (held_ren ho ((ho.2 m hm).2 t ht).1).2 (h m hm e t ht et)
  · have ha : ∀ a, a ∈ atomsC (renC by_ c) ↔ ∃ b ∈ atomsC c, renA by_ b = a := fun a => by
      unfold atomsC
      simp only [List.mem_cons, List.mem_map, mem_renC, exists_eq_or_imp]
      refine or_congr ⟨fun h => h.symm, fun h => h.symm⟩ ⟨?_, ?_⟩
      · rintro ⟨l, ⟨m, hm, rfl⟩, rfl⟩; exact ⟨m.a, ⟨m, hm, rfl⟩, rfl⟩
      · rintro ⟨b, ⟨m, hm, rfl⟩, rfl⟩; exact ⟨_, ⟨m, hm, rfl⟩, rfl⟩
    have hl : ∀ a : Am, (renA by_ a).a.length = a.a.length := fun a => by simp [renA]
    constructor
    · intro h a ha' b hb' e
      have := h _ ((ha _).2 ⟨a, ha', rfl⟩) _ ((ha _).2 ⟨b, hb', rfl⟩) e
      rwa [hl, hl] at this
    · intro h a ha' b hb' e
      obtain ⟨a', g1, rfl⟩ := (ha _).1 ha'
      obtain ⟨b', g2, rfl⟩ := (ha _).1 hb'
      rw [hl, hl]; exact h a' g1 b' g2 e
theorem heads_ren {by_ : Int} {c : Cl} (ho : c.ok) (F N : List Fa) : headsC (renC by_ c) F [] N false = headsC c F [] N false := by
  refine rises_ext (headsC_rises _ _ _ _ _) (headsC_rises _ _ _ _ _) fun x => ?_
  rw [mem_headsC' ho, mem_headsC' (renC_ok ho), right_ren ho]
  refine and_congr_right fun _ => ?_
  constructor
  · rintro ⟨s, h1, h2, _, h4⟩
    refine ⟨fun n => s (rho by_ n), fun l hl e => ?_, fun l hl e => ?_, (fun e => nomatch e), by rw [h4]; exact ap_ren s by_ c.h⟩
    · rw [← ap_ren]; exact h1 _ (mem_renC.2 ⟨l, hl, rfl⟩) e
    · rw [← ap_ren]; exact h2 _ (mem_renC.2 ⟨l, hl, rfl⟩) e
  · rintro ⟨s, h1, h2, _, h4⟩
    have key : ∀ a : Am, a.ok → ap (fun n => s (rho (- by_) n)) (renA by_ a) = ap s a := fun a ha => by
      rw [ap_ren]
      exact ap_eq fun t ht _ => by rw [rho_inv (ha.2 t ht).1]
    refine ⟨fun n => s (rho (- by_) n), fun l hl e => ?_, fun l hl e => ?_, (fun e => nomatch e), by rw [h4]; exact (key c.h ho.1).symm⟩
    · obtain ⟨m, hm, rfl⟩ := mem_renC.1 hl
      simp only at e ⊢
      rw [key _ (ho.2 m hm)]; exact h1 m hm e
    · obtain ⟨m, hm, rfl⟩ := mem_renC.1 hl
      simp only at e ⊢
      rw [key _ (ho.2 m hm)]; exact h2 m hm e
theorem renT_yes {by_ : Int} {t : Tm} (h : t.v = true) (g : t.n < 16) : renT by_ t = ⟨t.v, (t.n + by_) % 16⟩ := by unfold renT rho; rw [if_pos h, if_pos g, h]
theorem renT_no {by_ : Int} {t : Tm} (h : t.v = true → ¬ t.n < 16) : renT by_ t = t := by
  unfold renT rho
  by_cases e : t.v = true
  · rw [if_pos e, if_neg (h e)]
    obtain ⟨v, n⟩ := t
    simp only at e ⊢
    rw [e]
  · rw [if_neg e]
def renB (by_ : Int) (b : List Li) : List Li := (b.map fun l => (⟨l.no, renA by_ l.a⟩ : Li)).reverse
theorem renB_next {by_ : Int} {b : List Li} {n : Nat} (h0 : 0 < n) (hn : n ≤ b.length) : renB by_ (b.drop (n - 1)) = renB by_ (b.drop n) ++ [⟨(b[n - 1]'(by omega)).no, renA by_ (b[n - 1]'(by omega)).a⟩] := by
  unfold renB
  rw [List.drop_eq_getElem_cons (show n - 1 < b.length by omega), List.map_cons, List.reverse_cons, show n - 1 + 1 = n by omega]
theorem renB_len (by_ : Int) (b : List Li) (n : Nat) : (renB by_ (b.drop n)).length ≤ b.length := by simp [renB]
theorem goL_ren {by_ : Int} (c : Cl) : ((renC by_ c).b.filter fun l => !l.no).length = (c.b.filter fun l => !l.no).length := by
  unfold renC
  simp only [List.filter_reverse, List.length_reverse, List.filter_map, List.length_map]
  rfl
theorem mem_swap {α : Type} {l : List α} {i j : Nat} (hi : i < l.length) (hj : j < l.length) (x : α) : x ∈ (l.set i l[j]).set j l[i] ↔ x ∈ l := by
  constructor
  · intro h
    rcases List.mem_or_eq_of_mem_set h with h | rfl
    · rcases List.mem_or_eq_of_mem_set h with h | rfl
      · exact h
      · exact List.getElem_mem _
    · exact List.getElem_mem _
  · intro h
    obtain ⟨k, hk, rfl⟩ := List.getElem_of_mem h
    by_cases e1 : k = i
    · subst e1
      exact List.mem_of_getElem? (i := j) (by rw [List.getElem?_set_self (by simpa using hj)])
    · by_cases e2 : k = j
      · subst e2
        refine List.mem_of_getElem? (i := i) ?_
        by_cases e3 : k = i
        · exact absurd e3 e1
        · rw [List.getElem?_set_ne e3, List.getElem?_set_self hi]
      · exact List.mem_of_getElem? (i := k) (by rw [List.getElem?_set_ne (fun q => e2 q.symm), List.getElem?_set_ne (fun q => e1 q.symm), List.getElem?_eq_getElem hk])
end Go.Proofs.YtkhddfknpegpmaaGreat.SL

/- Rows of literals with the places of their Args. -/
set_option linter.unusedVariables false
set_option linter.unusedSimpArgs false
namespace Go.Proofs.YtkhddfknpegpmaaGreat.SL
structure Ly where
  l : Li
  A : Option Addr
  c : Nat
def fcLy (x : Ly) : List Value := [.bool x.l.no, .int .u32 x.l.a.p, .slice x.A x.l.a.a.length x.c]
def tLy : Ty Ly := ⟨3, fun h x cs => cs = fcLy x ∧ Sl tTm h x.A x.c x.l.a.a, fun ⟨e, _⟩ => by subst e; rfl, fun ⟨e, _⟩ => by subst e; rfl, fun hl ⟨e, s⟩ => ⟨e, s.up hl⟩⟩
theorem fcLy_eq : ∀ (h : Heap) (x : Ly) (cs : List Value), tLy.rep h x cs → cs = fcLy x := fun _ _ _ h => h.1
theorem Reps.toLy {h : Heap} : ∀ {l : List Li} {cs : List Value}, Reps tLi h l cs → ∃ xs : List Ly, xs.map (fun x : Ly => x.l) = l ∧ Reps tLy h xs cs
  | [], cs, e => ⟨[], rfl, e⟩
  | x :: l, _, ⟨a, b, e, r, s⟩ => by
    obtain ⟨A, c, rfl, sx⟩ := tLi_open r
    obtain ⟨xs, h1, h2⟩ := Reps.toLy s
    exact ⟨⟨x, A, c⟩ :: xs, by simp [h1], _, _, e, ⟨rfl, sx⟩, h2⟩
theorem Reps.ofLy {h : Heap} : ∀ {xs : List Ly} {cs : List Value}, Reps tLy h xs cs → Reps tLi h (xs.map fun x : Ly => x.l) cs
  | [], _, e => e
  | x :: xs, _, ⟨a, b, e, ⟨r, sx⟩, s⟩ => ⟨a, b, e, by rw [r]; exact tLi_mk sx, s.ofLy⟩
section
variable {C : Ctx} {k : List It} {E : Env} {Ps : List PA} {Os : List OA}
theorem go_toLy {e : Nat} {A : Option Addr} {c : Nat} {l : List Li} {rr : List OA} (h : Rem (ol tLi e A c l) Os rr) (g : ∀ xs : List Ly, xs.map (fun x : Ly => x.l) = l → xs.length = l.length → Go C k E Ps (ol tLy e A c xs :: rr)) : Go C k E Ps Os := fun a w hp ho hf hs hb => by
  obtain ⟨g1, g2, i, b, d, ⟨cs, r, s⟩, sp⟩ := Sep.rem h hs.os
  obtain ⟨xs, h1, h2⟩ := s.toLy
  have hl : xs.length = l.length := by rw [← h1]; simp
  exact g xs h1 hl a w hp ho hf ⟨hs.inp, hs.ino, hs.dj, hs.ps, g1, g2, i, b, d, ⟨cs, by rw [hl]; exact r, h2⟩, sp⟩ hb
theorem go_ofLy {e : Nat} {A : Option Addr} {c : Nat} {xs : List Ly} {rr : List OA} (h : Rem (ol tLy e A c xs) Os rr) (g : Go C k E Ps (ol tLi e A c (xs.map fun x : Ly => x.l) :: rr)) : Go C k E Ps Os := fun a w hp ho hf hs hb => by
  obtain ⟨g1, g2, i, b, d, ⟨cs, r, s⟩, sp⟩ := Sep.rem h hs.os
  exact g a w hp ho hf ⟨hs.inp, hs.ino, hs.dj, hs.ps, g1, g2, i, b, d, ⟨cs, by rw [List.length_map]; exact r, s.ofLy⟩, sp⟩ hb
theorem go_atLy {e : Nat} {A : Option Addr} {c : Nat} {xs : List Ly} {rr : List OA} (h : Rem (ol tLy e A c xs) Os rr) (j : Nat) {x : Ly} (hj : xs[j]? = some x) (g : Go C k E (sl tTm x.A x.c x.l.a.a :: Ps) Os) : Go C k E Ps Os := fun a w hp ho hf hs hb => by
  obtain ⟨g1, g2, i, b, d, ⟨cs, r, s⟩, sp⟩ := Sep.rem h hs.os
  obtain ⟨ds, ⟨_, h1⟩, _⟩ := s.at j x hj
  exact g a w hp ho hf (hs.addp (q := sl tTm x.A x.c x.l.a.a) h1) hb
theorem ent_Ly {x : Ly} (h : sl tTm x.A x.c x.l.a.a ∈ Ps) : Ent Ps (rp tLy x (fcLy x)) := fun hp a => ⟨rfl, a _ h⟩
end
theorem heldC_no {c : Cl} (h : ¬ heldP c) : heldC c = false := Bool.eq_false_iff.2 fun e => h (heldC_iff.1 e)
theorem perm_swap {c : List Li} {xs : List Ly} (h : List.Perm (xs.map fun x : Ly => x.l) c) {i j : Nat} (hi : i < xs.length) (hj : j < xs.length) : List.Perm (((xs.set i xs[j]).set j xs[i]).map fun x : Ly => x.l) c :=
  ((List.set_set_perm hi hj).map _).trans h
/-- How many literals are not Not. -/
def posN (b : List Li) : Nat := (b.filter fun l => !l.no).length
theorem posN_perm {a b : List Li} (h : List.Perm a b) : posN a = posN b := (h.filter _).length_eq
theorem posN_app (a b : List Li) : posN (a ++ b) = posN a + posN b := by simp [posN]
theorem posN_le (b : List Li) : posN b ≤ b.length := List.length_filter_le _ _
theorem pow_small {F p n : Nat} (h : p ≤ 4 ∧ n ≤ 60 ∨ p ≤ 8 ∧ n ≤ 8) (hF : F ≤ n) : F ^ p ≤ 50000000 := by
  rcases h with ⟨h1, h2⟩ | ⟨h1, h2⟩
  · exact Nat.le_trans (Nat.pow_le_pow_left (show F ≤ 60 by omega) _) (Nat.le_trans (Nat.pow_le_pow_right (by omega) h1) (by decide))
  · exact Nat.le_trans (Nat.pow_le_pow_left (show F ≤ 8 by omega) _) (Nat.le_trans (Nat.pow_le_pow_right (by omega) h1) (by decide))
end Go.Proofs.YtkhddfknpegpmaaGreat.SL

/- The table of the program's types, for the engine. -/
open Go
namespace Go.Proofs.YtkhddfknpegpmaaGreat.SL
noncomputable def tiOf (i : TypeInfo) (u : TypeDesc) : TI := ⟨u, i.size, (match u with | .struct _ => true | .array _ _ => true | _ => false), i.zero.getD undef, i.bytes⟩
noncomputable def T1 : TI := tiOf Tryz.t1 Tryz.t1.desc
theorem K1 : TOne Tryz.prog 1 T1 := ⟨Tryz.underlying1, Tryz.sizeOf1, Tryz.isAgg1, Tryz.zeroValue1, Tryz.t1, by kernel_rfl, rfl, rfl, rfl⟩
noncomputable def T2 : TI := tiOf Tryz.t2 Tryz.t2.desc
theorem K2 : TOne Tryz.prog 2 T2 := ⟨Tryz.underlying2, Tryz.sizeOf2, Tryz.isAgg2, Tryz.zeroValue2, Tryz.t2, by kernel_rfl, rfl, rfl, rfl⟩
noncomputable def T3 : TI := tiOf Tryz.t3 Tryz.t3.desc
theorem K3 : TOne Tryz.prog 3 T3 := ⟨Tryz.underlying3, Tryz.sizeOf3, Tryz.isAgg3, Tryz.zeroValue3, Tryz.t3, by kernel_rfl, rfl, rfl, rfl⟩
noncomputable def T4 : TI := tiOf Tryz.t4 Tryz.t4.desc
theorem K4 : TOne Tryz.prog 4 T4 := ⟨Tryz.underlying4, Tryz.sizeOf4, Tryz.isAgg4, Tryz.zeroValue4, Tryz.t4, by kernel_rfl, rfl, rfl, rfl⟩
noncomputable def T5 : TI := tiOf Tryz.t5 Tryz.t5.desc
theorem K5 : TOne Tryz.prog 5 T5 := ⟨Tryz.underlying5, Tryz.sizeOf5, Tryz.isAgg5, Tryz.zeroValue5, Tryz.t5, by kernel_rfl, rfl, rfl, rfl⟩
noncomputable def T6 : TI := tiOf Tryz.t6 Tryz.t5.desc
theorem K6 : TOne Tryz.prog 6 T6 := ⟨Tryz.underlying6, Tryz.sizeOf6, Tryz.isAgg6, Tryz.zeroValue6, Tryz.t6, by kernel_rfl, rfl, rfl, rfl⟩
noncomputable def T7 : TI := tiOf Tryz.t7 Tryz.t7.desc
theorem K7 : TOne Tryz.prog 7 T7 := ⟨Tryz.underlying7, Tryz.sizeOf7, Tryz.isAgg7, Tryz.zeroValue7, Tryz.t7, by kernel_rfl, rfl, rfl, rfl⟩
noncomputable def T8 : TI := tiOf Tryz.t8 Tryz.t7.desc
theorem K8 : TOne Tryz.prog 8 T8 := ⟨Tryz.underlying8, Tryz.sizeOf8, Tryz.isAgg8, Tryz.zeroValue8, Tryz.t8, by kernel_rfl, rfl, rfl, rfl⟩
noncomputable def T9 : TI := tiOf Tryz.t9 Tryz.t9.desc
theorem K9 : TOne Tryz.prog 9 T9 := ⟨Tryz.underlying9, Tryz.sizeOf9, Tryz.isAgg9, Tryz.zeroValue9, Tryz.t9, by kernel_rfl, rfl, rfl, rfl⟩
noncomputable def T10 : TI := tiOf Tryz.t10 Tryz.t9.desc
theorem K10 : TOne Tryz.prog 10 T10 := ⟨Tryz.underlying10, Tryz.sizeOf10, Tryz.isAgg10, Tryz.zeroValue10, Tryz.t10, by kernel_rfl, rfl, rfl, rfl⟩
noncomputable def T11 : TI := tiOf Tryz.t11 Tryz.t9.desc
theorem K11 : TOne Tryz.prog 11 T11 := ⟨Tryz.underlying11, Tryz.sizeOf11, Tryz.isAgg11, Tryz.zeroValue11, Tryz.t11, by kernel_rfl, rfl, rfl, rfl⟩
noncomputable def T12 : TI := tiOf Tryz.t12 Tryz.t12.desc
theorem K12 : TOne Tryz.prog 12 T12 := ⟨Tryz.underlying12, Tryz.sizeOf12, Tryz.isAgg12, Tryz.zeroValue12, Tryz.t12, by kernel_rfl, rfl, rfl, rfl⟩
noncomputable def T13 : TI := tiOf Tryz.t13 Tryz.t13.desc
theorem K13 : TOne Tryz.prog 13 T13 := ⟨Tryz.underlying13, Tryz.sizeOf13, Tryz.isAgg13, Tryz.zeroValue13, Tryz.t13, by kernel_rfl, rfl, rfl, rfl⟩
noncomputable def T14 : TI := tiOf Tryz.t14 Tryz.t13.desc
theorem K14 : TOne Tryz.prog 14 T14 := ⟨Tryz.underlying14, Tryz.sizeOf14, Tryz.isAgg14, Tryz.zeroValue14, Tryz.t14, by kernel_rfl, rfl, rfl, rfl⟩
noncomputable def T15 : TI := tiOf Tryz.t15 Tryz.t15.desc
theorem K15 : TOne Tryz.prog 15 T15 := ⟨Tryz.underlying15, Tryz.sizeOf15, Tryz.isAgg15, Tryz.zeroValue15, Tryz.t15, by kernel_rfl, rfl, rfl, rfl⟩
noncomputable def T16 : TI := tiOf Tryz.t16 Tryz.t16.desc
theorem K16 : TOne Tryz.prog 16 T16 := ⟨Tryz.underlying16, Tryz.sizeOf16, Tryz.isAgg16, Tryz.zeroValue16, Tryz.t16, by kernel_rfl, rfl, rfl, rfl⟩
noncomputable def T17 : TI := tiOf Tryz.t17 Tryz.t17.desc
theorem K17 : TOne Tryz.prog 17 T17 := ⟨Tryz.underlying17, Tryz.sizeOf17, Tryz.isAgg17, Tryz.zeroValue17, Tryz.t17, by kernel_rfl, rfl, rfl, rfl⟩
noncomputable def T18 : TI := tiOf Tryz.t18 Tryz.t18.desc
theorem K18 : TOne Tryz.prog 18 T18 := ⟨Tryz.underlying18, Tryz.sizeOf18, Tryz.isAgg18, Tryz.zeroValue18, Tryz.t18, by kernel_rfl, rfl, rfl, rfl⟩
noncomputable def T19 : TI := tiOf Tryz.t19 Tryz.t18.desc
theorem K19 : TOne Tryz.prog 19 T19 := ⟨Tryz.underlying19, Tryz.sizeOf19, Tryz.isAgg19, Tryz.zeroValue19, Tryz.t19, by kernel_rfl, rfl, rfl, rfl⟩
noncomputable def T20 : TI := tiOf Tryz.t20 Tryz.t20.desc
theorem K20 : TOne Tryz.prog 20 T20 := ⟨Tryz.underlying20, Tryz.sizeOf20, Tryz.isAgg20, Tryz.zeroValue20, Tryz.t20, by kernel_rfl, rfl, rfl, rfl⟩
noncomputable def T21 : TI := tiOf Tryz.t21 Tryz.t21.desc
theorem K21 : TOne Tryz.prog 21 T21 := ⟨Tryz.underlying21, Tryz.sizeOf21, Tryz.isAgg21, Tryz.zeroValue21, Tryz.t21, by kernel_rfl, rfl, rfl, rfl⟩
noncomputable def T22 : TI := tiOf Tryz.t22 Tryz.t22.desc
theorem K22 : TOne Tryz.prog 22 T22 := ⟨Tryz.underlying22, Tryz.sizeOf22, Tryz.isAgg22, Tryz.zeroValue22, Tryz.t22, by kernel_rfl, rfl, rfl, rfl⟩
noncomputable def T23 : TI := tiOf Tryz.t23 Tryz.t23.desc
theorem K23 : TOne Tryz.prog 23 T23 := ⟨Tryz.underlying23, Tryz.sizeOf23, Tryz.isAgg23, Tryz.zeroValue23, Tryz.t23, by kernel_rfl, rfl, rfl, rfl⟩
noncomputable def T24 : TI := tiOf Tryz.t24 Tryz.t24.desc
theorem K24 : TOne Tryz.prog 24 T24 := ⟨Tryz.underlying24, Tryz.sizeOf24, Tryz.isAgg24, Tryz.zeroValue24, Tryz.t24, by kernel_rfl, rfl, rfl, rfl⟩
noncomputable def T25 : TI := tiOf Tryz.t25 Tryz.t24.desc
theorem K25 : TOne Tryz.prog 25 T25 := ⟨Tryz.underlying25, Tryz.sizeOf25, Tryz.isAgg25, Tryz.zeroValue25, Tryz.t25, by kernel_rfl, rfl, rfl, rfl⟩
noncomputable def T26 : TI := tiOf Tryz.t26 Tryz.t26.desc
theorem K26 : TOne Tryz.prog 26 T26 := ⟨Tryz.underlying26, Tryz.sizeOf26, Tryz.isAgg26, Tryz.zeroValue26, Tryz.t26, by kernel_rfl, rfl, rfl, rfl⟩
noncomputable def T27 : TI := tiOf Tryz.t27 Tryz.t27.desc
theorem K27 : TOne Tryz.prog 27 T27 := ⟨Tryz.underlying27, Tryz.sizeOf27, Tryz.isAgg27, Tryz.zeroValue27, Tryz.t27, by kernel_rfl, rfl, rfl, rfl⟩
noncomputable def T28 : TI := tiOf Tryz.t28 Tryz.t27.desc
theorem K28 : TOne Tryz.prog 28 T28 := ⟨Tryz.underlying28, Tryz.sizeOf28, Tryz.isAgg28, Tryz.zeroValue28, Tryz.t28, by kernel_rfl, rfl, rfl, rfl⟩
noncomputable def T29 : TI := tiOf Tryz.t29 Tryz.t29.desc
theorem K29 : TOne Tryz.prog 29 T29 := ⟨Tryz.underlying29, Tryz.sizeOf29, Tryz.isAgg29, Tryz.zeroValue29, Tryz.t29, by kernel_rfl, rfl, rfl, rfl⟩
noncomputable def T30 : TI := tiOf Tryz.t30 Tryz.t30.desc
theorem K30 : TOne Tryz.prog 30 T30 := ⟨Tryz.underlying30, Tryz.sizeOf30, Tryz.isAgg30, Tryz.zeroValue30, Tryz.t30, by kernel_rfl, rfl, rfl, rfl⟩
noncomputable def T31 : TI := tiOf Tryz.t31 Tryz.t31.desc
theorem K31 : TOne Tryz.prog 31 T31 := ⟨Tryz.underlying31, Tryz.sizeOf31, Tryz.isAgg31, Tryz.zeroValue31, Tryz.t31, by kernel_rfl, rfl, rfl, rfl⟩
noncomputable def T32 : TI := tiOf Tryz.t32 Tryz.t32.desc
theorem K32 : TOne Tryz.prog 32 T32 := ⟨Tryz.underlying32, Tryz.sizeOf32, Tryz.isAgg32, Tryz.zeroValue32, Tryz.t32, by kernel_rfl, rfl, rfl, rfl⟩
noncomputable def T33 : TI := tiOf Tryz.t33 Tryz.t33.desc
theorem K33 : TOne Tryz.prog 33 T33 := ⟨Tryz.underlying33, Tryz.sizeOf33, Tryz.isAgg33, Tryz.zeroValue33, Tryz.t33, by kernel_rfl, rfl, rfl, rfl⟩
noncomputable def T34 : TI := tiOf Tryz.t34 Tryz.t34.desc
theorem K34 : TOne Tryz.prog 34 T34 := ⟨Tryz.underlying34, Tryz.sizeOf34, Tryz.isAgg34, Tryz.zeroValue34, Tryz.t34, by kernel_rfl, rfl, rfl, rfl⟩
noncomputable def T35 : TI := tiOf Tryz.t35 Tryz.t35.desc
theorem K35 : TOne Tryz.prog 35 T35 := ⟨Tryz.underlying35, Tryz.sizeOf35, Tryz.isAgg35, Tryz.zeroValue35, Tryz.t35, by kernel_rfl, rfl, rfl, rfl⟩
noncomputable def T36 : TI := tiOf Tryz.t36 Tryz.t36.desc
theorem K36 : TOne Tryz.prog 36 T36 := ⟨Tryz.underlying36, Tryz.sizeOf36, Tryz.isAgg36, Tryz.zeroValue36, Tryz.t36, by kernel_rfl, rfl, rfl, rfl⟩
noncomputable def T37 : TI := tiOf Tryz.t37 Tryz.t37.desc
theorem K37 : TOne Tryz.prog 37 T37 := ⟨Tryz.underlying37, Tryz.sizeOf37, Tryz.isAgg37, Tryz.zeroValue37, Tryz.t37, by kernel_rfl, rfl, rfl, rfl⟩
noncomputable def T38 : TI := tiOf Tryz.t38 Tryz.t38.desc
theorem K38 : TOne Tryz.prog 38 T38 := ⟨Tryz.underlying38, Tryz.sizeOf38, Tryz.isAgg38, Tryz.zeroValue38, Tryz.t38, by kernel_rfl, rfl, rfl, rfl⟩
noncomputable def T39 : TI := tiOf Tryz.t39 Tryz.t39.desc
theorem K39 : TOne Tryz.prog 39 T39 := ⟨Tryz.underlying39, Tryz.sizeOf39, Tryz.isAgg39, Tryz.zeroValue39, Tryz.t39, by kernel_rfl, rfl, rfl, rfl⟩
noncomputable def T40 : TI := tiOf Tryz.t40 Tryz.t40.desc
theorem K40 : TOne Tryz.prog 40 T40 := ⟨Tryz.underlying40, Tryz.sizeOf40, Tryz.isAgg40, Tryz.zeroValue40, Tryz.t40, by kernel_rfl, rfl, rfl, rfl⟩
noncomputable def T41 : TI := tiOf Tryz.t41 Tryz.t3.desc
theorem K41 : TOne Tryz.prog 41 T41 := ⟨Tryz.underlying41, Tryz.sizeOf41, Tryz.isAgg41, Tryz.zeroValue41, Tryz.t41, by kernel_rfl, rfl, rfl, rfl⟩
noncomputable def T43 : TI := tiOf Tryz.t43 Tryz.t43.desc
theorem K43 : TOne Tryz.prog 43 T43 := ⟨Tryz.underlying43, Tryz.sizeOf43, Tryz.isAgg43, Tryz.zeroValue43, Tryz.t43, by kernel_rfl, rfl, rfl, rfl⟩
noncomputable def T45 : TI := tiOf Tryz.t45 Tryz.t45.desc
theorem K45 : TOne Tryz.prog 45 T45 := ⟨Tryz.underlying45, Tryz.sizeOf45, Tryz.isAgg45, Tryz.zeroValue45, Tryz.t45, by kernel_rfl, rfl, rfl, rfl⟩
noncomputable def T46 : TI := tiOf Tryz.t46 Tryz.t46.desc
theorem K46 : TOne Tryz.prog 46 T46 := ⟨Tryz.underlying46, Tryz.sizeOf46, Tryz.isAgg46, Tryz.zeroValue46, Tryz.t46, by kernel_rfl, rfl, rfl, rfl⟩
noncomputable def T47 : TI := tiOf Tryz.t47 Tryz.t47.desc
theorem K47 : TOne Tryz.prog 47 T47 := ⟨Tryz.underlying47, Tryz.sizeOf47, Tryz.isAgg47, Tryz.zeroValue47, Tryz.t47, by kernel_rfl, rfl, rfl, rfl⟩
noncomputable def T48 : TI := tiOf Tryz.t48 Tryz.t48.desc
theorem K48 : TOne Tryz.prog 48 T48 := ⟨Tryz.underlying48, Tryz.sizeOf48, Tryz.isAgg48, Tryz.zeroValue48, Tryz.t48, by kernel_rfl, rfl, rfl, rfl⟩
noncomputable def T49 : TI := tiOf Tryz.t49 Tryz.t49.desc
theorem K49 : TOne Tryz.prog 49 T49 := ⟨Tryz.underlying49, Tryz.sizeOf49, Tryz.isAgg49, Tryz.zeroValue49, Tryz.t49, by kernel_rfl, rfl, rfl, rfl⟩
noncomputable def T50 : TI := tiOf Tryz.t50 Tryz.t50.desc
theorem K50 : TOne Tryz.prog 50 T50 := ⟨Tryz.underlying50, Tryz.sizeOf50, Tryz.isAgg50, Tryz.zeroValue50, Tryz.t50, by kernel_rfl, rfl, rfl, rfl⟩
noncomputable def T51 : TI := tiOf Tryz.t51 Tryz.t51.desc
theorem K51 : TOne Tryz.prog 51 T51 := ⟨Tryz.underlying51, Tryz.sizeOf51, Tryz.isAgg51, Tryz.zeroValue51, Tryz.t51, by kernel_rfl, rfl, rfl, rfl⟩
noncomputable def T52 : TI := tiOf Tryz.t52 Tryz.t51.desc
theorem K52 : TOne Tryz.prog 52 T52 := ⟨Tryz.underlying52, Tryz.sizeOf52, Tryz.isAgg52, Tryz.zeroValue52, Tryz.t52, by kernel_rfl, rfl, rfl, rfl⟩
noncomputable def T53 : TI := tiOf Tryz.t53 Tryz.t53.desc
theorem K53 : TOne Tryz.prog 53 T53 := ⟨Tryz.underlying53, Tryz.sizeOf53, Tryz.isAgg53, Tryz.zeroValue53, Tryz.t53, by kernel_rfl, rfl, rfl, rfl⟩
noncomputable def T54 : TI := tiOf Tryz.t54 Tryz.t54.desc
theorem K54 : TOne Tryz.prog 54 T54 := ⟨Tryz.underlying54, Tryz.sizeOf54, Tryz.isAgg54, Tryz.zeroValue54, Tryz.t54, by kernel_rfl, rfl, rfl, rfl⟩
noncomputable def T55 : TI := tiOf Tryz.t55 Tryz.t55.desc
theorem K55 : TOne Tryz.prog 55 T55 := ⟨Tryz.underlying55, Tryz.sizeOf55, Tryz.isAgg55, Tryz.zeroValue55, Tryz.t55, by kernel_rfl, rfl, rfl, rfl⟩
noncomputable def T56 : TI := tiOf Tryz.t56 Tryz.t56.desc
theorem K56 : TOne Tryz.prog 56 T56 := ⟨Tryz.underlying56, Tryz.sizeOf56, Tryz.isAgg56, Tryz.zeroValue56, Tryz.t56, by kernel_rfl, rfl, rfl, rfl⟩
noncomputable def T57 : TI := tiOf Tryz.t57 Tryz.t57.desc
theorem K57 : TOne Tryz.prog 57 T57 := ⟨Tryz.underlying57, Tryz.sizeOf57, Tryz.isAgg57, Tryz.zeroValue57, Tryz.t57, by kernel_rfl, rfl, rfl, rfl⟩
noncomputable def T58 : TI := tiOf Tryz.t58 Tryz.t57.desc
theorem K58 : TOne Tryz.prog 58 T58 := ⟨Tryz.underlying58, Tryz.sizeOf58, Tryz.isAgg58, Tryz.zeroValue58, Tryz.t58, by kernel_rfl, rfl, rfl, rfl⟩
noncomputable def T59 : TI := tiOf Tryz.t59 Tryz.t59.desc
theorem K59 : TOne Tryz.prog 59 T59 := ⟨Tryz.underlying59, Tryz.sizeOf59, Tryz.isAgg59, Tryz.zeroValue59, Tryz.t59, by kernel_rfl, rfl, rfl, rfl⟩
noncomputable def T60 : TI := tiOf Tryz.t60 Tryz.t60.desc
theorem K60 : TOne Tryz.prog 60 T60 := ⟨Tryz.underlying60, Tryz.sizeOf60, Tryz.isAgg60, Tryz.zeroValue60, Tryz.t60, by kernel_rfl, rfl, rfl, rfl⟩
noncomputable def T61 : TI := tiOf Tryz.t61 Tryz.t60.desc
theorem K61 : TOne Tryz.prog 61 T61 := ⟨Tryz.underlying61, Tryz.sizeOf61, Tryz.isAgg61, Tryz.zeroValue61, Tryz.t61, by kernel_rfl, rfl, rfl, rfl⟩
noncomputable def T62 : TI := tiOf Tryz.t62 Tryz.t62.desc
theorem K62 : TOne Tryz.prog 62 T62 := ⟨Tryz.underlying62, Tryz.sizeOf62, Tryz.isAgg62, Tryz.zeroValue62, Tryz.t62, by kernel_rfl, rfl, rfl, rfl⟩
noncomputable def T63 : TI := tiOf Tryz.t63 Tryz.t63.desc
theorem K63 : TOne Tryz.prog 63 T63 := ⟨Tryz.underlying63, Tryz.sizeOf63, Tryz.isAgg63, Tryz.zeroValue63, Tryz.t63, by kernel_rfl, rfl, rfl, rfl⟩
noncomputable def T64 : TI := tiOf Tryz.t64 Tryz.t64.desc
theorem K64 : TOne Tryz.prog 64 T64 := ⟨Tryz.underlying64, Tryz.sizeOf64, Tryz.isAgg64, Tryz.zeroValue64, Tryz.t64, by kernel_rfl, rfl, rfl, rfl⟩
noncomputable def T65 : TI := tiOf Tryz.t65 Tryz.t65.desc
theorem K65 : TOne Tryz.prog 65 T65 := ⟨Tryz.underlying65, Tryz.sizeOf65, Tryz.isAgg65, Tryz.zeroValue65, Tryz.t65, by kernel_rfl, rfl, rfl, rfl⟩
noncomputable def T66 : TI := tiOf Tryz.t66 Tryz.t66.desc
theorem K66 : TOne Tryz.prog 66 T66 := ⟨Tryz.underlying66, Tryz.sizeOf66, Tryz.isAgg66, Tryz.zeroValue66, Tryz.t66, by kernel_rfl, rfl, rfl, rfl⟩
noncomputable def T67 : TI := tiOf Tryz.t67 Tryz.t67.desc
theorem K67 : TOne Tryz.prog 67 T67 := ⟨Tryz.underlying67, Tryz.sizeOf67, Tryz.isAgg67, Tryz.zeroValue67, Tryz.t67, by kernel_rfl, rfl, rfl, rfl⟩
noncomputable def T68 : TI := tiOf Tryz.t68 Tryz.t68.desc
theorem K68 : TOne Tryz.prog 68 T68 := ⟨Tryz.underlying68, Tryz.sizeOf68, Tryz.isAgg68, Tryz.zeroValue68, Tryz.t68, by kernel_rfl, rfl, rfl, rfl⟩
noncomputable def T69 : TI := tiOf Tryz.t69 Tryz.t69.desc
theorem K69 : TOne Tryz.prog 69 T69 := ⟨Tryz.underlying69, Tryz.sizeOf69, Tryz.isAgg69, Tryz.zeroValue69, Tryz.t69, by kernel_rfl, rfl, rfl, rfl⟩
noncomputable def T70 : TI := tiOf Tryz.t70 Tryz.t70.desc
theorem K70 : TOne Tryz.prog 70 T70 := ⟨Tryz.underlying70, Tryz.sizeOf70, Tryz.isAgg70, Tryz.zeroValue70, Tryz.t70, by kernel_rfl, rfl, rfl, rfl⟩
noncomputable def T71 : TI := tiOf Tryz.t71 Tryz.t70.desc
theorem K71 : TOne Tryz.prog 71 T71 := ⟨Tryz.underlying71, Tryz.sizeOf71, Tryz.isAgg71, Tryz.zeroValue71, Tryz.t71, by kernel_rfl, rfl, rfl, rfl⟩
noncomputable def T72 : TI := tiOf Tryz.t72 Tryz.t72.desc
theorem K72 : TOne Tryz.prog 72 T72 := ⟨Tryz.underlying72, Tryz.sizeOf72, Tryz.isAgg72, Tryz.zeroValue72, Tryz.t72, by kernel_rfl, rfl, rfl, rfl⟩
noncomputable def T73 : TI := tiOf Tryz.t73 Tryz.t73.desc
theorem K73 : TOne Tryz.prog 73 T73 := ⟨Tryz.underlying73, Tryz.sizeOf73, Tryz.isAgg73, Tryz.zeroValue73, Tryz.t73, by kernel_rfl, rfl, rfl, rfl⟩
noncomputable def T74 : TI := tiOf Tryz.t74 Tryz.t74.desc
theorem K74 : TOne Tryz.prog 74 T74 := ⟨Tryz.underlying74, Tryz.sizeOf74, Tryz.isAgg74, Tryz.zeroValue74, Tryz.t74, by kernel_rfl, rfl, rfl, rfl⟩
noncomputable def T75 : TI := tiOf Tryz.t75 Tryz.t75.desc
theorem K75 : TOne Tryz.prog 75 T75 := ⟨Tryz.underlying75, Tryz.sizeOf75, Tryz.isAgg75, Tryz.zeroValue75, Tryz.t75, by kernel_rfl, rfl, rfl, rfl⟩
noncomputable def T76 : TI := tiOf Tryz.t76 Tryz.t75.desc
theorem K76 : TOne Tryz.prog 76 T76 := ⟨Tryz.underlying76, Tryz.sizeOf76, Tryz.isAgg76, Tryz.zeroValue76, Tryz.t76, by kernel_rfl, rfl, rfl, rfl⟩
noncomputable def T78 : TI := tiOf Tryz.t78 Tryz.t78.desc
theorem K78 : TOne Tryz.prog 78 T78 := ⟨Tryz.underlying78, Tryz.sizeOf78, Tryz.isAgg78, Tryz.zeroValue78, Tryz.t78, by kernel_rfl, rfl, rfl, rfl⟩
noncomputable def T79 : TI := tiOf Tryz.t79 Tryz.t79.desc
theorem K79 : TOne Tryz.prog 79 T79 := ⟨Tryz.underlying79, Tryz.sizeOf79, Tryz.isAgg79, Tryz.zeroValue79, Tryz.t79, by kernel_rfl, rfl, rfl, rfl⟩
noncomputable def T80 : TI := tiOf Tryz.t80 Tryz.t80.desc
theorem K80 : TOne Tryz.prog 80 T80 := ⟨Tryz.underlying80, Tryz.sizeOf80, Tryz.isAgg80, Tryz.zeroValue80, Tryz.t80, by kernel_rfl, rfl, rfl, rfl⟩
noncomputable def T81 : TI := tiOf Tryz.t81 Tryz.t81.desc
theorem K81 : TOne Tryz.prog 81 T81 := ⟨Tryz.underlying81, Tryz.sizeOf81, Tryz.isAgg81, Tryz.zeroValue81, Tryz.t81, by kernel_rfl, rfl, rfl, rfl⟩
noncomputable def T82 : TI := tiOf Tryz.t82 Tryz.t82.desc
theorem K82 : TOne Tryz.prog 82 T82 := ⟨Tryz.underlying82, Tryz.sizeOf82, Tryz.isAgg82, Tryz.zeroValue82, Tryz.t82, by kernel_rfl, rfl, rfl, rfl⟩
noncomputable def T83 : TI := tiOf Tryz.t83 Tryz.t83.desc
theorem K83 : TOne Tryz.prog 83 T83 := ⟨Tryz.underlying83, Tryz.sizeOf83, Tryz.isAgg83, Tryz.zeroValue83, Tryz.t83, by kernel_rfl, rfl, rfl, rfl⟩
noncomputable def T84 : TI := tiOf Tryz.t84 Tryz.t83.desc
theorem K84 : TOne Tryz.prog 84 T84 := ⟨Tryz.underlying84, Tryz.sizeOf84, Tryz.isAgg84, Tryz.zeroValue84, Tryz.t84, by kernel_rfl, rfl, rfl, rfl⟩
noncomputable def T85 : TI := tiOf Tryz.t85 Tryz.t85.desc
theorem K85 : TOne Tryz.prog 85 T85 := ⟨Tryz.underlying85, Tryz.sizeOf85, Tryz.isAgg85, Tryz.zeroValue85, Tryz.t85, by kernel_rfl, rfl, rfl, rfl⟩
noncomputable def T86 : TI := tiOf Tryz.t86 Tryz.t86.desc
theorem K86 : TOne Tryz.prog 86 T86 := ⟨Tryz.underlying86, Tryz.sizeOf86, Tryz.isAgg86, Tryz.zeroValue86, Tryz.t86, by kernel_rfl, rfl, rfl, rfl⟩
noncomputable def T88 : TI := tiOf Tryz.t88 Tryz.t88.desc
theorem K88 : TOne Tryz.prog 88 T88 := ⟨Tryz.underlying88, Tryz.sizeOf88, Tryz.isAgg88, Tryz.zeroValue88, Tryz.t88, by kernel_rfl, rfl, rfl, rfl⟩
noncomputable def T89 : TI := tiOf Tryz.t89 Tryz.t89.desc
theorem K89 : TOne Tryz.prog 89 T89 := ⟨Tryz.underlying89, Tryz.sizeOf89, Tryz.isAgg89, Tryz.zeroValue89, Tryz.t89, by kernel_rfl, rfl, rfl, rfl⟩
noncomputable def T90 : TI := tiOf Tryz.t90 Tryz.t90.desc
theorem K90 : TOne Tryz.prog 90 T90 := ⟨Tryz.underlying90, Tryz.sizeOf90, Tryz.isAgg90, Tryz.zeroValue90, Tryz.t90, by kernel_rfl, rfl, rfl, rfl⟩
noncomputable def T91 : TI := tiOf Tryz.t91 Tryz.t90.desc
theorem K91 : TOne Tryz.prog 91 T91 := ⟨Tryz.underlying91, Tryz.sizeOf91, Tryz.isAgg91, Tryz.zeroValue91, Tryz.t91, by kernel_rfl, rfl, rfl, rfl⟩
noncomputable def T92 : TI := tiOf Tryz.t92 Tryz.t92.desc
theorem K92 : TOne Tryz.prog 92 T92 := ⟨Tryz.underlying92, Tryz.sizeOf92, Tryz.isAgg92, Tryz.zeroValue92, Tryz.t92, by kernel_rfl, rfl, rfl, rfl⟩
noncomputable def T93 : TI := tiOf Tryz.t93 Tryz.t93.desc
theorem K93 : TOne Tryz.prog 93 T93 := ⟨Tryz.underlying93, Tryz.sizeOf93, Tryz.isAgg93, Tryz.zeroValue93, Tryz.t93, by kernel_rfl, rfl, rfl, rfl⟩
noncomputable def T94 : TI := tiOf Tryz.t94 Tryz.t94.desc
theorem K94 : TOne Tryz.prog 94 T94 := ⟨Tryz.underlying94, Tryz.sizeOf94, Tryz.isAgg94, Tryz.zeroValue94, Tryz.t94, by kernel_rfl, rfl, rfl, rfl⟩
noncomputable def T95 : TI := tiOf Tryz.t95 Tryz.t95.desc
theorem K95 : TOne Tryz.prog 95 T95 := ⟨Tryz.underlying95, Tryz.sizeOf95, Tryz.isAgg95, Tryz.zeroValue95, Tryz.t95, by kernel_rfl, rfl, rfl, rfl⟩
noncomputable def T96 : TI := tiOf Tryz.t96 Tryz.t96.desc
theorem K96 : TOne Tryz.prog 96 T96 := ⟨Tryz.underlying96, Tryz.sizeOf96, Tryz.isAgg96, Tryz.zeroValue96, Tryz.t96, by kernel_rfl, rfl, rfl, rfl⟩
noncomputable def T97 : TI := tiOf Tryz.t97 Tryz.t96.desc
theorem K97 : TOne Tryz.prog 97 T97 := ⟨Tryz.underlying97, Tryz.sizeOf97, Tryz.isAgg97, Tryz.zeroValue97, Tryz.t97, by kernel_rfl, rfl, rfl, rfl⟩
noncomputable def T99 : TI := tiOf Tryz.t99 Tryz.t99.desc
theorem K99 : TOne Tryz.prog 99 T99 := ⟨Tryz.underlying99, Tryz.sizeOf99, Tryz.isAgg99, Tryz.zeroValue99, Tryz.t99, by kernel_rfl, rfl, rfl, rfl⟩
noncomputable def T100 : TI := tiOf Tryz.t100 Tryz.t100.desc
theorem K100 : TOne Tryz.prog 100 T100 := ⟨Tryz.underlying100, Tryz.sizeOf100, Tryz.isAgg100, Tryz.zeroValue100, Tryz.t100, by kernel_rfl, rfl, rfl, rfl⟩
noncomputable def T101 : TI := tiOf Tryz.t101 Tryz.t101.desc
theorem K101 : TOne Tryz.prog 101 T101 := ⟨Tryz.underlying101, Tryz.sizeOf101, Tryz.isAgg101, Tryz.zeroValue101, Tryz.t101, by kernel_rfl, rfl, rfl, rfl⟩
noncomputable def T103 : TI := tiOf Tryz.t103 Tryz.t103.desc
theorem K103 : TOne Tryz.prog 103 T103 := ⟨Tryz.underlying103, Tryz.sizeOf103, Tryz.isAgg103, Tryz.zeroValue103, Tryz.t103, by kernel_rfl, rfl, rfl, rfl⟩
noncomputable def T104 : TI := tiOf Tryz.t104 Tryz.t104.desc
theorem K104 : TOne Tryz.prog 104 T104 := ⟨Tryz.underlying104, Tryz.sizeOf104, Tryz.isAgg104, Tryz.zeroValue104, Tryz.t104, by kernel_rfl, rfl, rfl, rfl⟩
noncomputable def T105 : TI := tiOf Tryz.t105 Tryz.t105.desc
theorem K105 : TOne Tryz.prog 105 T105 := ⟨Tryz.underlying105, Tryz.sizeOf105, Tryz.isAgg105, Tryz.zeroValue105, Tryz.t105, by kernel_rfl, rfl, rfl, rfl⟩
noncomputable def T106 : TI := tiOf Tryz.t106 Tryz.t105.desc
theorem K106 : TOne Tryz.prog 106 T106 := ⟨Tryz.underlying106, Tryz.sizeOf106, Tryz.isAgg106, Tryz.zeroValue106, Tryz.t106, by kernel_rfl, rfl, rfl, rfl⟩
noncomputable def T107 : TI := tiOf Tryz.t107 Tryz.t107.desc
theorem K107 : TOne Tryz.prog 107 T107 := ⟨Tryz.underlying107, Tryz.sizeOf107, Tryz.isAgg107, Tryz.zeroValue107, Tryz.t107, by kernel_rfl, rfl, rfl, rfl⟩
noncomputable def T108 : TI := tiOf Tryz.t108 Tryz.t104.desc
theorem K108 : TOne Tryz.prog 108 T108 := ⟨Tryz.underlying108, Tryz.sizeOf108, Tryz.isAgg108, Tryz.zeroValue108, Tryz.t108, by kernel_rfl, rfl, rfl, rfl⟩
noncomputable def T109 : TI := tiOf Tryz.t109 Tryz.t109.desc
theorem K109 : TOne Tryz.prog 109 T109 := ⟨Tryz.underlying109, Tryz.sizeOf109, Tryz.isAgg109, Tryz.zeroValue109, Tryz.t109, by kernel_rfl, rfl, rfl, rfl⟩
noncomputable def T110 : TI := tiOf Tryz.t110 Tryz.t110.desc
theorem K110 : TOne Tryz.prog 110 T110 := ⟨Tryz.underlying110, Tryz.sizeOf110, Tryz.isAgg110, Tryz.zeroValue110, Tryz.t110, by kernel_rfl, rfl, rfl, rfl⟩
noncomputable def T112 : TI := tiOf Tryz.t112 Tryz.t112.desc
theorem K112 : TOne Tryz.prog 112 T112 := ⟨Tryz.underlying112, Tryz.sizeOf112, Tryz.isAgg112, Tryz.zeroValue112, Tryz.t112, by kernel_rfl, rfl, rfl, rfl⟩
noncomputable def T113 : TI := tiOf Tryz.t113 Tryz.t113.desc
theorem K113 : TOne Tryz.prog 113 T113 := ⟨Tryz.underlying113, Tryz.sizeOf113, Tryz.isAgg113, Tryz.zeroValue113, Tryz.t113, by kernel_rfl, rfl, rfl, rfl⟩
noncomputable def T114 : TI := tiOf Tryz.t114 Tryz.t114.desc
theorem K114 : TOne Tryz.prog 114 T114 := ⟨Tryz.underlying114, Tryz.sizeOf114, Tryz.isAgg114, Tryz.zeroValue114, Tryz.t114, by kernel_rfl, rfl, rfl, rfl⟩
noncomputable def T115 : TI := tiOf Tryz.t115 Tryz.t115.desc
theorem K115 : TOne Tryz.prog 115 T115 := ⟨Tryz.underlying115, Tryz.sizeOf115, Tryz.isAgg115, Tryz.zeroValue115, Tryz.t115, by kernel_rfl, rfl, rfl, rfl⟩
noncomputable def T116 : TI := tiOf Tryz.t116 Tryz.t116.desc
theorem K116 : TOne Tryz.prog 116 T116 := ⟨Tryz.underlying116, Tryz.sizeOf116, Tryz.isAgg116, Tryz.zeroValue116, Tryz.t116, by kernel_rfl, rfl, rfl, rfl⟩
noncomputable def T117 : TI := tiOf Tryz.t117 Tryz.t117.desc
theorem K117 : TOne Tryz.prog 117 T117 := ⟨Tryz.underlying117, Tryz.sizeOf117, Tryz.isAgg117, Tryz.zeroValue117, Tryz.t117, by kernel_rfl, rfl, rfl, rfl⟩
noncomputable def T118 : TI := tiOf Tryz.t118 Tryz.t118.desc
theorem K118 : TOne Tryz.prog 118 T118 := ⟨Tryz.underlying118, Tryz.sizeOf118, Tryz.isAgg118, Tryz.zeroValue118, Tryz.t118, by kernel_rfl, rfl, rfl, rfl⟩
noncomputable def T119 : TI := tiOf Tryz.t119 Tryz.t119.desc
theorem K119 : TOne Tryz.prog 119 T119 := ⟨Tryz.underlying119, Tryz.sizeOf119, Tryz.isAgg119, Tryz.zeroValue119, Tryz.t119, by kernel_rfl, rfl, rfl, rfl⟩
noncomputable def T120 : TI := tiOf Tryz.t120 Tryz.t119.desc
theorem K120 : TOne Tryz.prog 120 T120 := ⟨Tryz.underlying120, Tryz.sizeOf120, Tryz.isAgg120, Tryz.zeroValue120, Tryz.t120, by kernel_rfl, rfl, rfl, rfl⟩
noncomputable def T121 : TI := tiOf Tryz.t121 Tryz.t121.desc
theorem K121 : TOne Tryz.prog 121 T121 := ⟨Tryz.underlying121, Tryz.sizeOf121, Tryz.isAgg121, Tryz.zeroValue121, Tryz.t121, by kernel_rfl, rfl, rfl, rfl⟩
noncomputable def T122 : TI := tiOf Tryz.t122 Tryz.t122.desc
theorem K122 : TOne Tryz.prog 122 T122 := ⟨Tryz.underlying122, Tryz.sizeOf122, Tryz.isAgg122, Tryz.zeroValue122, Tryz.t122, by kernel_rfl, rfl, rfl, rfl⟩
noncomputable def T123 : TI := tiOf Tryz.t123 Tryz.t123.desc
theorem K123 : TOne Tryz.prog 123 T123 := ⟨Tryz.underlying123, Tryz.sizeOf123, Tryz.isAgg123, Tryz.zeroValue123, Tryz.t123, by kernel_rfl, rfl, rfl, rfl⟩
noncomputable def T124 : TI := tiOf Tryz.t124 Tryz.t124.desc
theorem K124 : TOne Tryz.prog 124 T124 := ⟨Tryz.underlying124, Tryz.sizeOf124, Tryz.isAgg124, Tryz.zeroValue124, Tryz.t124, by kernel_rfl, rfl, rfl, rfl⟩
noncomputable def T125 : TI := tiOf Tryz.t125 Tryz.t124.desc
theorem K125 : TOne Tryz.prog 125 T125 := ⟨Tryz.underlying125, Tryz.sizeOf125, Tryz.isAgg125, Tryz.zeroValue125, Tryz.t125, by kernel_rfl, rfl, rfl, rfl⟩
noncomputable def T128 : TI := tiOf Tryz.t128 Tryz.t128.desc
theorem K128 : TOne Tryz.prog 128 T128 := ⟨Tryz.underlying128, Tryz.sizeOf128, Tryz.isAgg128, Tryz.zeroValue128, Tryz.t128, by kernel_rfl, rfl, rfl, rfl⟩
noncomputable def T134 : TI := tiOf Tryz.t134 Tryz.t134.desc
theorem K134 : TOne Tryz.prog 134 T134 := ⟨Tryz.underlying134, Tryz.sizeOf134, Tryz.isAgg134, Tryz.zeroValue134, Tryz.t134, by kernel_rfl, rfl, rfl, rfl⟩
noncomputable def T137 : TI := tiOf Tryz.t137 Tryz.t137.desc
theorem K137 : TOne Tryz.prog 137 T137 := ⟨Tryz.underlying137, Tryz.sizeOf137, Tryz.isAgg137, Tryz.zeroValue137, Tryz.t137, by kernel_rfl, rfl, rfl, rfl⟩
noncomputable def T142 : TI := tiOf Tryz.t142 Tryz.t142.desc
theorem K142 : TOne Tryz.prog 142 T142 := ⟨Tryz.underlying142, Tryz.sizeOf142, Tryz.isAgg142, Tryz.zeroValue142, Tryz.t142, by kernel_rfl, rfl, rfl, rfl⟩
noncomputable def T151 : TI := tiOf Tryz.t151 Tryz.t3.desc
theorem K151 : TOne Tryz.prog 151 T151 := ⟨Tryz.underlying151, Tryz.sizeOf151, Tryz.isAgg151, Tryz.zeroValue151, Tryz.t151, by kernel_rfl, rfl, rfl, rfl⟩
noncomputable def T160 : TI := tiOf Tryz.t160 Tryz.t160.desc
theorem K160 : TOne Tryz.prog 160 T160 := ⟨Tryz.underlying160, Tryz.sizeOf160, Tryz.isAgg160, Tryz.zeroValue160, Tryz.t160, by kernel_rfl, rfl, rfl, rfl⟩
noncomputable def T161 : TI := tiOf Tryz.t161 Tryz.t160.desc
theorem K161 : TOne Tryz.prog 161 T161 := ⟨Tryz.underlying161, Tryz.sizeOf161, Tryz.isAgg161, Tryz.zeroValue161, Tryz.t161, by kernel_rfl, rfl, rfl, rfl⟩
noncomputable def T165 : TI := tiOf Tryz.t165 Tryz.t165.desc
theorem K165 : TOne Tryz.prog 165 T165 := ⟨Tryz.underlying165, Tryz.sizeOf165, Tryz.isAgg165, Tryz.zeroValue165, Tryz.t165, by kernel_rfl, rfl, rfl, rfl⟩
noncomputable def T171 : TI := tiOf Tryz.t171 Tryz.t171.desc
theorem K171 : TOne Tryz.prog 171 T171 := ⟨Tryz.underlying171, Tryz.sizeOf171, Tryz.isAgg171, Tryz.zeroValue171, Tryz.t171, by kernel_rfl, rfl, rfl, rfl⟩
noncomputable def T172 : TI := tiOf Tryz.t172 Tryz.t171.desc
theorem K172 : TOne Tryz.prog 172 T172 := ⟨Tryz.underlying172, Tryz.sizeOf172, Tryz.isAgg172, Tryz.zeroValue172, Tryz.t172, by kernel_rfl, rfl, rfl, rfl⟩
noncomputable def T173 : TI := tiOf Tryz.t173 Tryz.t173.desc
theorem K173 : TOne Tryz.prog 173 T173 := ⟨Tryz.underlying173, Tryz.sizeOf173, Tryz.isAgg173, Tryz.zeroValue173, Tryz.t173, by kernel_rfl, rfl, rfl, rfl⟩
noncomputable def T174 : TI := tiOf Tryz.t174 Tryz.t174.desc
theorem K174 : TOne Tryz.prog 174 T174 := ⟨Tryz.underlying174, Tryz.sizeOf174, Tryz.isAgg174, Tryz.zeroValue174, Tryz.t174, by kernel_rfl, rfl, rfl, rfl⟩
noncomputable def T175 : TI := tiOf Tryz.t175 Tryz.t174.desc
theorem K175 : TOne Tryz.prog 175 T175 := ⟨Tryz.underlying175, Tryz.sizeOf175, Tryz.isAgg175, Tryz.zeroValue175, Tryz.t175, by kernel_rfl, rfl, rfl, rfl⟩
noncomputable def T176 : TI := tiOf Tryz.t176 Tryz.t5.desc
theorem K176 : TOne Tryz.prog 176 T176 := ⟨Tryz.underlying176, Tryz.sizeOf176, Tryz.isAgg176, Tryz.zeroValue176, Tryz.t176, by kernel_rfl, rfl, rfl, rfl⟩
noncomputable def T177 : TI := tiOf Tryz.t177 Tryz.t5.desc
theorem K177 : TOne Tryz.prog 177 T177 := ⟨Tryz.underlying177, Tryz.sizeOf177, Tryz.isAgg177, Tryz.zeroValue177, Tryz.t177, by kernel_rfl, rfl, rfl, rfl⟩
noncomputable def T178 : TI := tiOf Tryz.t178 Tryz.t178.desc
theorem K178 : TOne Tryz.prog 178 T178 := ⟨Tryz.underlying178, Tryz.sizeOf178, Tryz.isAgg178, Tryz.zeroValue178, Tryz.t178, by kernel_rfl, rfl, rfl, rfl⟩
noncomputable def T179 : TI := tiOf Tryz.t179 Tryz.t179.desc
theorem K179 : TOne Tryz.prog 179 T179 := ⟨Tryz.underlying179, Tryz.sizeOf179, Tryz.isAgg179, Tryz.zeroValue179, Tryz.t179, by kernel_rfl, rfl, rfl, rfl⟩
noncomputable def T180 : TI := tiOf Tryz.t180 Tryz.t21.desc
theorem K180 : TOne Tryz.prog 180 T180 := ⟨Tryz.underlying180, Tryz.sizeOf180, Tryz.isAgg180, Tryz.zeroValue180, Tryz.t180, by kernel_rfl, rfl, rfl, rfl⟩
noncomputable def T181 : TI := tiOf Tryz.t181 Tryz.t21.desc
theorem K181 : TOne Tryz.prog 181 T181 := ⟨Tryz.underlying181, Tryz.sizeOf181, Tryz.isAgg181, Tryz.zeroValue181, Tryz.t181, by kernel_rfl, rfl, rfl, rfl⟩
noncomputable def T182 : TI := tiOf Tryz.t182 Tryz.t182.desc
theorem K182 : TOne Tryz.prog 182 T182 := ⟨Tryz.underlying182, Tryz.sizeOf182, Tryz.isAgg182, Tryz.zeroValue182, Tryz.t182, by kernel_rfl, rfl, rfl, rfl⟩
noncomputable def T183 : TI := tiOf Tryz.t183 Tryz.t182.desc
theorem K183 : TOne Tryz.prog 183 T183 := ⟨Tryz.underlying183, Tryz.sizeOf183, Tryz.isAgg183, Tryz.zeroValue183, Tryz.t183, by kernel_rfl, rfl, rfl, rfl⟩
noncomputable def tbl : TB := [(1, T1), (2, T2), (3, T3), (4, T4), (5, T5), (6, T6), (7, T7), (8, T8), (9, T9), (10, T10), (11, T11), (12, T12), (13, T13), (14, T14), (15, T15), (16, T16), (17, T17), (18, T18), (19, T19), (20, T20), (21, T21), (22, T22), (23, T23), (24, T24), (25, T25), (26, T26), (27, T27), (28, T28), (29, T29), (30, T30), (31, T31), (32, T32), (33, T33), (34, T34), (35, T35), (36, T36), (37, T37), (38, T38), (39, T39), (40, T40), (41, T41), (43, T43), (45, T45), (46, T46), (47, T47), (48, T48), (49, T49), (50, T50), (51, T51), (52, T52), (53, T53), (54, T54), (55, T55), (56, T56), (57, T57), (58, T58), (59, T59), (60, T60), (61, T61), (62, T62), (63, T63), (64, T64), (65, T65), (66, T66), (67, T67), (68, T68), (69, T69), (70, T70), (71, T71), (72, T72), (73, T73), (74, T74), (75, T75), (76, T76), (78, T78), (79, T79), (80, T80), (81, T81), (82, T82), (83, T83), (84, T84), (85, T85), (86, T86), (88, T88), (89, T89), (90, T90), (91, T91), (92, T92), (93, T93), (94, T94), (95, T95), (96, T96), (97, T97), (99, T99), (100, T100), (101, T101), (103, T103), (104, T104), (105, T105), (106, T106), (107, T107), (108, T108), (109, T109), (110, T110), (112, T112), (113, T113), (114, T114), (115, T115), (116, T116), (117, T117), (118, T118), (119, T119), (120, T120), (121, T121), (122, T122), (123, T123), (124, T124), (125, T125), (128, T128), (134, T134), (137, T137), (142, T142), (151, T151), (160, T160), (161, T161), (165, T165), (171, T171), (172, T172), (173, T173), (174, T174), (175, T175), (176, T176), (177, T177), (178, T178), (179, T179), (180, T180), (181, T181), (182, T182), (183, T183)]
theorem Tk : TOk Tryz.prog tbl := .cons K1 (.cons K2 (.cons K3 (.cons K4 (.cons K5 (.cons K6 (.cons K7 (.cons K8 (.cons K9 (.cons K10 (.cons K11 (.cons K12 (.cons K13 (.cons K14 (.cons K15 (.cons K16 (.cons K17 (.cons K18 (.cons K19 (.cons K20 (.cons K21 (.cons K22 (.cons K23 (.cons K24 (.cons K25 (.cons K26 (.cons K27 (.cons K28 (.cons K29 (.cons K30 (.cons K31 (.cons K32 (.cons K33 (.cons K34 (.cons K35 (.cons K36 (.cons K37 (.cons K38 (.cons K39 (.cons K40 (.cons K41 (.cons K43 (.cons K45 (.cons K46 (.cons K47 (.cons K48 (.cons K49 (.cons K50 (.cons K51 (.cons K52 (.cons K53 (.cons K54 (.cons K55 (.cons K56 (.cons K57 (.cons K58 (.cons K59 (.cons K60 (.cons K61 (.cons K62 (.cons K63 (.cons K64 (.cons K65 (.cons K66 (.cons K67 (.cons K68 (.cons K69 (.cons K70 (.cons K71 (.cons K72 (.cons K73 (.cons K74 (.cons K75 (.cons K76 (.cons K78 (.cons K79 (.cons K80 (.cons K81 (.cons K82 (.cons K83 (.cons K84 (.cons K85 (.cons K86 (.cons K88 (.cons K89 (.cons K90 (.cons K91 (.cons K92 (.cons K93 (.cons K94 (.cons K95 (.cons K96 (.cons K97 (.cons K99 (.cons K100 (.cons K101 (.cons K103 (.cons K104 (.cons K105 (.cons K106 (.cons K107 (.cons K108 (.cons K109 (.cons K110 (.cons K112 (.cons K113 (.cons K114 (.cons K115 (.cons K116 (.cons K117 (.cons K118 (.cons K119 (.cons K120 (.cons K121 (.cons K122 (.cons K123 (.cons K124 (.cons K125 (.cons K128 (.cons K134 (.cons K137 (.cons K142 (.cons K151 (.cons K160 (.cons K161 (.cons K165 (.cons K171 (.cons K172 (.cons K173 (.cons K174 (.cons K175 (.cons K176 (.cons K177 (.cons K178 (.cons K179 (.cons K180 (.cons K181 (.cons K182 (.cons K183 (TOk.nil _)))))))))))))))))))))))))))))))))))))))))))))))))))))))))))))))))))))))))))))))))))))))))))))))))))))))))))))))))))))))))))))))))))))))))))
theorem mixed : (Tryz.prog).follows .mixedOrders = true := by kernel_rfl
end Go.Proofs.YtkhddfknpegpmaaGreat.SL

/- The openings of this seat's types. -/
set_option linter.unusedVariables false
namespace Go.Proofs.YtkhddfknpegpmaaGreat.SL
theorem opU : Opens Tryz.prog 22 tU (fun n => 0 ≤ n ∧ n < 4294967296) := fun h => (opens_int Tryz.underlying22 h).imp fun v q => ⟨q.1, wf_u32 q.2⟩
theorem opB : Opens Tryz.prog 5 (tInt .u8) (fun n => 0 ≤ n ∧ n < 256) := fun h => (opens_int Tryz.underlying5 h).imp fun v q => ⟨q.1, wf_u8 q.2⟩
theorem opUs : Opens Tryz.prog 50 (tSl tU) (fun xs => ∀ x ∈ xs, (fun n : Int => 0 ≤ n ∧ n < 4294967296) x) := opens_slice Tryz.underlying50 opU (by kernel_rfl) (by decide)
theorem opFa : Opens Tryz.prog 52 tFa Fa.ok := opens_iso (fun x : Fa => (x.p, x.a)) (fun b => ⟨b.1, b.2⟩) (opens_pair Tryz.underlying52 opU opUs rfl rfl (by kernel_rfl) (by kernel_rfl) (by kernel_rfl)) (fun b => rfl) (fun b g => g)
theorem opFas : Opens Tryz.prog 29 (tSl tFa) (fun xs => ∀ x ∈ xs, Fa.ok x) := opens_slice Tryz.underlying29 opFa (by kernel_rfl) (by decide)
theorem opTm : Opens Tryz.prog 58 tTm Tm.ok := opens_iso (fun x : Tm => (x.v, x.n)) (fun b => ⟨b.1, b.2⟩) (opens_pair Tryz.underlying58 (opens_bool Tryz.underlying4) opU rfl rfl (by kernel_rfl) (by kernel_rfl) (by kernel_rfl)) (fun b => rfl) (fun b g => g.2)
theorem opTms : Opens Tryz.prog 23 (tSl tTm) (fun xs => ∀ x ∈ xs, Tm.ok x) := opens_slice Tryz.underlying23 opTm (by kernel_rfl) (by decide)
theorem opAm : Opens Tryz.prog 25 tAm Am.ok := opens_iso (fun x : Am => (x.p, x.a)) (fun b => ⟨b.1, b.2⟩) (opens_pair Tryz.underlying25 opU opTms rfl rfl (by kernel_rfl) (by kernel_rfl) (by kernel_rfl)) (fun b => rfl) (fun b g => g)
theorem opAms : Opens Tryz.prog 134 (tSl tAm) (fun xs => ∀ x ∈ xs, Am.ok x) := opens_slice Tryz.underlying134 opAm (by kernel_rfl) (by decide)
theorem opLi : Opens Tryz.prog 61 tLi (fun x : Li => x.a.ok) := opens_iso (fun x : Li => (x.no, x.a)) (fun b => ⟨b.1, b.2⟩) (opens_pair Tryz.underlying61 (opens_bool Tryz.underlying4) opAm rfl rfl (by kernel_rfl) (by kernel_rfl) (by kernel_rfl)) (fun b => rfl) (fun b g => g.2)
theorem opLis : Opens Tryz.prog 26 (tSl tLi) (fun xs => ∀ x ∈ xs, (fun x : Li => x.a.ok) x) := opens_slice Tryz.underlying26 opLi (by kernel_rfl) (by decide)
theorem opCl : Opens Tryz.prog 28 tCl Cl.ok := opens_iso (fun x : Cl => (x.h, x.b)) (fun b => ⟨b.1, b.2⟩) (opens_pair Tryz.underlying28 opAm opLis rfl rfl (by kernel_rfl) (by kernel_rfl) (by kernel_rfl)) (fun b => rfl) (fun b g => ⟨g.1, g.2⟩)
theorem opCls : Opens Tryz.prog 39 (tSl tCl) (fun xs => ∀ x ∈ xs, Cl.ok x) := opens_slice Tryz.underlying39 opCl (by kernel_rfl) (by decide)
end Go.Proofs.YtkhddfknpegpmaaGreat.SL

/- Clauses as the document sees them: which are right, one behind another. -/
set_option linter.unusedVariables false
set_option linter.unusedSimpArgs false
namespace Go.Proofs.YtkhddfknpegpmaaGreat.SL
theorem heldBy_next {h : Am} {b : List Li} {m : Nat} (hm : m < b.length) (n : Int) : n ∈ heldBy ⟨h, b.take (m + 1)⟩ ↔ n ∈ heldBy ⟨h, b.take m⟩ ∨ (b[m].no = false ∧ n ∈ vars b[m].a) := by
  rw [mem_heldBy, mem_heldBy, mem_vars, List.take_succ_eq_append_getElem hm]
  constructor
  · rintro ⟨l, hl, e, t⟩
    rcases List.mem_append.1 hl with hl | hl
    · exact .inl ⟨l, hl, e, t⟩
    · rw [List.mem_singleton] at hl; subst hl; exact .inr ⟨e, t⟩
  · rintro (⟨l, hl, e, t⟩ | ⟨e, t⟩)
    · exact ⟨l, List.mem_append_left _ hl, e, t⟩
    · exact ⟨b[m], List.mem_append_right _ (.head _), e, t⟩
theorem held_a {h : Am} {b : List Li} {m : Nat} (hm : m < b.length) {n : Int} (g : n ∈ heldBy ⟨h, b.take m⟩) : decide (n ∈ heldBy ⟨h, b.take (m + 1)⟩) = true := decide_eq_true ((heldBy_next hm n).2 (.inl g))
theorem held_b {h : Am} {b : List Li} {m : Nat} (hm : m < b.length) {n : Int} (g : ¬ n ∈ heldBy ⟨h, b.take m⟩) (e : b[m].no = false) : decide (n ∈ heldBy ⟨h, b.take (m + 1)⟩) = decide (n ∈ vars b[m].a) := by
  rw [decide_eq_decide, heldBy_next hm]; simp [g, e]
theorem held_c {h : Am} {b : List Li} {m : Nat} (hm : m < b.length) {n : Int} (g : ¬ n ∈ heldBy ⟨h, b.take m⟩) (e : b[m].no = true) : decide (n ∈ heldBy ⟨h, b.take (m + 1)⟩) = false := by
  rw [decide_eq_false_iff_not, heldBy_next hm]; simp [g, e]
theorem held_full {c : Cl} {m : Nat} (hm : c.b.length ≤ m) {n : Int} (g : n ∈ heldBy ⟨c.h, c.b.take m⟩) : n ∈ heldBy c := by rw [List.take_of_length_le hm] at g; exact g
/-- Are all variables of an atom held by a clause? -/
def heldIn (c : Cl) (a : Am) : Bool := decide (∀ t ∈ a.a, t.v = true → t.n ∈ heldBy c)
theorem heldIn_yes {c : Cl} {a : Am} (h : ∀ t ∈ a.a, t.v = true → t.n ∈ heldBy c) : heldIn c a = true := decide_eq_true h
theorem heldIn_no {c : Cl} {a : Am} {t : Tm} (ht : t ∈ a.a) (e : t.v = true) (h : ¬ t.n ∈ heldBy c) : heldIn c a = false := decide_eq_false fun q => h (q t ht e)
theorem heldIn_iff {c : Cl} {a : Am} : heldIn c a = true ↔ ∀ t ∈ a.a, t.v = true → t.n ∈ heldBy c := by unfold heldIn; rw [decide_eq_true_iff]
def atomsL (l : List Cl) : List Am := l.flatMap atomsC
theorem atomsL_next {l : List Cl} {k : Nat} (hk : k < l.length) : atomsL (l.take (k + 1)) = atomsL (l.take k) ++ atomsC l[k] := by
  unfold atomsL
  rw [List.take_succ_eq_append_getElem hk, List.flatMap_append]; simp
theorem atomsC_next {h : Am} {b : List Li} {k : Nat} (hk : k < b.length) : atomsC ⟨h, b.take k⟩ ++ [b[k].a] = atomsC ⟨h, b.take (k + 1)⟩ := by
  unfold atomsC
  simp only
  rw [List.take_succ_eq_append_getElem hk, List.map_append]; rfl
theorem atomsC_len (c : Cl) : (atomsC c).length = c.b.length + 1 := by simp [atomsC]
theorem sameLen_next {X : List Am} {i : Nat} (hi : i < X.length) (h : sameLen (X.take i)) (g : ∀ b ∈ X.take i, X[i].p = b.p → X[i].a.length = b.a.length) : sameLen (X.take (i + 1)) := by
  intro a ha b hb e
  rw [List.take_succ_eq_append_getElem hi, List.mem_append, List.mem_singleton] at ha hb
  rcases ha with ha | rfl <;> rcases hb with hb | rfl
  · exact h a ha b hb e
  · exact (g a ha e.symm).symm
  · exact g b hb e
  · rfl
/-- What lengths were learnt of. -/
def LensOf (L : Lens) (X : List Am) : Prop := (∀ p n, L p = some n → ∃ a ∈ X, a.p = p ∧ n = (a.a.length : Int)) ∧ ∀ a ∈ X, ∃ n, L a.p = some n
theorem LensOf.nil : LensOf (fun _ => none) [] := ⟨fun _ _ h => (nomatch h), fun _ h => nomatch h⟩
theorem LensOf.step {L : Lens} {X : List Am} (h : LensOf L X) (a : Am) : LensOf (learn L a.p a.a.length) (X ++ [a]) := by
  refine ⟨fun p n e => ?_, fun b hb => ?_⟩
  · unfold learn at e
    split at e
    · rename_i q
      cases e
      exact ⟨a, List.mem_append_right _ (.head _), q.1.symm, rfl⟩
    · obtain ⟨b, hb, g⟩ := h.1 p n e
      exact ⟨b, List.mem_append_left _ hb, g⟩
  · unfold learn
    split
    · exact ⟨_, rfl⟩
    · rename_i q
      rcases List.mem_append.1 hb with hb | hb
      · exact h.2 b hb
      · rw [List.mem_singleton] at hb
        subst hb
        cases e : L b.p with
        | none => exact absurd ⟨rfl, e⟩ q
        | some n => exact ⟨n, rfl⟩
theorem LensOf.fold : ∀ (Y : List Am) {x : Bool × Lens} {X : List Am}, LensOf x.2 X → LensOf (Y.foldl stepL x).2 (X ++ Y)
  | [], x, X, h => by simpa using h
  | a :: Y, x, X, h => by
    rw [List.foldl_cons, show X ++ a :: Y = (X ++ [a]) ++ Y by simp]
    exact LensOf.fold Y (x := stepL x a) (h.step a)
theorem LensOf.clause {L : Lens} {X : List Am} (h : LensOf L X) (c : Cl) : LensOf (clauseL L c).2 (X ++ atomsC c) := by
  have : clauseL L c = (atomsC c).foldl stepL (true, L) := by
    unfold clauseL atomsC
    rw [List.foldl_cons, List.foldl_map]
  rw [this]
  exact LensOf.fold (atomsC c) (x := (true, L)) h
theorem lens_all {L : Lens} {X : List Am} (h : LensOf L X) (hx : sameLen X) (c : Cl) : (clauseL L c).1 = true ↔ sameLen (X ++ atomsC c) := by
  rw [clause_lens]
  constructor
  · rintro ⟨h1, h2⟩ a ha b hb e
    have key : ∀ x ∈ X, ∀ y ∈ atomsC c, x.p = y.p → x.a.length = y.a.length := fun x hx' y hy q => by
      obtain ⟨n, hn⟩ := h.2 x hx'
      obtain ⟨z, hz, g1, g2⟩ := h.1 _ _ hn
      have g3 := h1 y hy n (by rw [← q]; exact hn)
      have g4 := hx x hx' z hz g1.symm
      omega
    rcases List.mem_append.1 ha with ha | ha <;> rcases List.mem_append.1 hb with hb | hb
    · exact hx a ha b hb e
    · exact key a ha b hb e
    · exact (key b hb a ha e.symm).symm
    · exact h2 a ha b hb e
  · intro g
    refine ⟨fun a ha k q => ?_, fun a ha b hb e => g a (List.mem_append_right _ ha) b (List.mem_append_right _ hb) e⟩
    obtain ⟨b, hb, g1, g2⟩ := h.1 _ _ q
    have := g a (List.mem_append_right _ ha) b (List.mem_append_left _ hb) g1.symm
    omega
theorem fold_next {l : List Cl} {k : Nat} (hk : k < l.length) : (l.take (k + 1)).foldl (fun L c => (clauseL L c).2) (fun _ => none) = (clauseL ((l.take k).foldl (fun L c => (clauseL L c).2) (fun _ => none)) l[k]).2 := by
  rw [List.take_succ_eq_append_getElem hk, List.foldl_append]; rfl
/-! ### choices, as the document makes them -/
theorem agC_set {c : Ch} (hc : c.ok) {j : Nat} (hj : j < 16) {v : Int} (h : c.2[j]? = some false ∨ c.1[j]? = some v) (s : Int → Int) : agC (c.1.set j v, c.2.set j true) s ↔ agC c s ∧ s (j : Int) = v := by
  unfold agC
  simp only [set_at, hc.f, hc.i]
  constructor
  · intro g
    have h1 : s (j : Int) = v := by have := g j (by simp [hj]); simpa [hj] using this
    refine ⟨fun i q => ?_, h1⟩
    by_cases e : j = i
    · subst e
      rcases h with h | h
      · rw [h] at q; cases q
      · rw [h, h1]; rfl
    · have := g i (by rw [if_neg (fun z => e z.1)]; exact q)
      rwa [if_neg (fun z => e z.1)] at this
  · rintro ⟨g, h1⟩ i q
    by_cases e : j = i
    · subst e
      rw [if_pos ⟨rfl, hj⟩, h1]; rfl
    · rw [if_neg (fun z => e z.1)] at q ⊢
      exact g i q
theorem ap_fits {s : Int → Int} {a : Am} {f : Fa} (e : f = ap s a) (i : Nat) : fits s a.a f.a i := by subst e; exact fits_of_Mt i
theorem fits_ap {s : Int → Int} {a : Am} {f : Fa} (hp : a.p = f.p) (hl : a.a.length = f.a.length) (h : fits s a.a f.a a.a.length) : f = ap s a := by
  obtain ⟨p, l⟩ := f
  simp only at hp hl h
  unfold ap
  rw [hp]
  congr 1
  apply List.ext_getElem?
  intro k
  rcases Nat.lt_or_ge k a.a.length with q | q
  · rw [List.getElem?_map, List.getElem?_eq_getElem q, List.getElem?_eq_getElem (by omega)]
    simp only [Option.map_some, Option.some.injEq]
    exact (h k _ _ q (List.getElem?_eq_getElem q) (List.getElem?_eq_getElem (by omega))).symm
  · rw [List.getElem?_eq_none (by omega), List.getElem?_eq_none (by simpa using q)]
/-- The choice so far: it agrees with just those that fit so far. -/
def soFar (c0 c : Ch) (a : Am) (f : Fa) (k : Nat) : Prop := ∀ s, agC c s ↔ agC c0 s ∧ fits s a.a f.a k
theorem soFar.zero (c : Ch) (a : Am) (f : Fa) : soFar c c a f 0 := fun s => ⟨fun h => ⟨h, fits_zero _ _ _⟩, fun h => h.1⟩
theorem soFar.same {c0 c : Ch} {a : Am} {f : Fa} {k : Nat} (h : soFar c0 c a f k) (h1 : k < a.a.length) (h2 : k < f.a.length) (hv : a.a[k].v = false) (e : a.a[k].n = f.a[k]) : soFar c0 c a f (k + 1) := fun s => by
  rw [fits_next h1 h2, h s]
  simp [tv, hv, e]
theorem soFar.set {c0 c : Ch} {a : Am} {f : Fa} {k : Nat} (h : soFar c0 c a f k) (hc : c.ok) (h1 : k < a.a.length) (h2 : k < f.a.length) (hv : a.a[k].v = true) {j : Nat} (hj : a.a[k].n = (j : Int)) (hj16 : j < 16) (g : c.2[j]? = some false ∨ c.1[j]? = some f.a[k]) :
    soFar c0 (c.1.set j f.a[k], c.2.set j true) a f (k + 1) := fun s => by
  rw [fits_next h1 h2, agC_set hc hj16 g, h s]
  simp only [tv, hv, if_true, hj, and_assoc]
theorem soFar.end_ {c0 c : Ch} {a : Am} {f : Fa} (hv : vok a) (h : soFar c0 c a f a.a.length) (hp : a.p = f.p) (hl : a.a.length = f.a.length) : mtch (putA c0.1 c0.2 a) f = true := by
  rw [mtch_put hv]
  obtain ⟨g1, g2⟩ := (h (over c fun _ => 0)).1 (over_ag _ _)
  exact ⟨_, g1, fits_ap hp hl g2⟩
theorem soFar.no1 {c0 c : Ch} {a : Am} {f : Fa} {k : Nat} (hv : vok a) (h1 : k < a.a.length) (h2 : k < f.a.length) (e : a.a[k].v = false) (g : ¬ a.a[k].n = f.a[k]) : mtch (putA c0.1 c0.2 a) f = false := by
  refine Bool.eq_false_iff.2 fun q => ?_
  obtain ⟨s, _, e2⟩ := (mtch_put hv).1 q
  have := ((fits_next h1 h2).1 (ap_fits e2 (k + 1))).2
  simp [tv, e] at this
  exact g this
theorem soFar.no2 {c0 c : Ch} {a : Am} {f : Fa} {k : Nat} (hv : vok a) (h : soFar c0 c a f k) (h1 : k < a.a.length) (h2 : k < f.a.length) (e : a.a[k].v = true) {j : Nat} (hj : a.a[k].n = (j : Int)) (g1 : c.2[j]? = some true) {v : Int} (g2 : c.1[j]? = some v) (g : ¬ v = f.a[k]) : mtch (putA c0.1 c0.2 a) f = false := by
  refine Bool.eq_false_iff.2 fun q => ?_
  obtain ⟨s, e1, e2⟩ := (mtch_put hv).1 q
  have h3 := (h s).2 ⟨e1, ap_fits e2 k⟩
  have h4 := h3 j g1
  rw [g2] at h4
  have := ((fits_next h1 h2).1 (ap_fits e2 (k + 1))).2
  simp only [tv, e, if_true, hj] at this
  exact g (by rw [← this, h4]; rfl)
theorem mtch_shape {c : Ch} {a : Am} {f : Fa} (h : a.p ≠ f.p ∨ a.a.length ≠ f.a.length) : mtch (putA c.1 c.2 a) f = false := mtch_no fun h1 h2 => by
  simp only [putA, List.length_map] at h1 h2
  exact h.elim (fun q => q h1) (fun q => q h2)
/-- What an atom becomes by the document's choice. -/
def refT (few : List Int) (t : Tm) : Int := if t.v = true then (few[t.n.toNat]?).getD 0 else t.n
def refF (few : List Int) (a : Am) : Fa := ⟨a.p, a.a.map (refT few)⟩
theorem refF_eq {c : Ch} {a : Am} (hv : vok a) (hd : ∀ t ∈ a.a, t.v = true → domC c t.n) : ofA (putA c.1 c.2 a) = refF c.1 a := by
  rw [ofA_put hv (over_ag c fun _ => 0) hd]
  unfold ap refF
  congr 1
  refine List.map_congr_left fun t ht => ?_
  unfold tv refT over
  split
  · rename_i e; rw [if_pos (hd t ht e).2]
  · rfl
/-- Each variable that is held has a symbol, or will have. -/
def domTo (c : Cl) (r : List Li) (ch : Ch) : Prop := ∀ n ∈ heldBy c, domC ch n ∨ ∃ l ∈ r, l.no = false ∧ ∃ t ∈ l.a.a, t.v = true ∧ t.n = n
theorem domTo.start (c : Cl) : domTo c c.b ch0 := fun n hn => .inr (mem_heldBy.1 hn)
theorem domTo.not {c : Cl} {ch : Ch} {i : Nat} (h : domTo c (c.b.drop i) ch) (hi : i < c.b.length) (e : c.b[i].no = true) : domTo c (c.b.drop (i + 1)) ch := fun n hn => (h n hn).imp id fun ⟨m, hm, h1, h2⟩ => by
  rw [List.drop_eq_getElem_cons hi] at hm
  rcases List.mem_cons.1 hm with rfl | hm
  · rw [e] at h1; cases h1
  · exact ⟨m, hm, h1, h2⟩
theorem domTo.yes {c : Cl} {ch : Ch} {i : Nat} (h : domTo c (c.b.drop i) ch) (hi : i < c.b.length) (hv : vok c.b[i].a) (hok : ch.ok) (f : List Int) : domTo c (c.b.drop (i + 1)) (meetL f ch c.b[i].a.a 0) := fun n hn => by
  rw [meet_dom c.b[i].a.a ch f 0 n hv hok]
  rcases h n hn with h | ⟨m, hm, h1, h2⟩
  · exact .inl (.inl h)
  · rw [List.drop_eq_getElem_cons hi] at hm
    rcases List.mem_cons.1 hm with rfl | hm
    · exact .inl (.inr h2)
    · exact .inr ⟨m, hm, h1, h2⟩
theorem domTo.all {c : Cl} {ch : Ch} {i : Nat} (h : domTo c (c.b.drop i) ch) (hi : c.b.length ≤ i) : ∀ n ∈ heldBy c, domC ch n := fun n hn => by
  rw [List.drop_eq_nil_of_le hi] at h
  rcases h n hn with h | ⟨l, hl, _⟩
  · exact h
  · cases hl
theorem flat_filter {α β : Type} (p : α → Bool) (g : α → List β) : ∀ l : List α, (l.filter p).flatMap g = l.flatMap fun f => if p f = true then g f else []
  | [] => rfl
  | a :: l => by
    rw [List.flatMap_cons]
    by_cases e : p a = true
    · rw [List.filter_cons_of_pos e, List.flatMap_cons, if_pos e, flat_filter p g l]
    · rw [List.filter_cons_of_neg e, if_neg e, flat_filter p g l]; rfl
/-- The order of facts, and how often they come, says nothing. -/
theorem heads_fof {c : Cl} (ho : c.ok) (F R N : List Fa) (some : Bool) : headsC c (fof F) (fof R) (fof N) some = headsC c F R N some := by
  refine rises_ext (headsC_rises _ _ _ _ _) (headsC_rises _ _ _ _ _) fun x => ?_
  rw [mem_headsC' ho, mem_headsC' ho]
  unfold Hd
  simp only [mem_fof]
end Go.Proofs.YtkhddfknpegpmaaGreat.SL
