/- Rows: how long an argument can be. -/
import Derived.Test.YtdkfpgdfjnaciaaS8
import Derived.SizedLaws
set_option linter.unusedVariables false
namespace Go.Proofs.Ytdkfpgdfjnaciaa.SL
theorem sized_len {H : Type} {enc : TypeId × Value → H} {P : Program} {W : World} {base : Nat} {sp : Nat → Bool} {hd : Bool} {fuel : Nat} {ts : List TypeId} {ds : List (DataW H)} {j : Nat} {t e : TypeId} {cs : List Value} {x : DataW H × List MemPlace} {A : Option Addr} {n c : Nat}
    (h : (DataW.weightsEach P ts ds).all (· ≤ reachBytes) = true) (ht : ts[j]? = some t) (hd' : ds[j]? = some x.1) (hu : P.underlying t = some (.slice e)) (hx : DataW.trod enc P W base sp hd fuel t cs = some x) (hc : cs = [.slice A n c]) (hb : Nat.ble 1 (P.bytesOf e) = true) : n ≤ 140737488351232 := by
  subst hc
  rcases Deep.open_slice hu hx with ⟨h1, _⟩ | ⟨a, len, cap, m, q, D, Pl, h1, _, _, _, _, rfl, _⟩
  · cases h1; omega
  · cases h1
    have := sized_slice h ht hd' hu
    have hb' := Nat.le_of_ble_eq_true hb
    have h2 : n ≤ n * P.bytesOf e := Nat.le_mul_of_pos_right _ hb'
    simp only [List.length_map, List.length_range] at this
    rw [Nat.add_mul] at this
    have h3 : reachBytes = 140737488351232 := rfl
    omega
end Go.Proofs.Ytdkfpgdfjnaciaa.SL
