/-
  No cell of these rows narrows 'for every input' (looked for: loops, veiled, ifaces, maps, wideKeys, modest, calm, conditions, laid).
  DERIVED. THE GIVEN ROWS OF THIS SEAT. 5 by the template 'for every input the law returns true; each argument reads behind the call as it read before'; 0 by the template 'total and deterministic' (their statements: YtpgnmfnckjnecaaGreatTotals.lean).
  GIVEN WITH THE SEED: the statements are not yours to turn. If you find one false, say at which input.
  Laid BY PROGRAM, IN A SANDBOX (cutbox-rows.mjs): the forced cells as the released guide's own fill.sh prints them over the translation 8f9a2fd9371a247a… (all of the seat's roots in one cut). By AI agents, Wed Nov 11 2026. No macro, syntax, notation, axiom, sorry.
-/
import Derived.Test.YtpgnmfnckjnecaaGreatChecked
import GoSem.Claim
import GoSem.ClaimJoined
import GoSem.ClaimMapViews
import Derived.JoinedTies
import Derived.KernelRfl
namespace Go.Proofs.YtpgnmfnckjnecaaGreat
/- THE CELL 'sum', in the pinned program and in every row, IS THE sha256 OF THE DUMP (.gsa) THAT YtpgnmfnckjnecaaGreatProg.lean LOADS. Nothing in Lean hashes anything: it is a label: what it is worth is what the hold of that sum in a sandbox is worth. -/
noncomputable def Tryz.pinned : Pinned := { name := "ytpgnmfnckjnecaagreat", sum := "8f9a2fd9371a247aec7c9b8386dd8ce17ffd12f7ee95a2f199c08a42f64c73a5", checked := Tryz.checked }
namespace Rows
def none {H : Type} : Left H := { results := [], args := [] }

/-- 'baileylaw15.ModelPlays': WHATEVER THE INPUT: true; the input reads as it did. -/
def modelPlaysSpec : ChangeSpec := { name := "modelPlays", fn := fun _ => fun
  | [d1, d2, d3, d4] => { results := [.lit (.bool true)], args := [d1, d2, d3, d4] }
  | _ => none }
def modelPlaysRow : OpenClaim := { program := "ytpgnmfnckjnecaagreat", sum := "8f9a2fd9371a247aec7c9b8386dd8ce17ffd12f7ee95a2f199c08a42f64c73a5", func := "bailey/baileylaw15.ModelPlays", spec := "modelPlays", inPlace := ["slices.overlaps[int]", "slices.overlaps[bailey/api.Fact]"], unfollowed := true, recurses := true, apart := false }
def ModelPlaysSaid : Prop := modelPlaysRow.holds Tryz.pinned (OpenSpec.ofChange modelPlaysSpec)

/-- ITS FALSE NEIGHBOUR: 'it returns false'. Refute it at one input. -/
def modelPlaysWrong : ChangeSpec := { name := "modelPlays", fn := fun _ => fun
  | [d1, d2, d3, d4] => { results := [.lit (.bool false)], args := [d1, d2, d3, d4] }
  | _ => none }
def ModelPlaysWrongFalsely : Prop := modelPlaysRow.holds Tryz.pinned (OpenSpec.ofChange modelPlaysWrong)

/-- 'baileylaw15.ModelHolds': WHATEVER THE INPUT: true; the input reads as it did. -/
def modelHoldsSpec : ChangeSpec := { name := "modelHolds", fn := fun _ => fun
  | [d1, d2] => { results := [.lit (.bool true)], args := [d1, d2] }
  | _ => none }
def modelHoldsRow : OpenClaim := { program := "ytpgnmfnckjnecaagreat", sum := "8f9a2fd9371a247aec7c9b8386dd8ce17ffd12f7ee95a2f199c08a42f64c73a5", func := "bailey/baileylaw15.ModelHolds", spec := "modelHolds", inPlace := ["slices.overlaps[int]", "slices.overlaps[bailey/api.Fact]"], unfollowed := true, recurses := true, apart := false }
def ModelHoldsSaid : Prop := modelHoldsRow.holds Tryz.pinned (OpenSpec.ofChange modelHoldsSpec)

/-- ITS FALSE NEIGHBOUR: 'it returns false'. Refute it at one input. -/
def modelHoldsWrong : ChangeSpec := { name := "modelHolds", fn := fun _ => fun
  | [d1, d2] => { results := [.lit (.bool false)], args := [d1, d2] }
  | _ => none }
def ModelHoldsWrongFalsely : Prop := modelHoldsRow.holds Tryz.pinned (OpenSpec.ofChange modelHoldsWrong)

/-- 'baileylaw15.ModelBound': WHATEVER THE INPUT: true; the input reads as it did. -/
def modelBoundSpec : ChangeSpec := { name := "modelBound", fn := fun _ => fun
  | [d1, d2, d3] => { results := [.lit (.bool true)], args := [d1, d2, d3] }
  | _ => none }
def modelBoundRow : OpenClaim := { program := "ytpgnmfnckjnecaagreat", sum := "8f9a2fd9371a247aec7c9b8386dd8ce17ffd12f7ee95a2f199c08a42f64c73a5", func := "bailey/baileylaw15.ModelBound", spec := "modelBound", inPlace := ["slices.overlaps[int]", "slices.overlaps[bailey/api.Fact]"], unfollowed := true, recurses := true, apart := false }
def ModelBoundSaid : Prop := modelBoundRow.holds Tryz.pinned (OpenSpec.ofChange modelBoundSpec)

/-- ITS FALSE NEIGHBOUR: 'it returns false'. Refute it at one input. -/
def modelBoundWrong : ChangeSpec := { name := "modelBound", fn := fun _ => fun
  | [d1, d2, d3] => { results := [.lit (.bool false)], args := [d1, d2, d3] }
  | _ => none }
def ModelBoundWrongFalsely : Prop := modelBoundRow.holds Tryz.pinned (OpenSpec.ofChange modelBoundWrong)

/-- 'baileylaw15.ModelBare': WHATEVER THE INPUT: true; the input reads as it did. -/
def modelBareSpec : ChangeSpec := { name := "modelBare", fn := fun _ => fun
  | [d1, d2] => { results := [.lit (.bool true)], args := [d1, d2] }
  | _ => none }
def modelBareRow : OpenClaim := { program := "ytpgnmfnckjnecaagreat", sum := "8f9a2fd9371a247aec7c9b8386dd8ce17ffd12f7ee95a2f199c08a42f64c73a5", func := "bailey/baileylaw15.ModelBare", spec := "modelBare", inPlace := ["slices.overlaps[int]", "slices.overlaps[bailey/api.Fact]"], unfollowed := true, recurses := true, apart := false }
def ModelBareSaid : Prop := modelBareRow.holds Tryz.pinned (OpenSpec.ofChange modelBareSpec)

/-- ITS FALSE NEIGHBOUR: 'it returns false'. Refute it at one input. -/
def modelBareWrong : ChangeSpec := { name := "modelBare", fn := fun _ => fun
  | [d1, d2] => { results := [.lit (.bool false)], args := [d1, d2] }
  | _ => none }
def ModelBareWrongFalsely : Prop := modelBareRow.holds Tryz.pinned (OpenSpec.ofChange modelBareWrong)

/-- 'baileylaw15.ModelApart': WHATEVER THE INPUT: true; the input reads as it did. -/
def modelApartSpec : ChangeSpec := { name := "modelApart", fn := fun _ => fun
  | [d1, d2, d3, d4] => { results := [.lit (.bool true)], args := [d1, d2, d3, d4] }
  | _ => none }
def modelApartRow : OpenClaim := { program := "ytpgnmfnckjnecaagreat", sum := "8f9a2fd9371a247aec7c9b8386dd8ce17ffd12f7ee95a2f199c08a42f64c73a5", func := "bailey/baileylaw15.ModelApart", spec := "modelApart", inPlace := ["slices.overlaps[int]", "slices.overlaps[bailey/api.Fact]"], unfollowed := true, recurses := true, apart := false }
def ModelApartSaid : Prop := modelApartRow.holds Tryz.pinned (OpenSpec.ofChange modelApartSpec)

/-- ITS FALSE NEIGHBOUR: 'it returns false'. Refute it at one input. -/
def modelApartWrong : ChangeSpec := { name := "modelApart", fn := fun _ => fun
  | [d1, d2, d3, d4] => { results := [.lit (.bool false)], args := [d1, d2, d3, d4] }
  | _ => none }
def ModelApartWrongFalsely : Prop := modelApartRow.holds Tryz.pinned (OpenSpec.ofChange modelApartWrong)

/- THE SECOND FORM. 'bulk': how many values and letters a reading holds, each counted each time it is reached (what is shared counts as often as it is met; a slice's spare places count too). A statement '..UptoSaid' is the law's where the arguments, and the package variables that the reading takes, are together of bulk at most 1048576: NARROWER than '..Said'. Prove '..Said' where nothing that the law and all that it calls make is longer than what came in: it says more and counts as full. Else prove '..UptoSaid'. A law counts once. -/
mutual
def uptoBulk {H : Type} : DataW H → Nat
  | .lit (.string bytes) => bytes.length + 1
  | .lit _ => 1
  | .nil => 1
  | .ptr d => uptoBulk d + 1
  | .slice elems spare => uptoBulkAll elems + uptoBulkAll spare + 1
  | .agg parts => uptoBulkAll parts + 1
  | .iface _ d => uptoBulk d + 1
  | .map entries => uptoBulkEntries entries + 1
  | .held _ => 1
def uptoBulkAll {H : Type} : List (DataW H) → Nat
  | [] => 0
  | d :: r => uptoBulk d + uptoBulkAll r
def uptoBulkEntries {H : Type} : List (Lit × DataW H) → Nat
  | [] => 0
  | x :: r => uptoBulkEntry x + uptoBulkEntries r
def uptoBulkEntry {H : Type} : Lit × DataW H → Nat
  | (.string bytes, d) => bytes.length + uptoBulk d + 1
  | (_, d) => uptoBulk d + 1
 end
def uptoSmall : (H : Type) → List (DataW H) → Bool := fun _ ds => decide (uptoBulkAll ds ≤ 1048576)
def OpenSpec.upto (s : _root_.Go.ChangeSpec) : _root_.Go.OpenSpec := { _root_.Go.OpenSpec.ofChange s with cond := some uptoSmall }

/-- 'baileylaw15.ModelPlays', WHERE WHAT IT READS IS OF BULK AT MOST 1048576: true; the input reads as it did. -/
def modelPlaysUptoRow : OpenClaim := { program := "ytpgnmfnckjnecaagreat", sum := "8f9a2fd9371a247aec7c9b8386dd8ce17ffd12f7ee95a2f199c08a42f64c73a5", func := "bailey/baileylaw15.ModelPlays", spec := "modelPlays", inPlace := ["slices.overlaps[int]", "slices.overlaps[bailey/api.Fact]"], unfollowed := true, recurses := true, apart := false, narrowed := true }
def ModelPlaysUptoSaid : Prop := modelPlaysUptoRow.holds Tryz.pinned (OpenSpec.upto modelPlaysSpec)

/-- 'baileylaw15.ModelHolds', WHERE WHAT IT READS IS OF BULK AT MOST 1048576: true; the input reads as it did. -/
def modelHoldsUptoRow : OpenClaim := { program := "ytpgnmfnckjnecaagreat", sum := "8f9a2fd9371a247aec7c9b8386dd8ce17ffd12f7ee95a2f199c08a42f64c73a5", func := "bailey/baileylaw15.ModelHolds", spec := "modelHolds", inPlace := ["slices.overlaps[int]", "slices.overlaps[bailey/api.Fact]"], unfollowed := true, recurses := true, apart := false, narrowed := true }
def ModelHoldsUptoSaid : Prop := modelHoldsUptoRow.holds Tryz.pinned (OpenSpec.upto modelHoldsSpec)

/-- 'baileylaw15.ModelBound', WHERE WHAT IT READS IS OF BULK AT MOST 1048576: true; the input reads as it did. -/
def modelBoundUptoRow : OpenClaim := { program := "ytpgnmfnckjnecaagreat", sum := "8f9a2fd9371a247aec7c9b8386dd8ce17ffd12f7ee95a2f199c08a42f64c73a5", func := "bailey/baileylaw15.ModelBound", spec := "modelBound", inPlace := ["slices.overlaps[int]", "slices.overlaps[bailey/api.Fact]"], unfollowed := true, recurses := true, apart := false, narrowed := true }
def ModelBoundUptoSaid : Prop := modelBoundUptoRow.holds Tryz.pinned (OpenSpec.upto modelBoundSpec)

/-- 'baileylaw15.ModelBare', WHERE WHAT IT READS IS OF BULK AT MOST 1048576: true; the input reads as it did. -/
def modelBareUptoRow : OpenClaim := { program := "ytpgnmfnckjnecaagreat", sum := "8f9a2fd9371a247aec7c9b8386dd8ce17ffd12f7ee95a2f199c08a42f64c73a5", func := "bailey/baileylaw15.ModelBare", spec := "modelBare", inPlace := ["slices.overlaps[int]", "slices.overlaps[bailey/api.Fact]"], unfollowed := true, recurses := true, apart := false, narrowed := true }
def ModelBareUptoSaid : Prop := modelBareUptoRow.holds Tryz.pinned (OpenSpec.upto modelBareSpec)

/-- 'baileylaw15.ModelApart', WHERE WHAT IT READS IS OF BULK AT MOST 1048576: true; the input reads as it did. -/
def modelApartUptoRow : OpenClaim := { program := "ytpgnmfnckjnecaagreat", sum := "8f9a2fd9371a247aec7c9b8386dd8ce17ffd12f7ee95a2f199c08a42f64c73a5", func := "bailey/baileylaw15.ModelApart", spec := "modelApart", inPlace := ["slices.overlaps[int]", "slices.overlaps[bailey/api.Fact]"], unfollowed := true, recurses := true, apart := false, narrowed := true }
def ModelApartUptoSaid : Prop := modelApartUptoRow.holds Tryz.pinned (OpenSpec.upto modelApartSpec)

end Rows
end Go.Proofs.YtpgnmfnckjnecaaGreat
