/-
  No cell of these rows narrows 'for every input' (looked for: loops, veiled, ifaces, maps, wideKeys, modest, calm, conditions, laid).
  DERIVED. THE GIVEN ROWS OF THIS SEAT. 3 by the template 'for every input the law returns true; each argument reads behind the call as it read before'; 0 by the template 'total and deterministic' (their statements: YtmomkfedcmogmaaGreatTotals.lean).
  GIVEN WITH THE SEED: the statements are not yours to turn. If you find one false, say at which input.
  Laid BY PROGRAM, IN A SANDBOX (cutbox-rows.mjs): the forced cells as the released guide's own fill.sh prints them over the translation f83ec6741b0e6ae1… (all of the seat's roots in one cut). By AI agents, Wed Nov 11 2026. No macro, syntax, notation, axiom, sorry.
-/
import Derived.Test.YtmomkfedcmogmaaGreatChecked
import GoSem.Claim
import GoSem.ClaimJoined
import GoSem.ClaimMapViews
import Derived.JoinedTies
import Derived.KernelRfl
namespace Go.Proofs.YtmomkfedcmogmaaGreat
/- THE CELL 'sum', in the pinned program and in every row, IS THE sha256 OF THE DUMP (.gsa) THAT YtmomkfedcmogmaaGreatProg.lean LOADS. Nothing in Lean hashes anything: it is a label: what it is worth is what the hold of that sum in a sandbox is worth. -/
noncomputable def Tryz.pinned : Pinned := { name := "ytmomkfedcmogmaagreat", sum := "f83ec6741b0e6ae124d8c09b8bbc25beed0a526e60f2e580fe5a677f88f2a9d8", checked := Tryz.checked }
namespace Rows
def none {H : Type} : Left H := { results := [], args := [] }

/-- 'baileylaw30.ImpactPlays': WHATEVER THE INPUT: true; the input reads as it did. -/
def impactPlaysSpec : ChangeSpec := { name := "impactPlays", fn := fun _ => fun
  | [d1, d2, d3, d4, d5, d6] => { results := [.lit (.bool true)], args := [d1, d2, d3, d4, d5, d6] }
  | _ => none }
def impactPlaysRow : OpenClaim := { program := "ytmomkfedcmogmaagreat", sum := "f83ec6741b0e6ae124d8c09b8bbc25beed0a526e60f2e580fe5a677f88f2a9d8", func := "bailey/baileylaw30.ImpactPlays", spec := "impactPlays", inPlace := ["slices.overlaps[int]", "slices.overlaps[bailey/api.Fact]"], unfollowed := true, recurses := true, apart := false }
def ImpactPlaysSaid : Prop := impactPlaysRow.holds Tryz.pinned (OpenSpec.ofChange impactPlaysSpec)

/-- ITS FALSE NEIGHBOUR: 'it returns false'. Refute it at one input. -/
def impactPlaysWrong : ChangeSpec := { name := "impactPlays", fn := fun _ => fun
  | [d1, d2, d3, d4, d5, d6] => { results := [.lit (.bool false)], args := [d1, d2, d3, d4, d5, d6] }
  | _ => none }
def ImpactPlaysWrongFalsely : Prop := impactPlaysRow.holds Tryz.pinned (OpenSpec.ofChange impactPlaysWrong)

/-- 'baileylaw30.ImpactLeast': WHATEVER THE INPUT: true; the input reads as it did. -/
def impactLeastSpec : ChangeSpec := { name := "impactLeast", fn := fun _ => fun
  | [d1, d2, d3] => { results := [.lit (.bool true)], args := [d1, d2, d3] }
  | _ => none }
def impactLeastRow : OpenClaim := { program := "ytmomkfedcmogmaagreat", sum := "f83ec6741b0e6ae124d8c09b8bbc25beed0a526e60f2e580fe5a677f88f2a9d8", func := "bailey/baileylaw30.ImpactLeast", spec := "impactLeast", inPlace := ["slices.overlaps[int]", "slices.overlaps[bailey/api.Fact]"], unfollowed := true, recurses := true, apart := false }
def ImpactLeastSaid : Prop := impactLeastRow.holds Tryz.pinned (OpenSpec.ofChange impactLeastSpec)

/-- ITS FALSE NEIGHBOUR: 'it returns false'. Refute it at one input. -/
def impactLeastWrong : ChangeSpec := { name := "impactLeast", fn := fun _ => fun
  | [d1, d2, d3] => { results := [.lit (.bool false)], args := [d1, d2, d3] }
  | _ => none }
def ImpactLeastWrongFalsely : Prop := impactLeastRow.holds Tryz.pinned (OpenSpec.ofChange impactLeastWrong)

/-- 'baileylaw30.ImpactDiff': WHATEVER THE INPUT: true; the input reads as it did. -/
def impactDiffSpec : ChangeSpec := { name := "impactDiff", fn := fun _ => fun
  | [d1, d2, d3] => { results := [.lit (.bool true)], args := [d1, d2, d3] }
  | _ => none }
def impactDiffRow : OpenClaim := { program := "ytmomkfedcmogmaagreat", sum := "f83ec6741b0e6ae124d8c09b8bbc25beed0a526e60f2e580fe5a677f88f2a9d8", func := "bailey/baileylaw30.ImpactDiff", spec := "impactDiff", inPlace := ["slices.overlaps[int]", "slices.overlaps[bailey/api.Fact]"], unfollowed := true, recurses := true, apart := false }
def ImpactDiffSaid : Prop := impactDiffRow.holds Tryz.pinned (OpenSpec.ofChange impactDiffSpec)

/-- ITS FALSE NEIGHBOUR: 'it returns false'. Refute it at one input. -/
def impactDiffWrong : ChangeSpec := { name := "impactDiff", fn := fun _ => fun
  | [d1, d2, d3] => { results := [.lit (.bool false)], args := [d1, d2, d3] }
  | _ => none }
def ImpactDiffWrongFalsely : Prop := impactDiffRow.holds Tryz.pinned (OpenSpec.ofChange impactDiffWrong)

/- THE SECOND FORM. 'bulk': how many values and letters a reading holds, each counted each time it is reached (what is shared counts as often as it is met; a slice's spare places count too). A statement '..UptoSaid' is the law's where the arguments, and the package variables that the reading takes, are together of bulk at most 1048576: NARROWER than '..Said'. Prove '..Said' where nothing that the law and all that it calls make is longer than what came in: it says more and counts as full. Else prove '..UptoSaid'. A law counts once. -/
mutual
def uptoBulk {H : Type} : DataW H → Nat
  | .lit (.string bytes) => bytes.length + 1
  | .lit _ => 1
  | .nil => 1
  | .ptr d => uptoBulk d + 1
  | .slice elems spare => uptoBulkAll elems + uptoBulkAll spare + 1
  | .agg parts => uptoBulkAll parts + 1
  | .iface _ d => uptoBulk d + 1
  | .map entries => uptoBulkEntries entries + 1
  | .held _ => 1
def uptoBulkAll {H : Type} : List (DataW H) → Nat
  | [] => 0
  | d :: r => uptoBulk d + uptoBulkAll r
def uptoBulkEntries {H : Type} : List (Lit × DataW H) → Nat
  | [] => 0
  | x :: r => uptoBulkEntry x + uptoBulkEntries r
def uptoBulkEntry {H : Type} : Lit × DataW H → Nat
  | (.string bytes, d) => bytes.length + uptoBulk d + 1
  | (_, d) => uptoBulk d + 1
 end
def uptoSmall : (H : Type) → List (DataW H) → Bool := fun _ ds => decide (uptoBulkAll ds ≤ 1048576)
def OpenSpec.upto (s : _root_.Go.ChangeSpec) : _root_.Go.OpenSpec := { _root_.Go.OpenSpec.ofChange s with cond := some uptoSmall }

/-- 'baileylaw30.ImpactPlays', WHERE WHAT IT READS IS OF BULK AT MOST 1048576: true; the input reads as it did. -/
def impactPlaysUptoRow : OpenClaim := { program := "ytmomkfedcmogmaagreat", sum := "f83ec6741b0e6ae124d8c09b8bbc25beed0a526e60f2e580fe5a677f88f2a9d8", func := "bailey/baileylaw30.ImpactPlays", spec := "impactPlays", inPlace := ["slices.overlaps[int]", "slices.overlaps[bailey/api.Fact]"], unfollowed := true, recurses := true, apart := false, narrowed := true }
def ImpactPlaysUptoSaid : Prop := impactPlaysUptoRow.holds Tryz.pinned (OpenSpec.upto impactPlaysSpec)

/-- 'baileylaw30.ImpactLeast', WHERE WHAT IT READS IS OF BULK AT MOST 1048576: true; the input reads as it did. -/
def impactLeastUptoRow : OpenClaim := { program := "ytmomkfedcmogmaagreat", sum := "f83ec6741b0e6ae124d8c09b8bbc25beed0a526e60f2e580fe5a677f88f2a9d8", func := "bailey/baileylaw30.ImpactLeast", spec := "impactLeast", inPlace := ["slices.overlaps[int]", "slices.overlaps[bailey/api.Fact]"], unfollowed := true, recurses := true, apart := false, narrowed := true }
def ImpactLeastUptoSaid : Prop := impactLeastUptoRow.holds Tryz.pinned (OpenSpec.upto impactLeastSpec)

/-- 'baileylaw30.ImpactDiff', WHERE WHAT IT READS IS OF BULK AT MOST 1048576: true; the input reads as it did. -/
def impactDiffUptoRow : OpenClaim := { program := "ytmomkfedcmogmaagreat", sum := "f83ec6741b0e6ae124d8c09b8bbc25beed0a526e60f2e580fe5a677f88f2a9d8", func := "bailey/baileylaw30.ImpactDiff", spec := "impactDiff", inPlace := ["slices.overlaps[int]", "slices.overlaps[bailey/api.Fact]"], unfollowed := true, recurses := true, apart := false, narrowed := true }
def ImpactDiffUptoSaid : Prop := impactDiffUptoRow.holds Tryz.pinned (OpenSpec.upto impactDiffSpec)

end Rows
end Go.Proofs.YtmomkfedcmogmaaGreat
