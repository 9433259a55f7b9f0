/-
  No cell of these rows narrows 'for every input' (looked for: loops, veiled, ifaces, maps, wideKeys, modest, calm, conditions, laid).
  DERIVED. THE GIVEN ROWS OF THIS SEAT. 5 by the template 'for every input the law returns true; each argument reads behind the call as it read before'; 0 by the template 'total and deterministic' (their statements: YtdconhalfanclaaGreatTotals.lean).
  GIVEN WITH THE SEED: the statements are not yours to turn. If you find one false, say at which input.
  Laid BY PROGRAM, IN A SANDBOX (cutbox-rows.mjs): the forced cells as the released guide's own fill.sh prints them over the translation 6266e5b0ea4305ce… (all of the seat's roots in one cut). By AI agents, Wed Nov 11 2026. No macro, syntax, notation, axiom, sorry.
-/
import Derived.Test.YtdconhalfanclaaGreatChecked
import GoSem.Claim
import GoSem.ClaimJoined
import GoSem.ClaimMapViews
import Derived.JoinedTies
import Derived.KernelRfl
namespace Go.Proofs.YtdconhalfanclaaGreat
/- THE CELL 'sum', in the pinned program and in every row, IS THE sha256 OF THE DUMP (.gsa) THAT YtdconhalfanclaaGreatProg.lean LOADS. Nothing in Lean hashes anything: it is a label: what it is worth is what the hold of that sum in a sandbox is worth. -/
noncomputable def Tryz.pinned : Pinned := { name := "ytdconhalfanclaagreat", sum := "6266e5b0ea4305ce0796662b81f467ba79ca6a844b0b55451bcf55dba51ec60a", checked := Tryz.checked }
namespace Rows
def none {H : Type} : Left H := { results := [], args := [] }

/-- 'baileylaw30.ImpactLeast': WHATEVER THE INPUT: true; the input reads as it did. -/
def impactLeastSpec : ChangeSpec := { name := "impactLeast", fn := fun _ => fun
  | [d1, d2, d3] => { results := [.lit (.bool true)], args := [d1, d2, d3] }
  | _ => none }
def impactLeastRow : OpenClaim := { program := "ytdconhalfanclaagreat", sum := "6266e5b0ea4305ce0796662b81f467ba79ca6a844b0b55451bcf55dba51ec60a", func := "bailey/baileylaw30.ImpactLeast", spec := "impactLeast", inPlace := ["slices.overlaps[int]", "slices.overlaps[bailey/api.Fact]"], unfollowed := true, recurses := true, apart := false }
def ImpactLeastSaid : Prop := impactLeastRow.holds Tryz.pinned (OpenSpec.ofChange impactLeastSpec)

/-- ITS FALSE NEIGHBOUR: 'it returns false'. Refute it at one input. -/
def impactLeastWrong : ChangeSpec := { name := "impactLeast", fn := fun _ => fun
  | [d1, d2, d3] => { results := [.lit (.bool false)], args := [d1, d2, d3] }
  | _ => none }
def ImpactLeastWrongFalsely : Prop := impactLeastRow.holds Tryz.pinned (OpenSpec.ofChange impactLeastWrong)

/-- 'baileylaw30.ImpactDiff': WHATEVER THE INPUT: true; the input reads as it did. -/
def impactDiffSpec : ChangeSpec := { name := "impactDiff", fn := fun _ => fun
  | [d1, d2, d3] => { results := [.lit (.bool true)], args := [d1, d2, d3] }
  | _ => none }
def impactDiffRow : OpenClaim := { program := "ytdconhalfanclaagreat", sum := "6266e5b0ea4305ce0796662b81f467ba79ca6a844b0b55451bcf55dba51ec60a", func := "bailey/baileylaw30.ImpactDiff", spec := "impactDiff", inPlace := ["slices.overlaps[int]", "slices.overlaps[bailey/api.Fact]"], unfollowed := true, recurses := true, apart := false }
def ImpactDiffSaid : Prop := impactDiffRow.holds Tryz.pinned (OpenSpec.ofChange impactDiffSpec)

/-- ITS FALSE NEIGHBOUR: 'it returns false'. Refute it at one input. -/
def impactDiffWrong : ChangeSpec := { name := "impactDiff", fn := fun _ => fun
  | [d1, d2, d3] => { results := [.lit (.bool false)], args := [d1, d2, d3] }
  | _ => none }
def ImpactDiffWrongFalsely : Prop := impactDiffRow.holds Tryz.pinned (OpenSpec.ofChange impactDiffWrong)

/-- 'baileylaw29.ProofChecks': WHATEVER THE INPUT: true; the input reads as it did. -/
def proofChecksSpec : ChangeSpec := { name := "proofChecks", fn := fun _ => fun
  | [d1, d2, d3, d4, d5, d6] => { results := [.lit (.bool true)], args := [d1, d2, d3, d4, d5, d6] }
  | _ => none }
def proofChecksRow : OpenClaim := { program := "ytdconhalfanclaagreat", sum := "6266e5b0ea4305ce0796662b81f467ba79ca6a844b0b55451bcf55dba51ec60a", func := "bailey/baileylaw29.ProofChecks", spec := "proofChecks", inPlace := ["slices.overlaps[int]", "slices.overlaps[bailey/api.Fact]"], unfollowed := true, recurses := true, apart := false }
def ProofChecksSaid : Prop := proofChecksRow.holds Tryz.pinned (OpenSpec.ofChange proofChecksSpec)

/-- ITS FALSE NEIGHBOUR: 'it returns false'. Refute it at one input. -/
def proofChecksWrong : ChangeSpec := { name := "proofChecks", fn := fun _ => fun
  | [d1, d2, d3, d4, d5, d6] => { results := [.lit (.bool false)], args := [d1, d2, d3, d4, d5, d6] }
  | _ => none }
def ProofChecksWrongFalsely : Prop := proofChecksRow.holds Tryz.pinned (OpenSpec.ofChange proofChecksWrong)

/-- 'baileylaw29.ProofFinds': WHATEVER THE INPUT: true; the input reads as it did. -/
def proofFindsSpec : ChangeSpec := { name := "proofFinds", fn := fun _ => fun
  | [d1, d2, d3, d4] => { results := [.lit (.bool true)], args := [d1, d2, d3, d4] }
  | _ => none }
def proofFindsRow : OpenClaim := { program := "ytdconhalfanclaagreat", sum := "6266e5b0ea4305ce0796662b81f467ba79ca6a844b0b55451bcf55dba51ec60a", func := "bailey/baileylaw29.ProofFinds", spec := "proofFinds", inPlace := ["slices.overlaps[int]", "slices.overlaps[bailey/api.Fact]"], unfollowed := true, recurses := true, apart := false }
def ProofFindsSaid : Prop := proofFindsRow.holds Tryz.pinned (OpenSpec.ofChange proofFindsSpec)

/-- ITS FALSE NEIGHBOUR: 'it returns false'. Refute it at one input. -/
def proofFindsWrong : ChangeSpec := { name := "proofFinds", fn := fun _ => fun
  | [d1, d2, d3, d4] => { results := [.lit (.bool false)], args := [d1, d2, d3, d4] }
  | _ => none }
def ProofFindsWrongFalsely : Prop := proofFindsRow.holds Tryz.pinned (OpenSpec.ofChange proofFindsWrong)

/-- 'baileylaw29.ProofSound': WHATEVER THE INPUT: true; the input reads as it did. -/
def proofSoundSpec : ChangeSpec := { name := "proofSound", fn := fun _ => fun
  | [d1, d2, d3, d4] => { results := [.lit (.bool true)], args := [d1, d2, d3, d4] }
  | _ => none }
def proofSoundRow : OpenClaim := { program := "ytdconhalfanclaagreat", sum := "6266e5b0ea4305ce0796662b81f467ba79ca6a844b0b55451bcf55dba51ec60a", func := "bailey/baileylaw29.ProofSound", spec := "proofSound", inPlace := ["slices.overlaps[int]", "slices.overlaps[bailey/api.Fact]"], unfollowed := true, recurses := true, apart := false }
def ProofSoundSaid : Prop := proofSoundRow.holds Tryz.pinned (OpenSpec.ofChange proofSoundSpec)

/-- ITS FALSE NEIGHBOUR: 'it returns false'. Refute it at one input. -/
def proofSoundWrong : ChangeSpec := { name := "proofSound", fn := fun _ => fun
  | [d1, d2, d3, d4] => { results := [.lit (.bool false)], args := [d1, d2, d3, d4] }
  | _ => none }
def ProofSoundWrongFalsely : Prop := proofSoundRow.holds Tryz.pinned (OpenSpec.ofChange proofSoundWrong)

/- THE SECOND FORM. 'bulk': how many values and letters a reading holds, each counted each time it is reached (what is shared counts as often as it is met; a slice's spare places count too). A statement '..UptoSaid' is the law's where the arguments, and the package variables that the reading takes, are together of bulk at most 1048576: NARROWER than '..Said'. Prove '..Said' where nothing that the law and all that it calls make is longer than what came in: it says more and counts as full. Else prove '..UptoSaid'. A law counts once. -/
mutual
def uptoBulk {H : Type} : DataW H → Nat
  | .lit (.string bytes) => bytes.length + 1
  | .lit _ => 1
  | .nil => 1
  | .ptr d => uptoBulk d + 1
  | .slice elems spare => uptoBulkAll elems + uptoBulkAll spare + 1
  | .agg parts => uptoBulkAll parts + 1
  | .iface _ d => uptoBulk d + 1
  | .map entries => uptoBulkEntries entries + 1
  | .held _ => 1
def uptoBulkAll {H : Type} : List (DataW H) → Nat
  | [] => 0
  | d :: r => uptoBulk d + uptoBulkAll r
def uptoBulkEntries {H : Type} : List (Lit × DataW H) → Nat
  | [] => 0
  | x :: r => uptoBulkEntry x + uptoBulkEntries r
def uptoBulkEntry {H : Type} : Lit × DataW H → Nat
  | (.string bytes, d) => bytes.length + uptoBulk d + 1
  | (_, d) => uptoBulk d + 1
 end
def uptoSmall : (H : Type) → List (DataW H) → Bool := fun _ ds => decide (uptoBulkAll ds ≤ 1048576)
def OpenSpec.upto (s : _root_.Go.ChangeSpec) : _root_.Go.OpenSpec := { _root_.Go.OpenSpec.ofChange s with cond := some uptoSmall }

/-- 'baileylaw30.ImpactLeast', WHERE WHAT IT READS IS OF BULK AT MOST 1048576: true; the input reads as it did. -/
def impactLeastUptoRow : OpenClaim := { program := "ytdconhalfanclaagreat", sum := "6266e5b0ea4305ce0796662b81f467ba79ca6a844b0b55451bcf55dba51ec60a", func := "bailey/baileylaw30.ImpactLeast", spec := "impactLeast", inPlace := ["slices.overlaps[int]", "slices.overlaps[bailey/api.Fact]"], unfollowed := true, recurses := true, apart := false, narrowed := true }
def ImpactLeastUptoSaid : Prop := impactLeastUptoRow.holds Tryz.pinned (OpenSpec.upto impactLeastSpec)

/-- 'baileylaw30.ImpactDiff', WHERE WHAT IT READS IS OF BULK AT MOST 1048576: true; the input reads as it did. -/
def impactDiffUptoRow : OpenClaim := { program := "ytdconhalfanclaagreat", sum := "6266e5b0ea4305ce0796662b81f467ba79ca6a844b0b55451bcf55dba51ec60a", func := "bailey/baileylaw30.ImpactDiff", spec := "impactDiff", inPlace := ["slices.overlaps[int]", "slices.overlaps[bailey/api.Fact]"], unfollowed := true, recurses := true, apart := false, narrowed := true }
def ImpactDiffUptoSaid : Prop := impactDiffUptoRow.holds Tryz.pinned (OpenSpec.upto impactDiffSpec)

/-- 'baileylaw29.ProofChecks', WHERE WHAT IT READS IS OF BULK AT MOST 1048576: true; the input reads as it did. -/
def proofChecksUptoRow : OpenClaim := { program := "ytdconhalfanclaagreat", sum := "6266e5b0ea4305ce0796662b81f467ba79ca6a844b0b55451bcf55dba51ec60a", func := "bailey/baileylaw29.ProofChecks", spec := "proofChecks", inPlace := ["slices.overlaps[int]", "slices.overlaps[bailey/api.Fact]"], unfollowed := true, recurses := true, apart := false, narrowed := true }
def ProofChecksUptoSaid : Prop := proofChecksUptoRow.holds Tryz.pinned (OpenSpec.upto proofChecksSpec)

/-- 'baileylaw29.ProofFinds', WHERE WHAT IT READS IS OF BULK AT MOST 1048576: true; the input reads as it did. -/
def proofFindsUptoRow : OpenClaim := { program := "ytdconhalfanclaagreat", sum := "6266e5b0ea4305ce0796662b81f467ba79ca6a844b0b55451bcf55dba51ec60a", func := "bailey/baileylaw29.ProofFinds", spec := "proofFinds", inPlace := ["slices.overlaps[int]", "slices.overlaps[bailey/api.Fact]"], unfollowed := true, recurses := true, apart := false, narrowed := true }
def ProofFindsUptoSaid : Prop := proofFindsUptoRow.holds Tryz.pinned (OpenSpec.upto proofFindsSpec)

/-- 'baileylaw29.ProofSound', WHERE WHAT IT READS IS OF BULK AT MOST 1048576: true; the input reads as it did. -/
def proofSoundUptoRow : OpenClaim := { program := "ytdconhalfanclaagreat", sum := "6266e5b0ea4305ce0796662b81f467ba79ca6a844b0b55451bcf55dba51ec60a", func := "bailey/baileylaw29.ProofSound", spec := "proofSound", inPlace := ["slices.overlaps[int]", "slices.overlaps[bailey/api.Fact]"], unfollowed := true, recurses := true, apart := false, narrowed := true }
def ProofSoundUptoSaid : Prop := proofSoundUptoRow.holds Tryz.pinned (OpenSpec.upto proofSoundSpec)

end Rows
end Go.Proofs.YtdconhalfanclaaGreat
