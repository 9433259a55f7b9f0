/-
  No cell of these rows narrows 'for every input' (looked for: loops, veiled, ifaces, maps, wideKeys, modest, calm, conditions, laid).
  DERIVED. THE GIVEN ROWS OF THIS SEAT. 5 by the template 'for every input the law returns true; each argument reads behind the call as it read before'; 0 by the template 'total and deterministic' (their statements: YtkhddfknpegpmaaTotals.lean).
  GIVEN WITH THE SEED: the statements are not yours to turn. If you find one false, say at which input.
  Laid BY PROGRAM, IN A SANDBOX (cutbox-rows.mjs): the forced cells as the released guide's own fill.sh prints them over the translation f9f095f95b3cfdb0… (all of the seat's roots in one cut). By AI agents, Wed Nov 11 2026. No macro, syntax, notation, axiom, sorry.
-/
import Derived.Test.YtkhddfknpegpmaaChecked
import GoSem.Claim
import GoSem.ClaimJoined
import GoSem.ClaimMapViews
import Derived.JoinedTies
import Derived.KernelRfl
namespace Go.Proofs.Ytkhddfknpegpmaa
/- THE CELL 'sum', in the pinned program and in every row, IS THE sha256 OF THE DUMP (.gsa) THAT YtkhddfknpegpmaaProg.lean LOADS. Nothing in Lean hashes anything: it is a label: what it is worth is what the hold of that sum in a sandbox is worth. -/
noncomputable def Try.pinned : Pinned := { name := "ytkhddfknpegpmaa", sum := "f9f095f95b3cfdb09a7e071ab1d10525b98d4cae6cb476dddfc410e8e5825742", checked := Try.checked }
namespace Rows
def none {H : Type} : Left H := { results := [], args := [] }

/-- 'baileylaw13.JoinGrows': WHATEVER THE INPUT: true; the input reads as it did. -/
def joinGrowsSpec : ChangeSpec := { name := "joinGrows", fn := fun _ => fun
  | [d1, d2, d3, d4] => { results := [.lit (.bool true)], args := [d1, d2, d3, d4] }
  | _ => none }
def joinGrowsRow : OpenClaim := { program := "ytkhddfknpegpmaa", sum := "f9f095f95b3cfdb09a7e071ab1d10525b98d4cae6cb476dddfc410e8e5825742", func := "bailey/baileylaw13.JoinGrows", spec := "joinGrows", inPlace := ["slices.overlaps[bailey/api.Fact]"], unfollowed := true, recurses := true, apart := false }
def JoinGrowsSaid : Prop := joinGrowsRow.holds Try.pinned (OpenSpec.ofChange joinGrowsSpec)

/-- ITS FALSE NEIGHBOUR: 'it returns false'. Refute it at one input. -/
def joinGrowsWrong : ChangeSpec := { name := "joinGrows", fn := fun _ => fun
  | [d1, d2, d3, d4] => { results := [.lit (.bool false)], args := [d1, d2, d3, d4] }
  | _ => none }
def JoinGrowsWrongFalsely : Prop := joinGrowsRow.holds Try.pinned (OpenSpec.ofChange joinGrowsWrong)

/-- 'baileylaw13.JoinRenamed': WHATEVER THE INPUT: true; the input reads as it did. -/
def joinRenamedSpec : ChangeSpec := { name := "joinRenamed", fn := fun _ => fun
  | [d1, d2, d3, d4] => { results := [.lit (.bool true)], args := [d1, d2, d3, d4] }
  | _ => none }
def joinRenamedRow : OpenClaim := { program := "ytkhddfknpegpmaa", sum := "f9f095f95b3cfdb09a7e071ab1d10525b98d4cae6cb476dddfc410e8e5825742", func := "bailey/baileylaw13.JoinRenamed", spec := "joinRenamed", inPlace := ["slices.overlaps[bailey/api.Fact]"], unfollowed := true, recurses := true, apart := false }
def JoinRenamedSaid : Prop := joinRenamedRow.holds Try.pinned (OpenSpec.ofChange joinRenamedSpec)

/-- ITS FALSE NEIGHBOUR: 'it returns false'. Refute it at one input. -/
def joinRenamedWrong : ChangeSpec := { name := "joinRenamed", fn := fun _ => fun
  | [d1, d2, d3, d4] => { results := [.lit (.bool false)], args := [d1, d2, d3, d4] }
  | _ => none }
def JoinRenamedWrongFalsely : Prop := joinRenamedRow.holds Try.pinned (OpenSpec.ofChange joinRenamedWrong)

/-- 'baileylaw13.JoinBodies': WHATEVER THE INPUT: true; the input reads as it did. -/
def joinBodiesSpec : ChangeSpec := { name := "joinBodies", fn := fun _ => fun
  | [d1, d2, d3, d4, d5] => { results := [.lit (.bool true)], args := [d1, d2, d3, d4, d5] }
  | _ => none }
def joinBodiesRow : OpenClaim := { program := "ytkhddfknpegpmaa", sum := "f9f095f95b3cfdb09a7e071ab1d10525b98d4cae6cb476dddfc410e8e5825742", func := "bailey/baileylaw13.JoinBodies", spec := "joinBodies", inPlace := ["slices.overlaps[bailey/api.Fact]"], unfollowed := true, recurses := true, apart := false }
def JoinBodiesSaid : Prop := joinBodiesRow.holds Try.pinned (OpenSpec.ofChange joinBodiesSpec)

/-- ITS FALSE NEIGHBOUR: 'it returns false'. Refute it at one input. -/
def joinBodiesWrong : ChangeSpec := { name := "joinBodies", fn := fun _ => fun
  | [d1, d2, d3, d4, d5] => { results := [.lit (.bool false)], args := [d1, d2, d3, d4, d5] }
  | _ => none }
def JoinBodiesWrongFalsely : Prop := joinBodiesRow.holds Try.pinned (OpenSpec.ofChange joinBodiesWrong)

/-- 'baileylaw14.FixMore': WHATEVER THE INPUT: true; the input reads as it did. -/
def fixMoreSpec : ChangeSpec := { name := "fixMore", fn := fun _ => fun
  | [d1, d2, d3] => { results := [.lit (.bool true)], args := [d1, d2, d3] }
  | _ => none }
def fixMoreRow : OpenClaim := { program := "ytkhddfknpegpmaa", sum := "f9f095f95b3cfdb09a7e071ab1d10525b98d4cae6cb476dddfc410e8e5825742", func := "bailey/baileylaw14.FixMore", spec := "fixMore", inPlace := ["slices.overlaps[bailey/api.Fact]"], unfollowed := true, recurses := true, apart := false }
def FixMoreSaid : Prop := fixMoreRow.holds Try.pinned (OpenSpec.ofChange fixMoreSpec)

/-- ITS FALSE NEIGHBOUR: 'it returns false'. Refute it at one input. -/
def fixMoreWrong : ChangeSpec := { name := "fixMore", fn := fun _ => fun
  | [d1, d2, d3] => { results := [.lit (.bool false)], args := [d1, d2, d3] }
  | _ => none }
def FixMoreWrongFalsely : Prop := fixMoreRow.holds Try.pinned (OpenSpec.ofChange fixMoreWrong)

/-- 'baileylaw14.FixAgain': WHATEVER THE INPUT: true; the input reads as it did. -/
def fixAgainSpec : ChangeSpec := { name := "fixAgain", fn := fun _ => fun
  | [d1, d2, d3] => { results := [.lit (.bool true)], args := [d1, d2, d3] }
  | _ => none }
def fixAgainRow : OpenClaim := { program := "ytkhddfknpegpmaa", sum := "f9f095f95b3cfdb09a7e071ab1d10525b98d4cae6cb476dddfc410e8e5825742", func := "bailey/baileylaw14.FixAgain", spec := "fixAgain", inPlace := ["slices.overlaps[bailey/api.Fact]"], unfollowed := true, recurses := true, apart := false }
def FixAgainSaid : Prop := fixAgainRow.holds Try.pinned (OpenSpec.ofChange fixAgainSpec)

/-- ITS FALSE NEIGHBOUR: 'it returns false'. Refute it at one input. -/
def fixAgainWrong : ChangeSpec := { name := "fixAgain", fn := fun _ => fun
  | [d1, d2, d3] => { results := [.lit (.bool false)], args := [d1, d2, d3] }
  | _ => none }
def FixAgainWrongFalsely : Prop := fixAgainRow.holds Try.pinned (OpenSpec.ofChange fixAgainWrong)

/- THE SECOND FORM. 'bulk': how many values and letters a reading holds, each counted each time it is reached (what is shared counts as often as it is met; a slice's spare places count too). A statement '..UptoSaid' is the law's where the arguments, and the package variables that the reading takes, are together of bulk at most 1048576: NARROWER than '..Said'. Prove '..Said' where nothing that the law and all that it calls make is longer than what came in: it says more and counts as full. Else prove '..UptoSaid'. A law counts once. -/
mutual
def uptoBulk {H : Type} : DataW H → Nat
  | .lit (.string bytes) => bytes.length + 1
  | .lit _ => 1
  | .nil => 1
  | .ptr d => uptoBulk d + 1
  | .slice elems spare => uptoBulkAll elems + uptoBulkAll spare + 1
  | .agg parts => uptoBulkAll parts + 1
  | .iface _ d => uptoBulk d + 1
  | .map entries => uptoBulkEntries entries + 1
  | .held _ => 1
def uptoBulkAll {H : Type} : List (DataW H) → Nat
  | [] => 0
  | d :: r => uptoBulk d + uptoBulkAll r
def uptoBulkEntries {H : Type} : List (Lit × DataW H) → Nat
  | [] => 0
  | x :: r => uptoBulkEntry x + uptoBulkEntries r
def uptoBulkEntry {H : Type} : Lit × DataW H → Nat
  | (.string bytes, d) => bytes.length + uptoBulk d + 1
  | (_, d) => uptoBulk d + 1
 end
def uptoSmall : (H : Type) → List (DataW H) → Bool := fun _ ds => decide (uptoBulkAll ds ≤ 1048576)
def OpenSpec.upto (s : _root_.Go.ChangeSpec) : _root_.Go.OpenSpec := { _root_.Go.OpenSpec.ofChange s with cond := some uptoSmall }

/-- 'baileylaw13.JoinGrows', WHERE WHAT IT READS IS OF BULK AT MOST 1048576: true; the input reads as it did. -/
def joinGrowsUptoRow : OpenClaim := { program := "ytkhddfknpegpmaa", sum := "f9f095f95b3cfdb09a7e071ab1d10525b98d4cae6cb476dddfc410e8e5825742", func := "bailey/baileylaw13.JoinGrows", spec := "joinGrows", inPlace := ["slices.overlaps[bailey/api.Fact]"], unfollowed := true, recurses := true, apart := false, narrowed := true }
def JoinGrowsUptoSaid : Prop := joinGrowsUptoRow.holds Try.pinned (OpenSpec.upto joinGrowsSpec)

/-- 'baileylaw13.JoinRenamed', WHERE WHAT IT READS IS OF BULK AT MOST 1048576: true; the input reads as it did. -/
def joinRenamedUptoRow : OpenClaim := { program := "ytkhddfknpegpmaa", sum := "f9f095f95b3cfdb09a7e071ab1d10525b98d4cae6cb476dddfc410e8e5825742", func := "bailey/baileylaw13.JoinRenamed", spec := "joinRenamed", inPlace := ["slices.overlaps[bailey/api.Fact]"], unfollowed := true, recurses := true, apart := false, narrowed := true }
def JoinRenamedUptoSaid : Prop := joinRenamedUptoRow.holds Try.pinned (OpenSpec.upto joinRenamedSpec)

/-- 'baileylaw13.JoinBodies', WHERE WHAT IT READS IS OF BULK AT MOST 1048576: true; the input reads as it did. -/
def joinBodiesUptoRow : OpenClaim := { program := "ytkhddfknpegpmaa", sum := "f9f095f95b3cfdb09a7e071ab1d10525b98d4cae6cb476dddfc410e8e5825742", func := "bailey/baileylaw13.JoinBodies", spec := "joinBodies", inPlace := ["slices.overlaps[bailey/api.Fact]"], unfollowed := true, recurses := true, apart := false, narrowed := true }
def JoinBodiesUptoSaid : Prop := joinBodiesUptoRow.holds Try.pinned (OpenSpec.upto joinBodiesSpec)

/-- 'baileylaw14.FixMore', WHERE WHAT IT READS IS OF BULK AT MOST 1048576: true; the input reads as it did. -/
def fixMoreUptoRow : OpenClaim := { program := "ytkhddfknpegpmaa", sum := "f9f095f95b3cfdb09a7e071ab1d10525b98d4cae6cb476dddfc410e8e5825742", func := "bailey/baileylaw14.FixMore", spec := "fixMore", inPlace := ["slices.overlaps[bailey/api.Fact]"], unfollowed := true, recurses := true, apart := false, narrowed := true }
def FixMoreUptoSaid : Prop := fixMoreUptoRow.holds Try.pinned (OpenSpec.upto fixMoreSpec)

/-- 'baileylaw14.FixAgain', WHERE WHAT IT READS IS OF BULK AT MOST 1048576: true; the input reads as it did. -/
def fixAgainUptoRow : OpenClaim := { program := "ytkhddfknpegpmaa", sum := "f9f095f95b3cfdb09a7e071ab1d10525b98d4cae6cb476dddfc410e8e5825742", func := "bailey/baileylaw14.FixAgain", spec := "fixAgain", inPlace := ["slices.overlaps[bailey/api.Fact]"], unfollowed := true, recurses := true, apart := false, narrowed := true }
def FixAgainUptoSaid : Prop := fixAgainUptoRow.holds Try.pinned (OpenSpec.upto fixAgainSpec)

end Rows
end Go.Proofs.Ytkhddfknpegpmaa
