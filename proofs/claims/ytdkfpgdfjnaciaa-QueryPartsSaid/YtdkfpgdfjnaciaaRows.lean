/-
  No cell of these rows narrows 'for every input' (looked for: loops, veiled, ifaces, maps, wideKeys, modest, calm, conditions, laid).
  DERIVED. THE GIVEN ROWS OF THIS SEAT. 14 by the template 'for every input the law returns true; each argument reads behind the call as it read before'; 0 by the template 'total and deterministic' (their statements: YtdkfpgdfjnaciaaTotals.lean).
  GIVEN WITH THE SEED: the statements are not yours to turn. If you find one false, say at which input.
  Laid BY PROGRAM, IN A SANDBOX (cutbox-rows.mjs): the forced cells as the released guide's own fill.sh prints them over the translation 477ab88f7c392121… (all of the seat's roots in one cut). By AI agents, Wed Nov 11 2026. No macro, syntax, notation, axiom, sorry.
-/
import Derived.Test.YtdkfpgdfjnaciaaChecked
import GoSem.Claim
import GoSem.ClaimJoined
import GoSem.ClaimMapViews
import Derived.JoinedTies
import Derived.KernelRfl
namespace Go.Proofs.Ytdkfpgdfjnaciaa
/- THE CELL 'sum', in the pinned program and in every row, IS THE sha256 OF THE DUMP (.gsa) THAT YtdkfpgdfjnaciaaProg.lean LOADS. Nothing in Lean hashes anything: it is a label: what it is worth is what the hold of that sum in a sandbox is worth. -/
noncomputable def Try.pinned : Pinned := { name := "ytdkfpgdfjnaciaa", sum := "477ab88f7c392121340bbb12fbaf2fbe692817faf7b3580c0b3aaadc5eefec81", checked := Try.checked }
namespace Rows
def none {H : Type} : Left H := { results := [], args := [] }

/-- 'baileylaw24.CacheRoom': WHATEVER THE INPUT: true; the input reads as it did. -/
def cacheRoomSpec : ChangeSpec := { name := "cacheRoom", fn := fun _ => fun
  | [d1, d2, d3] => { results := [.lit (.bool true)], args := [d1, d2, d3] }
  | _ => none }
def cacheRoomRow : OpenClaim := { program := "ytdkfpgdfjnaciaa", sum := "477ab88f7c392121340bbb12fbaf2fbe692817faf7b3580c0b3aaadc5eefec81", func := "bailey/baileylaw24.CacheRoom", spec := "cacheRoom", unfollowed := true, recurses := true, apart := false }
def CacheRoomSaid : Prop := cacheRoomRow.holds Try.pinned (OpenSpec.ofChange cacheRoomSpec)

/-- ITS FALSE NEIGHBOUR: 'it returns false'. Refute it at one input. -/
def cacheRoomWrong : ChangeSpec := { name := "cacheRoom", fn := fun _ => fun
  | [d1, d2, d3] => { results := [.lit (.bool false)], args := [d1, d2, d3] }
  | _ => none }
def CacheRoomWrongFalsely : Prop := cacheRoomRow.holds Try.pinned (OpenSpec.ofChange cacheRoomWrong)

/-- 'baileylaw24.CachePlays': WHATEVER THE INPUT: true; the input reads as it did. -/
def cachePlaysSpec : ChangeSpec := { name := "cachePlays", fn := fun _ => fun
  | [d1, d2] => { results := [.lit (.bool true)], args := [d1, d2] }
  | _ => none }
def cachePlaysRow : OpenClaim := { program := "ytdkfpgdfjnaciaa", sum := "477ab88f7c392121340bbb12fbaf2fbe692817faf7b3580c0b3aaadc5eefec81", func := "bailey/baileylaw24.CachePlays", spec := "cachePlays", unfollowed := true, recurses := true, apart := false }
def CachePlaysSaid : Prop := cachePlaysRow.holds Try.pinned (OpenSpec.ofChange cachePlaysSpec)

/-- ITS FALSE NEIGHBOUR: 'it returns false'. Refute it at one input. -/
def cachePlaysWrong : ChangeSpec := { name := "cachePlays", fn := fun _ => fun
  | [d1, d2] => { results := [.lit (.bool false)], args := [d1, d2] }
  | _ => none }
def CachePlaysWrongFalsely : Prop := cachePlaysRow.holds Try.pinned (OpenSpec.ofChange cachePlaysWrong)

/-- 'baileylaw24.CacheLast': WHATEVER THE INPUT: true; the input reads as it did. -/
def cacheLastSpec : ChangeSpec := { name := "cacheLast", fn := fun _ => fun
  | [d1, d2] => { results := [.lit (.bool true)], args := [d1, d2] }
  | _ => none }
def cacheLastRow : OpenClaim := { program := "ytdkfpgdfjnaciaa", sum := "477ab88f7c392121340bbb12fbaf2fbe692817faf7b3580c0b3aaadc5eefec81", func := "bailey/baileylaw24.CacheLast", spec := "cacheLast", unfollowed := true, recurses := true, apart := false }
def CacheLastSaid : Prop := cacheLastRow.holds Try.pinned (OpenSpec.ofChange cacheLastSpec)

/-- ITS FALSE NEIGHBOUR: 'it returns false'. Refute it at one input. -/
def cacheLastWrong : ChangeSpec := { name := "cacheLast", fn := fun _ => fun
  | [d1, d2] => { results := [.lit (.bool false)], args := [d1, d2] }
  | _ => none }
def CacheLastWrongFalsely : Prop := cacheLastRow.holds Try.pinned (OpenSpec.ofChange cacheLastWrong)

/-- 'baileylaw24.CacheNil': WHATEVER THE INPUT: true; the input reads as it did. -/
def cacheNilSpec : ChangeSpec := { name := "cacheNil", fn := fun _ => fun
  | [d1, d2] => { results := [.lit (.bool true)], args := [d1, d2] }
  | _ => none }
def cacheNilRow : OpenClaim := { program := "ytdkfpgdfjnaciaa", sum := "477ab88f7c392121340bbb12fbaf2fbe692817faf7b3580c0b3aaadc5eefec81", func := "bailey/baileylaw24.CacheNil", spec := "cacheNil", unfollowed := true, recurses := true, apart := false }
def CacheNilSaid : Prop := cacheNilRow.holds Try.pinned (OpenSpec.ofChange cacheNilSpec)

/-- ITS FALSE NEIGHBOUR: 'it returns false'. Refute it at one input. -/
def cacheNilWrong : ChangeSpec := { name := "cacheNil", fn := fun _ => fun
  | [d1, d2] => { results := [.lit (.bool false)], args := [d1, d2] }
  | _ => none }
def CacheNilWrongFalsely : Prop := cacheNilRow.holds Try.pinned (OpenSpec.ofChange cacheNilWrong)

/-- 'baileylaw10.RelPlays': WHATEVER THE INPUT: true; the input reads as it did. -/
def relPlaysSpec : ChangeSpec := { name := "relPlays", fn := fun _ => fun
  | [d1, d2, d3] => { results := [.lit (.bool true)], args := [d1, d2, d3] }
  | _ => none }
def relPlaysRow : OpenClaim := { program := "ytdkfpgdfjnaciaa", sum := "477ab88f7c392121340bbb12fbaf2fbe692817faf7b3580c0b3aaadc5eefec81", func := "bailey/baileylaw10.RelPlays", spec := "relPlays", inPlace := ["slices.overlaps[bailey/api.Fact]"], unfollowed := true, recurses := true, apart := false }
def RelPlaysSaid : Prop := relPlaysRow.holds Try.pinned (OpenSpec.ofChange relPlaysSpec)

/-- ITS FALSE NEIGHBOUR: 'it returns false'. Refute it at one input. -/
def relPlaysWrong : ChangeSpec := { name := "relPlays", fn := fun _ => fun
  | [d1, d2, d3] => { results := [.lit (.bool false)], args := [d1, d2, d3] }
  | _ => none }
def RelPlaysWrongFalsely : Prop := relPlaysRow.holds Try.pinned (OpenSpec.ofChange relPlaysWrong)

/-- 'baileylaw10.RelOrder': WHATEVER THE INPUT: true; the input reads as it did. -/
def relOrderSpec : ChangeSpec := { name := "relOrder", fn := fun _ => fun
  | [d1, d2] => { results := [.lit (.bool true)], args := [d1, d2] }
  | _ => none }
def relOrderRow : OpenClaim := { program := "ytdkfpgdfjnaciaa", sum := "477ab88f7c392121340bbb12fbaf2fbe692817faf7b3580c0b3aaadc5eefec81", func := "bailey/baileylaw10.RelOrder", spec := "relOrder", inPlace := ["slices.overlaps[bailey/api.Fact]"], unfollowed := true, recurses := true, apart := false }
def RelOrderSaid : Prop := relOrderRow.holds Try.pinned (OpenSpec.ofChange relOrderSpec)

/-- ITS FALSE NEIGHBOUR: 'it returns false'. Refute it at one input. -/
def relOrderWrong : ChangeSpec := { name := "relOrder", fn := fun _ => fun
  | [d1, d2] => { results := [.lit (.bool false)], args := [d1, d2] }
  | _ => none }
def RelOrderWrongFalsely : Prop := relOrderRow.holds Try.pinned (OpenSpec.ofChange relOrderWrong)

/-- 'baileylaw10.RelFinds': WHATEVER THE INPUT: true; the input reads as it did. -/
def relFindsSpec : ChangeSpec := { name := "relFinds", fn := fun _ => fun
  | [d1, d2] => { results := [.lit (.bool true)], args := [d1, d2] }
  | _ => none }
def relFindsRow : OpenClaim := { program := "ytdkfpgdfjnaciaa", sum := "477ab88f7c392121340bbb12fbaf2fbe692817faf7b3580c0b3aaadc5eefec81", func := "bailey/baileylaw10.RelFinds", spec := "relFinds", inPlace := ["slices.overlaps[bailey/api.Fact]"], unfollowed := true, recurses := true, apart := false }
def RelFindsSaid : Prop := relFindsRow.holds Try.pinned (OpenSpec.ofChange relFindsSpec)

/-- ITS FALSE NEIGHBOUR: 'it returns false'. Refute it at one input. -/
def relFindsWrong : ChangeSpec := { name := "relFinds", fn := fun _ => fun
  | [d1, d2] => { results := [.lit (.bool false)], args := [d1, d2] }
  | _ => none }
def RelFindsWrongFalsely : Prop := relFindsRow.holds Try.pinned (OpenSpec.ofChange relFindsWrong)

/-- 'baileylaw10.RelLess': WHATEVER THE INPUT: true; the input reads as it did. -/
def relLessSpec : ChangeSpec := { name := "relLess", fn := fun _ => fun
  | [d1, d2] => { results := [.lit (.bool true)], args := [d1, d2] }
  | _ => none }
def relLessRow : OpenClaim := { program := "ytdkfpgdfjnaciaa", sum := "477ab88f7c392121340bbb12fbaf2fbe692817faf7b3580c0b3aaadc5eefec81", func := "bailey/baileylaw10.RelLess", spec := "relLess", inPlace := ["slices.overlaps[bailey/api.Fact]"], unfollowed := true, recurses := true, apart := false }
def RelLessSaid : Prop := relLessRow.holds Try.pinned (OpenSpec.ofChange relLessSpec)

/-- ITS FALSE NEIGHBOUR: 'it returns false'. Refute it at one input. -/
def relLessWrong : ChangeSpec := { name := "relLess", fn := fun _ => fun
  | [d1, d2] => { results := [.lit (.bool false)], args := [d1, d2] }
  | _ => none }
def RelLessWrongFalsely : Prop := relLessRow.holds Try.pinned (OpenSpec.ofChange relLessWrong)

/-- 'baileylaw10.RelParts': WHATEVER THE INPUT: true; the input reads as it did. -/
def relPartsSpec : ChangeSpec := { name := "relParts", fn := fun _ => fun
  | [d1, d2, d3] => { results := [.lit (.bool true)], args := [d1, d2, d3] }
  | _ => none }
def relPartsRow : OpenClaim := { program := "ytdkfpgdfjnaciaa", sum := "477ab88f7c392121340bbb12fbaf2fbe692817faf7b3580c0b3aaadc5eefec81", func := "bailey/baileylaw10.RelParts", spec := "relParts", inPlace := ["slices.overlaps[bailey/api.Fact]"], unfollowed := true, recurses := true, apart := false }
def RelPartsSaid : Prop := relPartsRow.holds Try.pinned (OpenSpec.ofChange relPartsSpec)

/-- ITS FALSE NEIGHBOUR: 'it returns false'. Refute it at one input. -/
def relPartsWrong : ChangeSpec := { name := "relParts", fn := fun _ => fun
  | [d1, d2, d3] => { results := [.lit (.bool false)], args := [d1, d2, d3] }
  | _ => none }
def RelPartsWrongFalsely : Prop := relPartsRow.holds Try.pinned (OpenSpec.ofChange relPartsWrong)

/-- 'baileylaw10.RelNil': WHATEVER THE INPUT: true; the input reads as it did. -/
def relNilSpec : ChangeSpec := { name := "relNil", fn := fun _ => fun
  | [d1, d2, d3] => { results := [.lit (.bool true)], args := [d1, d2, d3] }
  | _ => none }
def relNilRow : OpenClaim := { program := "ytdkfpgdfjnaciaa", sum := "477ab88f7c392121340bbb12fbaf2fbe692817faf7b3580c0b3aaadc5eefec81", func := "bailey/baileylaw10.RelNil", spec := "relNil", inPlace := ["slices.overlaps[bailey/api.Fact]"], unfollowed := true, recurses := true, apart := false }
def RelNilSaid : Prop := relNilRow.holds Try.pinned (OpenSpec.ofChange relNilSpec)

/-- ITS FALSE NEIGHBOUR: 'it returns false'. Refute it at one input. -/
def relNilWrong : ChangeSpec := { name := "relNil", fn := fun _ => fun
  | [d1, d2, d3] => { results := [.lit (.bool false)], args := [d1, d2, d3] }
  | _ => none }
def RelNilWrongFalsely : Prop := relNilRow.holds Try.pinned (OpenSpec.ofChange relNilWrong)

/-- 'baileylaw10.RelAlgebra': WHATEVER THE INPUT: true; the input reads as it did. -/
def relAlgebraSpec : ChangeSpec := { name := "relAlgebra", fn := fun _ => fun
  | [d1, d2, d3] => { results := [.lit (.bool true)], args := [d1, d2, d3] }
  | _ => none }
def relAlgebraRow : OpenClaim := { program := "ytdkfpgdfjnaciaa", sum := "477ab88f7c392121340bbb12fbaf2fbe692817faf7b3580c0b3aaadc5eefec81", func := "bailey/baileylaw10.RelAlgebra", spec := "relAlgebra", inPlace := ["slices.overlaps[bailey/api.Fact]"], unfollowed := true, recurses := true, apart := false }
def RelAlgebraSaid : Prop := relAlgebraRow.holds Try.pinned (OpenSpec.ofChange relAlgebraSpec)

/-- ITS FALSE NEIGHBOUR: 'it returns false'. Refute it at one input. -/
def relAlgebraWrong : ChangeSpec := { name := "relAlgebra", fn := fun _ => fun
  | [d1, d2, d3] => { results := [.lit (.bool false)], args := [d1, d2, d3] }
  | _ => none }
def RelAlgebraWrongFalsely : Prop := relAlgebraRow.holds Try.pinned (OpenSpec.ofChange relAlgebraWrong)

/-- 'baileylaw16.QueryPlays': WHATEVER THE INPUT: true; the input reads as it did. -/
def queryPlaysSpec : ChangeSpec := { name := "queryPlays", fn := fun _ => fun
  | [d1, d2, d3] => { results := [.lit (.bool true)], args := [d1, d2, d3] }
  | _ => none }
def queryPlaysRow : OpenClaim := { program := "ytdkfpgdfjnaciaa", sum := "477ab88f7c392121340bbb12fbaf2fbe692817faf7b3580c0b3aaadc5eefec81", func := "bailey/baileylaw16.QueryPlays", spec := "queryPlays", unfollowed := true, recurses := true, apart := false }
def QueryPlaysSaid : Prop := queryPlaysRow.holds Try.pinned (OpenSpec.ofChange queryPlaysSpec)

/-- ITS FALSE NEIGHBOUR: 'it returns false'. Refute it at one input. -/
def queryPlaysWrong : ChangeSpec := { name := "queryPlays", fn := fun _ => fun
  | [d1, d2, d3] => { results := [.lit (.bool false)], args := [d1, d2, d3] }
  | _ => none }
def QueryPlaysWrongFalsely : Prop := queryPlaysRow.holds Try.pinned (OpenSpec.ofChange queryPlaysWrong)

/-- 'baileylaw16.QueryParts': WHATEVER THE INPUT: true; the input reads as it did. -/
def queryPartsSpec : ChangeSpec := { name := "queryParts", fn := fun _ => fun
  | [d1, d2, d3] => { results := [.lit (.bool true)], args := [d1, d2, d3] }
  | _ => none }
def queryPartsRow : OpenClaim := { program := "ytdkfpgdfjnaciaa", sum := "477ab88f7c392121340bbb12fbaf2fbe692817faf7b3580c0b3aaadc5eefec81", func := "bailey/baileylaw16.QueryParts", spec := "queryParts", unfollowed := true, recurses := true, apart := false }
def QueryPartsSaid : Prop := queryPartsRow.holds Try.pinned (OpenSpec.ofChange queryPartsSpec)

/-- ITS FALSE NEIGHBOUR: 'it returns false'. Refute it at one input. -/
def queryPartsWrong : ChangeSpec := { name := "queryParts", fn := fun _ => fun
  | [d1, d2, d3] => { results := [.lit (.bool false)], args := [d1, d2, d3] }
  | _ => none }
def QueryPartsWrongFalsely : Prop := queryPartsRow.holds Try.pinned (OpenSpec.ofChange queryPartsWrong)

/-- 'baileylaw16.QueryBoth': WHATEVER THE INPUT: true; the input reads as it did. -/
def queryBothSpec : ChangeSpec := { name := "queryBoth", fn := fun _ => fun
  | [d1, d2, d3] => { results := [.lit (.bool true)], args := [d1, d2, d3] }
  | _ => none }
def queryBothRow : OpenClaim := { program := "ytdkfpgdfjnaciaa", sum := "477ab88f7c392121340bbb12fbaf2fbe692817faf7b3580c0b3aaadc5eefec81", func := "bailey/baileylaw16.QueryBoth", spec := "queryBoth", unfollowed := true, recurses := true, apart := false }
def QueryBothSaid : Prop := queryBothRow.holds Try.pinned (OpenSpec.ofChange queryBothSpec)

/-- ITS FALSE NEIGHBOUR: 'it returns false'. Refute it at one input. -/
def queryBothWrong : ChangeSpec := { name := "queryBoth", fn := fun _ => fun
  | [d1, d2, d3] => { results := [.lit (.bool false)], args := [d1, d2, d3] }
  | _ => none }
def QueryBothWrongFalsely : Prop := queryBothRow.holds Try.pinned (OpenSpec.ofChange queryBothWrong)

/- THE SECOND FORM. 'bulk': how many values and letters a reading holds, each counted each time it is reached (what is shared counts as often as it is met; a slice's spare places count too). A statement '..UptoSaid' is the law's where the arguments, and the package variables that the reading takes, are together of bulk at most 1048576: NARROWER than '..Said'. Prove '..Said' where nothing that the law and all that it calls make is longer than what came in: it says more and counts as full. Else prove '..UptoSaid'. A law counts once. -/
mutual
def uptoBulk {H : Type} : DataW H → Nat
  | .lit (.string bytes) => bytes.length + 1
  | .lit _ => 1
  | .nil => 1
  | .ptr d => uptoBulk d + 1
  | .slice elems spare => uptoBulkAll elems + uptoBulkAll spare + 1
  | .agg parts => uptoBulkAll parts + 1
  | .iface _ d => uptoBulk d + 1
  | .map entries => uptoBulkEntries entries + 1
  | .held _ => 1
def uptoBulkAll {H : Type} : List (DataW H) → Nat
  | [] => 0
  | d :: r => uptoBulk d + uptoBulkAll r
def uptoBulkEntries {H : Type} : List (Lit × DataW H) → Nat
  | [] => 0
  | x :: r => uptoBulkEntry x + uptoBulkEntries r
def uptoBulkEntry {H : Type} : Lit × DataW H → Nat
  | (.string bytes, d) => bytes.length + uptoBulk d + 1
  | (_, d) => uptoBulk d + 1
 end
def uptoSmall : (H : Type) → List (DataW H) → Bool := fun _ ds => decide (uptoBulkAll ds ≤ 1048576)
def OpenSpec.upto (s : _root_.Go.ChangeSpec) : _root_.Go.OpenSpec := { _root_.Go.OpenSpec.ofChange s with cond := some uptoSmall }

/-- 'baileylaw24.CacheRoom', WHERE WHAT IT READS IS OF BULK AT MOST 1048576: true; the input reads as it did. -/
def cacheRoomUptoRow : OpenClaim := { program := "ytdkfpgdfjnaciaa", sum := "477ab88f7c392121340bbb12fbaf2fbe692817faf7b3580c0b3aaadc5eefec81", func := "bailey/baileylaw24.CacheRoom", spec := "cacheRoom", unfollowed := true, recurses := true, apart := false, narrowed := true }
def CacheRoomUptoSaid : Prop := cacheRoomUptoRow.holds Try.pinned (OpenSpec.upto cacheRoomSpec)

/-- 'baileylaw24.CachePlays', WHERE WHAT IT READS IS OF BULK AT MOST 1048576: true; the input reads as it did. -/
def cachePlaysUptoRow : OpenClaim := { program := "ytdkfpgdfjnaciaa", sum := "477ab88f7c392121340bbb12fbaf2fbe692817faf7b3580c0b3aaadc5eefec81", func := "bailey/baileylaw24.CachePlays", spec := "cachePlays", unfollowed := true, recurses := true, apart := false, narrowed := true }
def CachePlaysUptoSaid : Prop := cachePlaysUptoRow.holds Try.pinned (OpenSpec.upto cachePlaysSpec)

/-- 'baileylaw24.CacheLast', WHERE WHAT IT READS IS OF BULK AT MOST 1048576: true; the input reads as it did. -/
def cacheLastUptoRow : OpenClaim := { program := "ytdkfpgdfjnaciaa", sum := "477ab88f7c392121340bbb12fbaf2fbe692817faf7b3580c0b3aaadc5eefec81", func := "bailey/baileylaw24.CacheLast", spec := "cacheLast", unfollowed := true, recurses := true, apart := false, narrowed := true }
def CacheLastUptoSaid : Prop := cacheLastUptoRow.holds Try.pinned (OpenSpec.upto cacheLastSpec)

/-- 'baileylaw24.CacheNil', WHERE WHAT IT READS IS OF BULK AT MOST 1048576: true; the input reads as it did. -/
def cacheNilUptoRow : OpenClaim := { program := "ytdkfpgdfjnaciaa", sum := "477ab88f7c392121340bbb12fbaf2fbe692817faf7b3580c0b3aaadc5eefec81", func := "bailey/baileylaw24.CacheNil", spec := "cacheNil", unfollowed := true, recurses := true, apart := false, narrowed := true }
def CacheNilUptoSaid : Prop := cacheNilUptoRow.holds Try.pinned (OpenSpec.upto cacheNilSpec)

/-- 'baileylaw10.RelPlays', WHERE WHAT IT READS IS OF BULK AT MOST 1048576: true; the input reads as it did. -/
def relPlaysUptoRow : OpenClaim := { program := "ytdkfpgdfjnaciaa", sum := "477ab88f7c392121340bbb12fbaf2fbe692817faf7b3580c0b3aaadc5eefec81", func := "bailey/baileylaw10.RelPlays", spec := "relPlays", inPlace := ["slices.overlaps[bailey/api.Fact]"], unfollowed := true, recurses := true, apart := false, narrowed := true }
def RelPlaysUptoSaid : Prop := relPlaysUptoRow.holds Try.pinned (OpenSpec.upto relPlaysSpec)

/-- 'baileylaw10.RelOrder', WHERE WHAT IT READS IS OF BULK AT MOST 1048576: true; the input reads as it did. -/
def relOrderUptoRow : OpenClaim := { program := "ytdkfpgdfjnaciaa", sum := "477ab88f7c392121340bbb12fbaf2fbe692817faf7b3580c0b3aaadc5eefec81", func := "bailey/baileylaw10.RelOrder", spec := "relOrder", inPlace := ["slices.overlaps[bailey/api.Fact]"], unfollowed := true, recurses := true, apart := false, narrowed := true }
def RelOrderUptoSaid : Prop := relOrderUptoRow.holds Try.pinned (OpenSpec.upto relOrderSpec)

/-- 'baileylaw10.RelFinds', WHERE WHAT IT READS IS OF BULK AT MOST 1048576: true; the input reads as it did. -/
def relFindsUptoRow : OpenClaim := { program := "ytdkfpgdfjnaciaa", sum := "477ab88f7c392121340bbb12fbaf2fbe692817faf7b3580c0b3aaadc5eefec81", func := "bailey/baileylaw10.RelFinds", spec := "relFinds", inPlace := ["slices.overlaps[bailey/api.Fact]"], unfollowed := true, recurses := true, apart := false, narrowed := true }
def RelFindsUptoSaid : Prop := relFindsUptoRow.holds Try.pinned (OpenSpec.upto relFindsSpec)

/-- 'baileylaw10.RelLess', WHERE WHAT IT READS IS OF BULK AT MOST 1048576: true; the input reads as it did. -/
def relLessUptoRow : OpenClaim := { program := "ytdkfpgdfjnaciaa", sum := "477ab88f7c392121340bbb12fbaf2fbe692817faf7b3580c0b3aaadc5eefec81", func := "bailey/baileylaw10.RelLess", spec := "relLess", inPlace := ["slices.overlaps[bailey/api.Fact]"], unfollowed := true, recurses := true, apart := false, narrowed := true }
def RelLessUptoSaid : Prop := relLessUptoRow.holds Try.pinned (OpenSpec.upto relLessSpec)

/-- 'baileylaw10.RelParts', WHERE WHAT IT READS IS OF BULK AT MOST 1048576: true; the input reads as it did. -/
def relPartsUptoRow : OpenClaim := { program := "ytdkfpgdfjnaciaa", sum := "477ab88f7c392121340bbb12fbaf2fbe692817faf7b3580c0b3aaadc5eefec81", func := "bailey/baileylaw10.RelParts", spec := "relParts", inPlace := ["slices.overlaps[bailey/api.Fact]"], unfollowed := true, recurses := true, apart := false, narrowed := true }
def RelPartsUptoSaid : Prop := relPartsUptoRow.holds Try.pinned (OpenSpec.upto relPartsSpec)

/-- 'baileylaw10.RelNil', WHERE WHAT IT READS IS OF BULK AT MOST 1048576: true; the input reads as it did. -/
def relNilUptoRow : OpenClaim := { program := "ytdkfpgdfjnaciaa", sum := "477ab88f7c392121340bbb12fbaf2fbe692817faf7b3580c0b3aaadc5eefec81", func := "bailey/baileylaw10.RelNil", spec := "relNil", inPlace := ["slices.overlaps[bailey/api.Fact]"], unfollowed := true, recurses := true, apart := false, narrowed := true }
def RelNilUptoSaid : Prop := relNilUptoRow.holds Try.pinned (OpenSpec.upto relNilSpec)

/-- 'baileylaw10.RelAlgebra', WHERE WHAT IT READS IS OF BULK AT MOST 1048576: true; the input reads as it did. -/
def relAlgebraUptoRow : OpenClaim := { program := "ytdkfpgdfjnaciaa", sum := "477ab88f7c392121340bbb12fbaf2fbe692817faf7b3580c0b3aaadc5eefec81", func := "bailey/baileylaw10.RelAlgebra", spec := "relAlgebra", inPlace := ["slices.overlaps[bailey/api.Fact]"], unfollowed := true, recurses := true, apart := false, narrowed := true }
def RelAlgebraUptoSaid : Prop := relAlgebraUptoRow.holds Try.pinned (OpenSpec.upto relAlgebraSpec)

/-- 'baileylaw16.QueryPlays', WHERE WHAT IT READS IS OF BULK AT MOST 1048576: true; the input reads as it did. -/
def queryPlaysUptoRow : OpenClaim := { program := "ytdkfpgdfjnaciaa", sum := "477ab88f7c392121340bbb12fbaf2fbe692817faf7b3580c0b3aaadc5eefec81", func := "bailey/baileylaw16.QueryPlays", spec := "queryPlays", unfollowed := true, recurses := true, apart := false, narrowed := true }
def QueryPlaysUptoSaid : Prop := queryPlaysUptoRow.holds Try.pinned (OpenSpec.upto queryPlaysSpec)

/-- 'baileylaw16.QueryParts', WHERE WHAT IT READS IS OF BULK AT MOST 1048576: true; the input reads as it did. -/
def queryPartsUptoRow : OpenClaim := { program := "ytdkfpgdfjnaciaa", sum := "477ab88f7c392121340bbb12fbaf2fbe692817faf7b3580c0b3aaadc5eefec81", func := "bailey/baileylaw16.QueryParts", spec := "queryParts", unfollowed := true, recurses := true, apart := false, narrowed := true }
def QueryPartsUptoSaid : Prop := queryPartsUptoRow.holds Try.pinned (OpenSpec.upto queryPartsSpec)

/-- 'baileylaw16.QueryBoth', WHERE WHAT IT READS IS OF BULK AT MOST 1048576: true; the input reads as it did. -/
def queryBothUptoRow : OpenClaim := { program := "ytdkfpgdfjnaciaa", sum := "477ab88f7c392121340bbb12fbaf2fbe692817faf7b3580c0b3aaadc5eefec81", func := "bailey/baileylaw16.QueryBoth", spec := "queryBoth", unfollowed := true, recurses := true, apart := false, narrowed := true }
def QueryBothUptoSaid : Prop := queryBothUptoRow.holds Try.pinned (OpenSpec.upto queryBothSpec)

end Rows
end Go.Proofs.Ytdkfpgdfjnaciaa
