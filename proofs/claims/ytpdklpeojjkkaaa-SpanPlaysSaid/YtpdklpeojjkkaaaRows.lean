/-
  No cell of these rows narrows 'for every input' (looked for: loops, veiled, ifaces, maps, wideKeys, modest, calm, conditions, laid).
  DERIVED. THE GIVEN ROWS OF THIS SEAT. 9 by the template 'for every input the law returns true; each argument reads behind the call as it read before'; 0 by the template 'total and deterministic' (their statements: YtpdklpeojjkkaaaTotals.lean).
  GIVEN WITH THE SEED: the statements are not yours to turn. If you find one false, say at which input.
  Laid BY PROGRAM, IN A SANDBOX (cutbox-rows.mjs): the forced cells as the released guide's own fill.sh prints them over the translation 5c1bde31aaed3528… (all of the seat's roots in one cut). By AI agents, Wed Nov 11 2026. No macro, syntax, notation, axiom, sorry.
-/
import Derived.Test.YtpdklpeojjkkaaaChecked
import GoSem.Claim
import GoSem.ClaimJoined
import GoSem.ClaimMapViews
import Derived.JoinedTies
import Derived.KernelRfl
namespace Go.Proofs.Ytpdklpeojjkkaaa
/- THE CELL 'sum', in the pinned program and in every row, IS THE sha256 OF THE DUMP (.gsa) THAT YtpdklpeojjkkaaaProg.lean LOADS. Nothing in Lean hashes anything: it is a label: what it is worth is what the hold of that sum in a sandbox is worth. -/
noncomputable def Try.pinned : Pinned := { name := "ytpdklpeojjkkaaa", sum := "5c1bde31aaed3528699614e223a8e034748f8207a3ad0f9e89d6a94c77f7169b", checked := Try.checked }
namespace Rows
def none {H : Type} : Left H := { results := [], args := [] }

/-- 'mantlelaw16.SealBrands': WHATEVER THE INPUT: true; the input reads as it did. -/
def sealBrandsSpec : ChangeSpec := { name := "sealBrands", fn := fun _ => fun
  | [d] => { results := [.lit (.bool true)], args := [d] }
  | _ => none }
def sealBrandsRow : OpenClaim := { program := "ytpdklpeojjkkaaa", sum := "5c1bde31aaed3528699614e223a8e034748f8207a3ad0f9e89d6a94c77f7169b", func := "mantle/mantlelaw16.SealBrands", spec := "sealBrands", unfollowed := true, recurses := true, apart := false }
def SealBrandsSaid : Prop := sealBrandsRow.holds Try.pinned (OpenSpec.ofChange sealBrandsSpec)

/-- ITS FALSE NEIGHBOUR: 'it returns false'. Refute it at one input. -/
def sealBrandsWrong : ChangeSpec := { name := "sealBrands", fn := fun _ => fun
  | [d] => { results := [.lit (.bool false)], args := [d] }
  | _ => none }
def SealBrandsWrongFalsely : Prop := sealBrandsRow.holds Try.pinned (OpenSpec.ofChange sealBrandsWrong)

/-- 'mantlelaw16.SealNil': WHATEVER THE INPUT: true; the input reads as it did. -/
def sealNilSpec : ChangeSpec := { name := "sealNil", fn := fun _ => fun
  | [d] => { results := [.lit (.bool true)], args := [d] }
  | _ => none }
def sealNilRow : OpenClaim := { program := "ytpdklpeojjkkaaa", sum := "5c1bde31aaed3528699614e223a8e034748f8207a3ad0f9e89d6a94c77f7169b", func := "mantle/mantlelaw16.SealNil", spec := "sealNil", unfollowed := true, recurses := true, apart := false }
def SealNilSaid : Prop := sealNilRow.holds Try.pinned (OpenSpec.ofChange sealNilSpec)

/-- ITS FALSE NEIGHBOUR: 'it returns false'. Refute it at one input. -/
def sealNilWrong : ChangeSpec := { name := "sealNil", fn := fun _ => fun
  | [d] => { results := [.lit (.bool false)], args := [d] }
  | _ => none }
def SealNilWrongFalsely : Prop := sealNilRow.holds Try.pinned (OpenSpec.ofChange sealNilWrong)

/-- 'mantlelaw16.SealOnce': WHATEVER THE INPUT: true; the input reads as it did. -/
def sealOnceSpec : ChangeSpec := { name := "sealOnce", fn := fun _ => fun
  | [d1, d2, d3] => { results := [.lit (.bool true)], args := [d1, d2, d3] }
  | _ => none }
def sealOnceRow : OpenClaim := { program := "ytpdklpeojjkkaaa", sum := "5c1bde31aaed3528699614e223a8e034748f8207a3ad0f9e89d6a94c77f7169b", func := "mantle/mantlelaw16.SealOnce", spec := "sealOnce", unfollowed := true, recurses := true, apart := false }
def SealOnceSaid : Prop := sealOnceRow.holds Try.pinned (OpenSpec.ofChange sealOnceSpec)

/-- ITS FALSE NEIGHBOUR: 'it returns false'. Refute it at one input. -/
def sealOnceWrong : ChangeSpec := { name := "sealOnce", fn := fun _ => fun
  | [d1, d2, d3] => { results := [.lit (.bool false)], args := [d1, d2, d3] }
  | _ => none }
def SealOnceWrongFalsely : Prop := sealOnceRow.holds Try.pinned (OpenSpec.ofChange sealOnceWrong)

/-- 'mantlelaw01.SpanBounds': WHATEVER THE INPUT: true; the input reads as it did. -/
def spanBoundsSpec : ChangeSpec := { name := "spanBounds", fn := fun _ => fun
  | [] => { results := [.lit (.bool true)], args := [] }
  | _ => none }
def spanBoundsRow : OpenClaim := { program := "ytpdklpeojjkkaaa", sum := "5c1bde31aaed3528699614e223a8e034748f8207a3ad0f9e89d6a94c77f7169b", func := "mantle/mantlelaw01.SpanBounds", spec := "spanBounds", inPlace := ["slices.overlaps[mantle/span.piece]"], unfollowed := true, recurses := true, apart := false }
def SpanBoundsSaid : Prop := spanBoundsRow.holds Try.pinned (OpenSpec.ofChange spanBoundsSpec)

/-- ITS FALSE NEIGHBOUR: 'it returns false'. Refute it at one input. -/
def spanBoundsWrong : ChangeSpec := { name := "spanBounds", fn := fun _ => fun
  | [] => { results := [.lit (.bool false)], args := [] }
  | _ => none }
def SpanBoundsWrongFalsely : Prop := spanBoundsRow.holds Try.pinned (OpenSpec.ofChange spanBoundsWrong)

/-- 'mantlelaw01.SpanTiles': WHATEVER THE INPUT: true; the input reads as it did. -/
def spanTilesSpec : ChangeSpec := { name := "spanTiles", fn := fun _ => fun
  | [d1, d2] => { results := [.lit (.bool true)], args := [d1, d2] }
  | _ => none }
def spanTilesRow : OpenClaim := { program := "ytpdklpeojjkkaaa", sum := "5c1bde31aaed3528699614e223a8e034748f8207a3ad0f9e89d6a94c77f7169b", func := "mantle/mantlelaw01.SpanTiles", spec := "spanTiles", inPlace := ["slices.overlaps[mantle/span.piece]"], unfollowed := true, recurses := true, apart := false }
def SpanTilesSaid : Prop := spanTilesRow.holds Try.pinned (OpenSpec.ofChange spanTilesSpec)

/-- ITS FALSE NEIGHBOUR: 'it returns false'. Refute it at one input. -/
def spanTilesWrong : ChangeSpec := { name := "spanTiles", fn := fun _ => fun
  | [d1, d2] => { results := [.lit (.bool false)], args := [d1, d2] }
  | _ => none }
def SpanTilesWrongFalsely : Prop := spanTilesRow.holds Try.pinned (OpenSpec.ofChange spanTilesWrong)

/-- 'mantlelaw01.SpanReads': WHATEVER THE INPUT: true; the input reads as it did. -/
def spanReadsSpec : ChangeSpec := { name := "spanReads", fn := fun _ => fun
  | [d1, d2, d3, d4] => { results := [.lit (.bool true)], args := [d1, d2, d3, d4] }
  | _ => none }
def spanReadsRow : OpenClaim := { program := "ytpdklpeojjkkaaa", sum := "5c1bde31aaed3528699614e223a8e034748f8207a3ad0f9e89d6a94c77f7169b", func := "mantle/mantlelaw01.SpanReads", spec := "spanReads", inPlace := ["slices.overlaps[mantle/span.piece]"], unfollowed := true, recurses := true, apart := false }
def SpanReadsSaid : Prop := spanReadsRow.holds Try.pinned (OpenSpec.ofChange spanReadsSpec)

/-- ITS FALSE NEIGHBOUR: 'it returns false'. Refute it at one input. -/
def spanReadsWrong : ChangeSpec := { name := "spanReads", fn := fun _ => fun
  | [d1, d2, d3, d4] => { results := [.lit (.bool false)], args := [d1, d2, d3, d4] }
  | _ => none }
def SpanReadsWrongFalsely : Prop := spanReadsRow.holds Try.pinned (OpenSpec.ofChange spanReadsWrong)

/-- 'mantlelaw01.SpanPlays': WHATEVER THE INPUT: true; the input reads as it did. -/
def spanPlaysSpec : ChangeSpec := { name := "spanPlays", fn := fun _ => fun
  | [d1, d2] => { results := [.lit (.bool true)], args := [d1, d2] }
  | _ => none }
def spanPlaysRow : OpenClaim := { program := "ytpdklpeojjkkaaa", sum := "5c1bde31aaed3528699614e223a8e034748f8207a3ad0f9e89d6a94c77f7169b", func := "mantle/mantlelaw01.SpanPlays", spec := "spanPlays", inPlace := ["slices.overlaps[mantle/span.piece]"], unfollowed := true, recurses := true, apart := false }
def SpanPlaysSaid : Prop := spanPlaysRow.holds Try.pinned (OpenSpec.ofChange spanPlaysSpec)

/-- ITS FALSE NEIGHBOUR: 'it returns false'. Refute it at one input. -/
def spanPlaysWrong : ChangeSpec := { name := "spanPlays", fn := fun _ => fun
  | [d1, d2] => { results := [.lit (.bool false)], args := [d1, d2] }
  | _ => none }
def SpanPlaysWrongFalsely : Prop := spanPlaysRow.holds Try.pinned (OpenSpec.ofChange spanPlaysWrong)

/-- 'mantlelaw01.SpanNil': WHATEVER THE INPUT: true; the input reads as it did. -/
def spanNilSpec : ChangeSpec := { name := "spanNil", fn := fun _ => fun
  | [d] => { results := [.lit (.bool true)], args := [d] }
  | _ => none }
def spanNilRow : OpenClaim := { program := "ytpdklpeojjkkaaa", sum := "5c1bde31aaed3528699614e223a8e034748f8207a3ad0f9e89d6a94c77f7169b", func := "mantle/mantlelaw01.SpanNil", spec := "spanNil", inPlace := ["slices.overlaps[mantle/span.piece]"], unfollowed := true, recurses := true, apart := false }
def SpanNilSaid : Prop := spanNilRow.holds Try.pinned (OpenSpec.ofChange spanNilSpec)

/-- ITS FALSE NEIGHBOUR: 'it returns false'. Refute it at one input. -/
def spanNilWrong : ChangeSpec := { name := "spanNil", fn := fun _ => fun
  | [d] => { results := [.lit (.bool false)], args := [d] }
  | _ => none }
def SpanNilWrongFalsely : Prop := spanNilRow.holds Try.pinned (OpenSpec.ofChange spanNilWrong)

/-- 'mantlelaw01.SpanEmpty': WHATEVER THE INPUT: true; the input reads as it did. -/
def spanEmptySpec : ChangeSpec := { name := "spanEmpty", fn := fun _ => fun
  | [d1, d2, d3] => { results := [.lit (.bool true)], args := [d1, d2, d3] }
  | _ => none }
def spanEmptyRow : OpenClaim := { program := "ytpdklpeojjkkaaa", sum := "5c1bde31aaed3528699614e223a8e034748f8207a3ad0f9e89d6a94c77f7169b", func := "mantle/mantlelaw01.SpanEmpty", spec := "spanEmpty", inPlace := ["slices.overlaps[mantle/span.piece]"], unfollowed := true, recurses := true, apart := false }
def SpanEmptySaid : Prop := spanEmptyRow.holds Try.pinned (OpenSpec.ofChange spanEmptySpec)

/-- ITS FALSE NEIGHBOUR: 'it returns false'. Refute it at one input. -/
def spanEmptyWrong : ChangeSpec := { name := "spanEmpty", fn := fun _ => fun
  | [d1, d2, d3] => { results := [.lit (.bool false)], args := [d1, d2, d3] }
  | _ => none }
def SpanEmptyWrongFalsely : Prop := spanEmptyRow.holds Try.pinned (OpenSpec.ofChange spanEmptyWrong)

/- THE SECOND FORM. 'bulk': how many values and letters a reading holds, each counted each time it is reached (what is shared counts as often as it is met; a slice's spare places count too). A statement '..UptoSaid' is the law's where the arguments, and the package variables that the reading takes, are together of bulk at most 1048576: NARROWER than '..Said'. Prove '..Said' where nothing that the law and all that it calls make is longer than what came in: it says more and counts as full. Else prove '..UptoSaid'. A law counts once. -/
mutual
def uptoBulk {H : Type} : DataW H → Nat
  | .lit (.string bytes) => bytes.length + 1
  | .lit _ => 1
  | .nil => 1
  | .ptr d => uptoBulk d + 1
  | .slice elems spare => uptoBulkAll elems + uptoBulkAll spare + 1
  | .agg parts => uptoBulkAll parts + 1
  | .iface _ d => uptoBulk d + 1
  | .map entries => uptoBulkEntries entries + 1
  | .held _ => 1
def uptoBulkAll {H : Type} : List (DataW H) → Nat
  | [] => 0
  | d :: r => uptoBulk d + uptoBulkAll r
def uptoBulkEntries {H : Type} : List (Lit × DataW H) → Nat
  | [] => 0
  | x :: r => uptoBulkEntry x + uptoBulkEntries r
def uptoBulkEntry {H : Type} : Lit × DataW H → Nat
  | (.string bytes, d) => bytes.length + uptoBulk d + 1
  | (_, d) => uptoBulk d + 1
 end
def uptoSmall : (H : Type) → List (DataW H) → Bool := fun _ ds => decide (uptoBulkAll ds ≤ 1048576)
def OpenSpec.upto (s : _root_.Go.ChangeSpec) : _root_.Go.OpenSpec := { _root_.Go.OpenSpec.ofChange s with cond := some uptoSmall }

/-- 'mantlelaw16.SealBrands', WHERE WHAT IT READS IS OF BULK AT MOST 1048576: true; the input reads as it did. -/
def sealBrandsUptoRow : OpenClaim := { program := "ytpdklpeojjkkaaa", sum := "5c1bde31aaed3528699614e223a8e034748f8207a3ad0f9e89d6a94c77f7169b", func := "mantle/mantlelaw16.SealBrands", spec := "sealBrands", unfollowed := true, recurses := true, apart := false, narrowed := true }
def SealBrandsUptoSaid : Prop := sealBrandsUptoRow.holds Try.pinned (OpenSpec.upto sealBrandsSpec)

/-- 'mantlelaw16.SealNil', WHERE WHAT IT READS IS OF BULK AT MOST 1048576: true; the input reads as it did. -/
def sealNilUptoRow : OpenClaim := { program := "ytpdklpeojjkkaaa", sum := "5c1bde31aaed3528699614e223a8e034748f8207a3ad0f9e89d6a94c77f7169b", func := "mantle/mantlelaw16.SealNil", spec := "sealNil", unfollowed := true, recurses := true, apart := false, narrowed := true }
def SealNilUptoSaid : Prop := sealNilUptoRow.holds Try.pinned (OpenSpec.upto sealNilSpec)

/-- 'mantlelaw16.SealOnce', WHERE WHAT IT READS IS OF BULK AT MOST 1048576: true; the input reads as it did. -/
def sealOnceUptoRow : OpenClaim := { program := "ytpdklpeojjkkaaa", sum := "5c1bde31aaed3528699614e223a8e034748f8207a3ad0f9e89d6a94c77f7169b", func := "mantle/mantlelaw16.SealOnce", spec := "sealOnce", unfollowed := true, recurses := true, apart := false, narrowed := true }
def SealOnceUptoSaid : Prop := sealOnceUptoRow.holds Try.pinned (OpenSpec.upto sealOnceSpec)

/-- 'mantlelaw01.SpanBounds', WHERE WHAT IT READS IS OF BULK AT MOST 1048576: true; the input reads as it did. -/
def spanBoundsUptoRow : OpenClaim := { program := "ytpdklpeojjkkaaa", sum := "5c1bde31aaed3528699614e223a8e034748f8207a3ad0f9e89d6a94c77f7169b", func := "mantle/mantlelaw01.SpanBounds", spec := "spanBounds", inPlace := ["slices.overlaps[mantle/span.piece]"], unfollowed := true, recurses := true, apart := false, narrowed := true }
def SpanBoundsUptoSaid : Prop := spanBoundsUptoRow.holds Try.pinned (OpenSpec.upto spanBoundsSpec)

/-- 'mantlelaw01.SpanTiles', WHERE WHAT IT READS IS OF BULK AT MOST 1048576: true; the input reads as it did. -/
def spanTilesUptoRow : OpenClaim := { program := "ytpdklpeojjkkaaa", sum := "5c1bde31aaed3528699614e223a8e034748f8207a3ad0f9e89d6a94c77f7169b", func := "mantle/mantlelaw01.SpanTiles", spec := "spanTiles", inPlace := ["slices.overlaps[mantle/span.piece]"], unfollowed := true, recurses := true, apart := false, narrowed := true }
def SpanTilesUptoSaid : Prop := spanTilesUptoRow.holds Try.pinned (OpenSpec.upto spanTilesSpec)

/-- 'mantlelaw01.SpanReads', WHERE WHAT IT READS IS OF BULK AT MOST 1048576: true; the input reads as it did. -/
def spanReadsUptoRow : OpenClaim := { program := "ytpdklpeojjkkaaa", sum := "5c1bde31aaed3528699614e223a8e034748f8207a3ad0f9e89d6a94c77f7169b", func := "mantle/mantlelaw01.SpanReads", spec := "spanReads", inPlace := ["slices.overlaps[mantle/span.piece]"], unfollowed := true, recurses := true, apart := false, narrowed := true }
def SpanReadsUptoSaid : Prop := spanReadsUptoRow.holds Try.pinned (OpenSpec.upto spanReadsSpec)

/-- 'mantlelaw01.SpanPlays', WHERE WHAT IT READS IS OF BULK AT MOST 1048576: true; the input reads as it did. -/
def spanPlaysUptoRow : OpenClaim := { program := "ytpdklpeojjkkaaa", sum := "5c1bde31aaed3528699614e223a8e034748f8207a3ad0f9e89d6a94c77f7169b", func := "mantle/mantlelaw01.SpanPlays", spec := "spanPlays", inPlace := ["slices.overlaps[mantle/span.piece]"], unfollowed := true, recurses := true, apart := false, narrowed := true }
def SpanPlaysUptoSaid : Prop := spanPlaysUptoRow.holds Try.pinned (OpenSpec.upto spanPlaysSpec)

/-- 'mantlelaw01.SpanNil', WHERE WHAT IT READS IS OF BULK AT MOST 1048576: true; the input reads as it did. -/
def spanNilUptoRow : OpenClaim := { program := "ytpdklpeojjkkaaa", sum := "5c1bde31aaed3528699614e223a8e034748f8207a3ad0f9e89d6a94c77f7169b", func := "mantle/mantlelaw01.SpanNil", spec := "spanNil", inPlace := ["slices.overlaps[mantle/span.piece]"], unfollowed := true, recurses := true, apart := false, narrowed := true }
def SpanNilUptoSaid : Prop := spanNilUptoRow.holds Try.pinned (OpenSpec.upto spanNilSpec)

/-- 'mantlelaw01.SpanEmpty', WHERE WHAT IT READS IS OF BULK AT MOST 1048576: true; the input reads as it did. -/
def spanEmptyUptoRow : OpenClaim := { program := "ytpdklpeojjkkaaa", sum := "5c1bde31aaed3528699614e223a8e034748f8207a3ad0f9e89d6a94c77f7169b", func := "mantle/mantlelaw01.SpanEmpty", spec := "spanEmpty", inPlace := ["slices.overlaps[mantle/span.piece]"], unfollowed := true, recurses := true, apart := false, narrowed := true }
def SpanEmptyUptoSaid : Prop := spanEmptyUptoRow.holds Try.pinned (OpenSpec.upto spanEmptySpec)

end Rows
end Go.Proofs.Ytpdklpeojjkkaaa
