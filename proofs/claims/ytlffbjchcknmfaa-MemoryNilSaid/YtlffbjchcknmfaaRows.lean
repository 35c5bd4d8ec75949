/-
  No cell of these rows narrows 'for every input' (looked for: loops, veiled, ifaces, maps, wideKeys, modest, calm, conditions, laid).
  DERIVED. THE GIVEN ROWS OF THIS SEAT. 20 by the template 'for every input the law returns true; each argument reads behind the call as it read before'; 0 by the template 'total and deterministic' (their statements: YtlffbjchcknmfaaTotals.lean).
  GIVEN WITH THE SEED: the statements are not yours to turn. If you find one false, say at which input.
  Laid BY PROGRAM, IN A SANDBOX (cutbox-rows.mjs): the forced cells as the released guide's own fill.sh prints them over the translation f2ed369622b24271… (all of the seat's roots in one cut). By AI agents, Wed Nov 11 2026. No macro, syntax, notation, axiom, sorry.
-/
import Derived.Test.YtlffbjchcknmfaaChecked
import GoSem.Claim
import GoSem.ClaimJoined
import GoSem.ClaimMapViews
import Derived.JoinedTies
import Derived.KernelRfl
namespace Go.Proofs.Ytlffbjchcknmfaa
/- THE CELL 'sum', in the pinned program and in every row, IS THE sha256 OF THE DUMP (.gsa) THAT YtlffbjchcknmfaaProg.lean LOADS. Nothing in Lean hashes anything: it is a label: what it is worth is what the hold of that sum in a sandbox is worth. -/
noncomputable def Try.pinned : Pinned := { name := "ytlffbjchcknmfaa", sum := "f2ed369622b2427189f34848ef6689127d6ca7a16ab834a579f87e9475cd0259", checked := Try.checked }
namespace Rows
def none {H : Type} : Left H := { results := [], args := [] }

/-- 'mantlelaw04.MemoryPlays': WHATEVER THE INPUT: true; the input reads as it did. -/
def memoryPlaysSpec : ChangeSpec := { name := "memoryPlays", fn := fun _ => fun
  | [d1, d2, d3] => { results := [.lit (.bool true)], args := [d1, d2, d3] }
  | _ => none }
def memoryPlaysRow : OpenClaim := { program := "ytlffbjchcknmfaa", sum := "f2ed369622b2427189f34848ef6689127d6ca7a16ab834a579f87e9475cd0259", func := "mantle/mantlelaw04.MemoryPlays", spec := "memoryPlays", unfollowed := true, recurses := true, apart := false }
def MemoryPlaysSaid : Prop := memoryPlaysRow.holds Try.pinned (OpenSpec.ofChange memoryPlaysSpec)

/-- ITS FALSE NEIGHBOUR: 'it returns false'. Refute it at one input. -/
def memoryPlaysWrong : ChangeSpec := { name := "memoryPlays", fn := fun _ => fun
  | [d1, d2, d3] => { results := [.lit (.bool false)], args := [d1, d2, d3] }
  | _ => none }
def MemoryPlaysWrongFalsely : Prop := memoryPlaysRow.holds Try.pinned (OpenSpec.ofChange memoryPlaysWrong)

/-- 'mantlelaw04.MemoryBounds': WHATEVER THE INPUT: true; the input reads as it did. -/
def memoryBoundsSpec : ChangeSpec := { name := "memoryBounds", fn := fun _ => fun
  | [] => { results := [.lit (.bool true)], args := [] }
  | _ => none }
def memoryBoundsRow : OpenClaim := { program := "ytlffbjchcknmfaa", sum := "f2ed369622b2427189f34848ef6689127d6ca7a16ab834a579f87e9475cd0259", func := "mantle/mantlelaw04.MemoryBounds", spec := "memoryBounds", unfollowed := true, recurses := true, apart := false }
def MemoryBoundsSaid : Prop := memoryBoundsRow.holds Try.pinned (OpenSpec.ofChange memoryBoundsSpec)

/-- ITS FALSE NEIGHBOUR: 'it returns false'. Refute it at one input. -/
def memoryBoundsWrong : ChangeSpec := { name := "memoryBounds", fn := fun _ => fun
  | [] => { results := [.lit (.bool false)], args := [] }
  | _ => none }
def MemoryBoundsWrongFalsely : Prop := memoryBoundsRow.holds Try.pinned (OpenSpec.ofChange memoryBoundsWrong)

/-- 'mantlelaw04.MemoryNil': WHATEVER THE INPUT: true; the input reads as it did. -/
def memoryNilSpec : ChangeSpec := { name := "memoryNil", fn := fun _ => fun
  | [d] => { results := [.lit (.bool true)], args := [d] }
  | _ => none }
def memoryNilRow : OpenClaim := { program := "ytlffbjchcknmfaa", sum := "f2ed369622b2427189f34848ef6689127d6ca7a16ab834a579f87e9475cd0259", func := "mantle/mantlelaw04.MemoryNil", spec := "memoryNil", unfollowed := true, recurses := true, apart := false }
def MemoryNilSaid : Prop := memoryNilRow.holds Try.pinned (OpenSpec.ofChange memoryNilSpec)

/-- ITS FALSE NEIGHBOUR: 'it returns false'. Refute it at one input. -/
def memoryNilWrong : ChangeSpec := { name := "memoryNil", fn := fun _ => fun
  | [d] => { results := [.lit (.bool false)], args := [d] }
  | _ => none }
def MemoryNilWrongFalsely : Prop := memoryNilRow.holds Try.pinned (OpenSpec.ofChange memoryNilWrong)

/-- 'mantlelaw04.MemoryBack': WHATEVER THE INPUT: true; the input reads as it did. -/
def memoryBackSpec : ChangeSpec := { name := "memoryBack", fn := fun _ => fun
  | [d1, d2, d3] => { results := [.lit (.bool true)], args := [d1, d2, d3] }
  | _ => none }
def memoryBackRow : OpenClaim := { program := "ytlffbjchcknmfaa", sum := "f2ed369622b2427189f34848ef6689127d6ca7a16ab834a579f87e9475cd0259", func := "mantle/mantlelaw04.MemoryBack", spec := "memoryBack", unfollowed := true, recurses := true, apart := false }
def MemoryBackSaid : Prop := memoryBackRow.holds Try.pinned (OpenSpec.ofChange memoryBackSpec)

/-- ITS FALSE NEIGHBOUR: 'it returns false'. Refute it at one input. -/
def memoryBackWrong : ChangeSpec := { name := "memoryBack", fn := fun _ => fun
  | [d1, d2, d3] => { results := [.lit (.bool false)], args := [d1, d2, d3] }
  | _ => none }
def MemoryBackWrongFalsely : Prop := memoryBackRow.holds Try.pinned (OpenSpec.ofChange memoryBackWrong)

/-- 'mantlelaw04.MemoryShares': WHATEVER THE INPUT: true; the input reads as it did. -/
def memorySharesSpec : ChangeSpec := { name := "memoryShares", fn := fun _ => fun
  | [d1, d2, d3] => { results := [.lit (.bool true)], args := [d1, d2, d3] }
  | _ => none }
def memorySharesRow : OpenClaim := { program := "ytlffbjchcknmfaa", sum := "f2ed369622b2427189f34848ef6689127d6ca7a16ab834a579f87e9475cd0259", func := "mantle/mantlelaw04.MemoryShares", spec := "memoryShares", inPlace := ["slices.overlaps[mantle/span.piece]"], unfollowed := true, recurses := true, apart := false }
def MemorySharesSaid : Prop := memorySharesRow.holds Try.pinned (OpenSpec.ofChange memorySharesSpec)

/-- ITS FALSE NEIGHBOUR: 'it returns false'. Refute it at one input. -/
def memorySharesWrong : ChangeSpec := { name := "memoryShares", fn := fun _ => fun
  | [d1, d2, d3] => { results := [.lit (.bool false)], args := [d1, d2, d3] }
  | _ => none }
def MemorySharesWrongFalsely : Prop := memorySharesRow.holds Try.pinned (OpenSpec.ofChange memorySharesWrong)

/-- 'mantlelaw06.JoinDoes': WHATEVER THE INPUT: true; the input reads as it did. -/
def joinDoesSpec : ChangeSpec := { name := "joinDoes", fn := fun _ => fun
  | [d1, d2] => { results := [.lit (.bool true)], args := [d1, d2] }
  | _ => none }
def joinDoesRow : OpenClaim := { program := "ytlffbjchcknmfaa", sum := "f2ed369622b2427189f34848ef6689127d6ca7a16ab834a579f87e9475cd0259", func := "mantle/mantlelaw06.JoinDoes", spec := "joinDoes", unfollowed := true, recurses := true, apart := false }
def JoinDoesSaid : Prop := joinDoesRow.holds Try.pinned (OpenSpec.ofChange joinDoesSpec)

/-- ITS FALSE NEIGHBOUR: 'it returns false'. Refute it at one input. -/
def joinDoesWrong : ChangeSpec := { name := "joinDoes", fn := fun _ => fun
  | [d1, d2] => { results := [.lit (.bool false)], args := [d1, d2] }
  | _ => none }
def JoinDoesWrongFalsely : Prop := joinDoesRow.holds Try.pinned (OpenSpec.ofChange joinDoesWrong)

/-- 'mantlelaw06.JoinPlain': WHATEVER THE INPUT: true; the input reads as it did. -/
def joinPlainSpec : ChangeSpec := { name := "joinPlain", fn := fun _ => fun
  | [d1, d2] => { results := [.lit (.bool true)], args := [d1, d2] }
  | _ => none }
def joinPlainRow : OpenClaim := { program := "ytlffbjchcknmfaa", sum := "f2ed369622b2427189f34848ef6689127d6ca7a16ab834a579f87e9475cd0259", func := "mantle/mantlelaw06.JoinPlain", spec := "joinPlain", unfollowed := true, recurses := true, apart := false }
def JoinPlainSaid : Prop := joinPlainRow.holds Try.pinned (OpenSpec.ofChange joinPlainSpec)

/-- ITS FALSE NEIGHBOUR: 'it returns false'. Refute it at one input. -/
def joinPlainWrong : ChangeSpec := { name := "joinPlain", fn := fun _ => fun
  | [d1, d2] => { results := [.lit (.bool false)], args := [d1, d2] }
  | _ => none }
def JoinPlainWrongFalsely : Prop := joinPlainRow.holds Try.pinned (OpenSpec.ofChange joinPlainWrong)

/-- 'mantlelaw06.JoinJoins': WHATEVER THE INPUT: true; the input reads as it did. -/
def joinJoinsSpec : ChangeSpec := { name := "joinJoins", fn := fun _ => fun
  | [d1, d2, d3, d4] => { results := [.lit (.bool true)], args := [d1, d2, d3, d4] }
  | _ => none }
def joinJoinsRow : OpenClaim := { program := "ytlffbjchcknmfaa", sum := "f2ed369622b2427189f34848ef6689127d6ca7a16ab834a579f87e9475cd0259", func := "mantle/mantlelaw06.JoinJoins", spec := "joinJoins", unfollowed := true, recurses := true, apart := false }
def JoinJoinsSaid : Prop := joinJoinsRow.holds Try.pinned (OpenSpec.ofChange joinJoinsSpec)

/-- ITS FALSE NEIGHBOUR: 'it returns false'. Refute it at one input. -/
def joinJoinsWrong : ChangeSpec := { name := "joinJoins", fn := fun _ => fun
  | [d1, d2, d3, d4] => { results := [.lit (.bool false)], args := [d1, d2, d3, d4] }
  | _ => none }
def JoinJoinsWrongFalsely : Prop := joinJoinsRow.holds Try.pinned (OpenSpec.ofChange joinJoinsWrong)

/-- 'mantlelaw06.JoinKnown': WHATEVER THE INPUT: true; the input reads as it did. -/
def joinKnownSpec : ChangeSpec := { name := "joinKnown", fn := fun _ => fun
  | [] => { results := [.lit (.bool true)], args := [] }
  | _ => none }
def joinKnownRow : OpenClaim := { program := "ytlffbjchcknmfaa", sum := "f2ed369622b2427189f34848ef6689127d6ca7a16ab834a579f87e9475cd0259", func := "mantle/mantlelaw06.JoinKnown", spec := "joinKnown", unfollowed := true, recurses := true, apart := false }
def JoinKnownSaid : Prop := joinKnownRow.holds Try.pinned (OpenSpec.ofChange joinKnownSpec)

/-- ITS FALSE NEIGHBOUR: 'it returns false'. Refute it at one input. -/
def joinKnownWrong : ChangeSpec := { name := "joinKnown", fn := fun _ => fun
  | [] => { results := [.lit (.bool false)], args := [] }
  | _ => none }
def JoinKnownWrongFalsely : Prop := joinKnownRow.holds Try.pinned (OpenSpec.ofChange joinKnownWrong)

/-- 'mantlelaw07.TeeMany': WHATEVER THE INPUT: true; the input reads as it did. -/
def teeManySpec : ChangeSpec := { name := "teeMany", fn := fun _ => fun
  | [] => { results := [.lit (.bool true)], args := [] }
  | _ => none }
def teeManyRow : OpenClaim := { program := "ytlffbjchcknmfaa", sum := "f2ed369622b2427189f34848ef6689127d6ca7a16ab834a579f87e9475cd0259", func := "mantle/mantlelaw07.TeeMany", spec := "teeMany", unfollowed := true, recurses := true, apart := false }
def TeeManySaid : Prop := teeManyRow.holds Try.pinned (OpenSpec.ofChange teeManySpec)

/-- ITS FALSE NEIGHBOUR: 'it returns false'. Refute it at one input. -/
def teeManyWrong : ChangeSpec := { name := "teeMany", fn := fun _ => fun
  | [] => { results := [.lit (.bool false)], args := [] }
  | _ => none }
def TeeManyWrongFalsely : Prop := teeManyRow.holds Try.pinned (OpenSpec.ofChange teeManyWrong)

/-- 'mantlelaw07.TeeAlike': WHATEVER THE INPUT: true; the input reads as it did. -/
def teeAlikeSpec : ChangeSpec := { name := "teeAlike", fn := fun _ => fun
  | [d1, d2] => { results := [.lit (.bool true)], args := [d1, d2] }
  | _ => none }
def teeAlikeRow : OpenClaim := { program := "ytlffbjchcknmfaa", sum := "f2ed369622b2427189f34848ef6689127d6ca7a16ab834a579f87e9475cd0259", func := "mantle/mantlelaw07.TeeAlike", spec := "teeAlike", unfollowed := true, recurses := true, apart := false }
def TeeAlikeSaid : Prop := teeAlikeRow.holds Try.pinned (OpenSpec.ofChange teeAlikeSpec)

/-- ITS FALSE NEIGHBOUR: 'it returns false'. Refute it at one input. -/
def teeAlikeWrong : ChangeSpec := { name := "teeAlike", fn := fun _ => fun
  | [d1, d2] => { results := [.lit (.bool false)], args := [d1, d2] }
  | _ => none }
def TeeAlikeWrongFalsely : Prop := teeAlikeRow.holds Try.pinned (OpenSpec.ofChange teeAlikeWrong)

/-- 'mantlelaw07.TeeNil': WHATEVER THE INPUT: true; the input reads as it did. -/
def teeNilSpec : ChangeSpec := { name := "teeNil", fn := fun _ => fun
  | [d] => { results := [.lit (.bool true)], args := [d] }
  | _ => none }
def teeNilRow : OpenClaim := { program := "ytlffbjchcknmfaa", sum := "f2ed369622b2427189f34848ef6689127d6ca7a16ab834a579f87e9475cd0259", func := "mantle/mantlelaw07.TeeNil", spec := "teeNil", inPlace := ["slices.overlaps[mantle/span.piece]"], unfollowed := true, recurses := true, apart := false }
def TeeNilSaid : Prop := teeNilRow.holds Try.pinned (OpenSpec.ofChange teeNilSpec)

/-- ITS FALSE NEIGHBOUR: 'it returns false'. Refute it at one input. -/
def teeNilWrong : ChangeSpec := { name := "teeNil", fn := fun _ => fun
  | [d] => { results := [.lit (.bool false)], args := [d] }
  | _ => none }
def TeeNilWrongFalsely : Prop := teeNilRow.holds Try.pinned (OpenSpec.ofChange teeNilWrong)

/-- 'mantlelaw07.TeePlays': WHATEVER THE INPUT: true; the input reads as it did. -/
def teePlaysSpec : ChangeSpec := { name := "teePlays", fn := fun _ => fun
  | [d1, d2, d3] => { results := [.lit (.bool true)], args := [d1, d2, d3] }
  | _ => none }
def teePlaysRow : OpenClaim := { program := "ytlffbjchcknmfaa", sum := "f2ed369622b2427189f34848ef6689127d6ca7a16ab834a579f87e9475cd0259", func := "mantle/mantlelaw07.TeePlays", spec := "teePlays", inPlace := ["slices.overlaps[mantle/span.piece]"], unfollowed := true, recurses := true, apart := false }
def TeePlaysSaid : Prop := teePlaysRow.holds Try.pinned (OpenSpec.ofChange teePlaysSpec)

/-- ITS FALSE NEIGHBOUR: 'it returns false'. Refute it at one input. -/
def teePlaysWrong : ChangeSpec := { name := "teePlays", fn := fun _ => fun
  | [d1, d2, d3] => { results := [.lit (.bool false)], args := [d1, d2, d3] }
  | _ => none }
def TeePlaysWrongFalsely : Prop := teePlaysRow.holds Try.pinned (OpenSpec.ofChange teePlaysWrong)

/-- 'mantlelaw07.TeeWatched': WHATEVER THE INPUT: true; the input reads as it did. -/
def teeWatchedSpec : ChangeSpec := { name := "teeWatched", fn := fun _ => fun
  | [d1, d2] => { results := [.lit (.bool true)], args := [d1, d2] }
  | _ => none }
def teeWatchedRow : OpenClaim := { program := "ytlffbjchcknmfaa", sum := "f2ed369622b2427189f34848ef6689127d6ca7a16ab834a579f87e9475cd0259", func := "mantle/mantlelaw07.TeeWatched", spec := "teeWatched", inPlace := ["slices.overlaps[mantle/span.piece]"], unfollowed := true, recurses := true, apart := false }
def TeeWatchedSaid : Prop := teeWatchedRow.holds Try.pinned (OpenSpec.ofChange teeWatchedSpec)

/-- ITS FALSE NEIGHBOUR: 'it returns false'. Refute it at one input. -/
def teeWatchedWrong : ChangeSpec := { name := "teeWatched", fn := fun _ => fun
  | [d1, d2] => { results := [.lit (.bool false)], args := [d1, d2] }
  | _ => none }
def TeeWatchedWrongFalsely : Prop := teeWatchedRow.holds Try.pinned (OpenSpec.ofChange teeWatchedWrong)

/-- 'mantlelaw07.TeeAgain': WHATEVER THE INPUT: true; the input reads as it did. -/
def teeAgainSpec : ChangeSpec := { name := "teeAgain", fn := fun _ => fun
  | [d1, d2] => { results := [.lit (.bool true)], args := [d1, d2] }
  | _ => none }
def teeAgainRow : OpenClaim := { program := "ytlffbjchcknmfaa", sum := "f2ed369622b2427189f34848ef6689127d6ca7a16ab834a579f87e9475cd0259", func := "mantle/mantlelaw07.TeeAgain", spec := "teeAgain", inPlace := ["slices.overlaps[mantle/span.piece]"], unfollowed := true, recurses := true, apart := false }
def TeeAgainSaid : Prop := teeAgainRow.holds Try.pinned (OpenSpec.ofChange teeAgainSpec)

/-- ITS FALSE NEIGHBOUR: 'it returns false'. Refute it at one input. -/
def teeAgainWrong : ChangeSpec := { name := "teeAgain", fn := fun _ => fun
  | [d1, d2] => { results := [.lit (.bool false)], args := [d1, d2] }
  | _ => none }
def TeeAgainWrongFalsely : Prop := teeAgainRow.holds Try.pinned (OpenSpec.ofChange teeAgainWrong)

/-- 'mantlelaw09.BufferDoes': WHATEVER THE INPUT: true; the input reads as it did. -/
def bufferDoesSpec : ChangeSpec := { name := "bufferDoes", fn := fun _ => fun
  | [d1, d2, d3, d4, d5] => { results := [.lit (.bool true)], args := [d1, d2, d3, d4, d5] }
  | _ => none }
def bufferDoesRow : OpenClaim := { program := "ytlffbjchcknmfaa", sum := "f2ed369622b2427189f34848ef6689127d6ca7a16ab834a579f87e9475cd0259", func := "mantle/mantlelaw09.BufferDoes", spec := "bufferDoes", unfollowed := true, recurses := true, apart := false }
def BufferDoesSaid : Prop := bufferDoesRow.holds Try.pinned (OpenSpec.ofChange bufferDoesSpec)

/-- ITS FALSE NEIGHBOUR: 'it returns false'. Refute it at one input. -/
def bufferDoesWrong : ChangeSpec := { name := "bufferDoes", fn := fun _ => fun
  | [d1, d2, d3, d4, d5] => { results := [.lit (.bool false)], args := [d1, d2, d3, d4, d5] }
  | _ => none }
def BufferDoesWrongFalsely : Prop := bufferDoesRow.holds Try.pinned (OpenSpec.ofChange bufferDoesWrong)

/-- 'mantlelaw09.BufferPlain': WHATEVER THE INPUT: true; the input reads as it did. -/
def bufferPlainSpec : ChangeSpec := { name := "bufferPlain", fn := fun _ => fun
  | [d1, d2, d3] => { results := [.lit (.bool true)], args := [d1, d2, d3] }
  | _ => none }
def bufferPlainRow : OpenClaim := { program := "ytlffbjchcknmfaa", sum := "f2ed369622b2427189f34848ef6689127d6ca7a16ab834a579f87e9475cd0259", func := "mantle/mantlelaw09.BufferPlain", spec := "bufferPlain", unfollowed := true, recurses := true, apart := false }
def BufferPlainSaid : Prop := bufferPlainRow.holds Try.pinned (OpenSpec.ofChange bufferPlainSpec)

/-- ITS FALSE NEIGHBOUR: 'it returns false'. Refute it at one input. -/
def bufferPlainWrong : ChangeSpec := { name := "bufferPlain", fn := fun _ => fun
  | [d1, d2, d3] => { results := [.lit (.bool false)], args := [d1, d2, d3] }
  | _ => none }
def BufferPlainWrongFalsely : Prop := bufferPlainRow.holds Try.pinned (OpenSpec.ofChange bufferPlainWrong)

/-- 'mantlelaw09.BufferFirst': WHATEVER THE INPUT: true; the input reads as it did. -/
def bufferFirstSpec : ChangeSpec := { name := "bufferFirst", fn := fun _ => fun
  | [d1, d2, d3] => { results := [.lit (.bool true)], args := [d1, d2, d3] }
  | _ => none }
def bufferFirstRow : OpenClaim := { program := "ytlffbjchcknmfaa", sum := "f2ed369622b2427189f34848ef6689127d6ca7a16ab834a579f87e9475cd0259", func := "mantle/mantlelaw09.BufferFirst", spec := "bufferFirst", unfollowed := true, recurses := true, apart := false }
def BufferFirstSaid : Prop := bufferFirstRow.holds Try.pinned (OpenSpec.ofChange bufferFirstSpec)

/-- ITS FALSE NEIGHBOUR: 'it returns false'. Refute it at one input. -/
def bufferFirstWrong : ChangeSpec := { name := "bufferFirst", fn := fun _ => fun
  | [d1, d2, d3] => { results := [.lit (.bool false)], args := [d1, d2, d3] }
  | _ => none }
def BufferFirstWrongFalsely : Prop := bufferFirstRow.holds Try.pinned (OpenSpec.ofChange bufferFirstWrong)

/-- 'mantlelaw09.BufferThrough': WHATEVER THE INPUT: true; the input reads as it did. -/
def bufferThroughSpec : ChangeSpec := { name := "bufferThrough", fn := fun _ => fun
  | [d1, d2] => { results := [.lit (.bool true)], args := [d1, d2] }
  | _ => none }
def bufferThroughRow : OpenClaim := { program := "ytlffbjchcknmfaa", sum := "f2ed369622b2427189f34848ef6689127d6ca7a16ab834a579f87e9475cd0259", func := "mantle/mantlelaw09.BufferThrough", spec := "bufferThrough", unfollowed := true, recurses := true, apart := false }
def BufferThroughSaid : Prop := bufferThroughRow.holds Try.pinned (OpenSpec.ofChange bufferThroughSpec)

/-- ITS FALSE NEIGHBOUR: 'it returns false'. Refute it at one input. -/
def bufferThroughWrong : ChangeSpec := { name := "bufferThrough", fn := fun _ => fun
  | [d1, d2] => { results := [.lit (.bool false)], args := [d1, d2] }
  | _ => none }
def BufferThroughWrongFalsely : Prop := bufferThroughRow.holds Try.pinned (OpenSpec.ofChange bufferThroughWrong)

/-- 'mantlelaw09.BufferKnown': WHATEVER THE INPUT: true; the input reads as it did. -/
def bufferKnownSpec : ChangeSpec := { name := "bufferKnown", fn := fun _ => fun
  | [] => { results := [.lit (.bool true)], args := [] }
  | _ => none }
def bufferKnownRow : OpenClaim := { program := "ytlffbjchcknmfaa", sum := "f2ed369622b2427189f34848ef6689127d6ca7a16ab834a579f87e9475cd0259", func := "mantle/mantlelaw09.BufferKnown", spec := "bufferKnown", unfollowed := true, recurses := true, apart := false }
def BufferKnownSaid : Prop := bufferKnownRow.holds Try.pinned (OpenSpec.ofChange bufferKnownSpec)

/-- ITS FALSE NEIGHBOUR: 'it returns false'. Refute it at one input. -/
def bufferKnownWrong : ChangeSpec := { name := "bufferKnown", fn := fun _ => fun
  | [] => { results := [.lit (.bool false)], args := [] }
  | _ => none }
def BufferKnownWrongFalsely : Prop := bufferKnownRow.holds Try.pinned (OpenSpec.ofChange bufferKnownWrong)

/- THE SECOND FORM. 'bulk': how many values and letters a reading holds, each counted each time it is reached (what is shared counts as often as it is met; a slice's spare places count too). A statement '..UptoSaid' is the law's where the arguments, and the package variables that the reading takes, are together of bulk at most 1048576: NARROWER than '..Said'. Prove '..Said' where nothing that the law and all that it calls make is longer than what came in: it says more and counts as full. Else prove '..UptoSaid'. A law counts once. -/
mutual
def uptoBulk {H : Type} : DataW H → Nat
  | .lit (.string bytes) => bytes.length + 1
  | .lit _ => 1
  | .nil => 1
  | .ptr d => uptoBulk d + 1
  | .slice elems spare => uptoBulkAll elems + uptoBulkAll spare + 1
  | .agg parts => uptoBulkAll parts + 1
  | .iface _ d => uptoBulk d + 1
  | .map entries => uptoBulkEntries entries + 1
  | .held _ => 1
def uptoBulkAll {H : Type} : List (DataW H) → Nat
  | [] => 0
  | d :: r => uptoBulk d + uptoBulkAll r
def uptoBulkEntries {H : Type} : List (Lit × DataW H) → Nat
  | [] => 0
  | x :: r => uptoBulkEntry x + uptoBulkEntries r
def uptoBulkEntry {H : Type} : Lit × DataW H → Nat
  | (.string bytes, d) => bytes.length + uptoBulk d + 1
  | (_, d) => uptoBulk d + 1
 end
def uptoSmall : (H : Type) → List (DataW H) → Bool := fun _ ds => decide (uptoBulkAll ds ≤ 1048576)
def OpenSpec.upto (s : _root_.Go.ChangeSpec) : _root_.Go.OpenSpec := { _root_.Go.OpenSpec.ofChange s with cond := some uptoSmall }

/-- 'mantlelaw04.MemoryPlays', WHERE WHAT IT READS IS OF BULK AT MOST 1048576: true; the input reads as it did. -/
def memoryPlaysUptoRow : OpenClaim := { program := "ytlffbjchcknmfaa", sum := "f2ed369622b2427189f34848ef6689127d6ca7a16ab834a579f87e9475cd0259", func := "mantle/mantlelaw04.MemoryPlays", spec := "memoryPlays", unfollowed := true, recurses := true, apart := false, narrowed := true }
def MemoryPlaysUptoSaid : Prop := memoryPlaysUptoRow.holds Try.pinned (OpenSpec.upto memoryPlaysSpec)

/-- 'mantlelaw04.MemoryBounds', WHERE WHAT IT READS IS OF BULK AT MOST 1048576: true; the input reads as it did. -/
def memoryBoundsUptoRow : OpenClaim := { program := "ytlffbjchcknmfaa", sum := "f2ed369622b2427189f34848ef6689127d6ca7a16ab834a579f87e9475cd0259", func := "mantle/mantlelaw04.MemoryBounds", spec := "memoryBounds", unfollowed := true, recurses := true, apart := false, narrowed := true }
def MemoryBoundsUptoSaid : Prop := memoryBoundsUptoRow.holds Try.pinned (OpenSpec.upto memoryBoundsSpec)

/-- 'mantlelaw04.MemoryNil', WHERE WHAT IT READS IS OF BULK AT MOST 1048576: true; the input reads as it did. -/
def memoryNilUptoRow : OpenClaim := { program := "ytlffbjchcknmfaa", sum := "f2ed369622b2427189f34848ef6689127d6ca7a16ab834a579f87e9475cd0259", func := "mantle/mantlelaw04.MemoryNil", spec := "memoryNil", unfollowed := true, recurses := true, apart := false, narrowed := true }
def MemoryNilUptoSaid : Prop := memoryNilUptoRow.holds Try.pinned (OpenSpec.upto memoryNilSpec)

/-- 'mantlelaw04.MemoryBack', WHERE WHAT IT READS IS OF BULK AT MOST 1048576: true; the input reads as it did. -/
def memoryBackUptoRow : OpenClaim := { program := "ytlffbjchcknmfaa", sum := "f2ed369622b2427189f34848ef6689127d6ca7a16ab834a579f87e9475cd0259", func := "mantle/mantlelaw04.MemoryBack", spec := "memoryBack", unfollowed := true, recurses := true, apart := false, narrowed := true }
def MemoryBackUptoSaid : Prop := memoryBackUptoRow.holds Try.pinned (OpenSpec.upto memoryBackSpec)

/-- 'mantlelaw04.MemoryShares', WHERE WHAT IT READS IS OF BULK AT MOST 1048576: true; the input reads as it did. -/
def memorySharesUptoRow : OpenClaim := { program := "ytlffbjchcknmfaa", sum := "f2ed369622b2427189f34848ef6689127d6ca7a16ab834a579f87e9475cd0259", func := "mantle/mantlelaw04.MemoryShares", spec := "memoryShares", inPlace := ["slices.overlaps[mantle/span.piece]"], unfollowed := true, recurses := true, apart := false, narrowed := true }
def MemorySharesUptoSaid : Prop := memorySharesUptoRow.holds Try.pinned (OpenSpec.upto memorySharesSpec)

/-- 'mantlelaw06.JoinDoes', WHERE WHAT IT READS IS OF BULK AT MOST 1048576: true; the input reads as it did. -/
def joinDoesUptoRow : OpenClaim := { program := "ytlffbjchcknmfaa", sum := "f2ed369622b2427189f34848ef6689127d6ca7a16ab834a579f87e9475cd0259", func := "mantle/mantlelaw06.JoinDoes", spec := "joinDoes", unfollowed := true, recurses := true, apart := false, narrowed := true }
def JoinDoesUptoSaid : Prop := joinDoesUptoRow.holds Try.pinned (OpenSpec.upto joinDoesSpec)

/-- 'mantlelaw06.JoinPlain', WHERE WHAT IT READS IS OF BULK AT MOST 1048576: true; the input reads as it did. -/
def joinPlainUptoRow : OpenClaim := { program := "ytlffbjchcknmfaa", sum := "f2ed369622b2427189f34848ef6689127d6ca7a16ab834a579f87e9475cd0259", func := "mantle/mantlelaw06.JoinPlain", spec := "joinPlain", unfollowed := true, recurses := true, apart := false, narrowed := true }
def JoinPlainUptoSaid : Prop := joinPlainUptoRow.holds Try.pinned (OpenSpec.upto joinPlainSpec)

/-- 'mantlelaw06.JoinJoins', WHERE WHAT IT READS IS OF BULK AT MOST 1048576: true; the input reads as it did. -/
def joinJoinsUptoRow : OpenClaim := { program := "ytlffbjchcknmfaa", sum := "f2ed369622b2427189f34848ef6689127d6ca7a16ab834a579f87e9475cd0259", func := "mantle/mantlelaw06.JoinJoins", spec := "joinJoins", unfollowed := true, recurses := true, apart := false, narrowed := true }
def JoinJoinsUptoSaid : Prop := joinJoinsUptoRow.holds Try.pinned (OpenSpec.upto joinJoinsSpec)

/-- 'mantlelaw06.JoinKnown', WHERE WHAT IT READS IS OF BULK AT MOST 1048576: true; the input reads as it did. -/
def joinKnownUptoRow : OpenClaim := { program := "ytlffbjchcknmfaa", sum := "f2ed369622b2427189f34848ef6689127d6ca7a16ab834a579f87e9475cd0259", func := "mantle/mantlelaw06.JoinKnown", spec := "joinKnown", unfollowed := true, recurses := true, apart := false, narrowed := true }
def JoinKnownUptoSaid : Prop := joinKnownUptoRow.holds Try.pinned (OpenSpec.upto joinKnownSpec)

/-- 'mantlelaw07.TeeMany', WHERE WHAT IT READS IS OF BULK AT MOST 1048576: true; the input reads as it did. -/
def teeManyUptoRow : OpenClaim := { program := "ytlffbjchcknmfaa", sum := "f2ed369622b2427189f34848ef6689127d6ca7a16ab834a579f87e9475cd0259", func := "mantle/mantlelaw07.TeeMany", spec := "teeMany", unfollowed := true, recurses := true, apart := false, narrowed := true }
def TeeManyUptoSaid : Prop := teeManyUptoRow.holds Try.pinned (OpenSpec.upto teeManySpec)

/-- 'mantlelaw07.TeeAlike', WHERE WHAT IT READS IS OF BULK AT MOST 1048576: true; the input reads as it did. -/
def teeAlikeUptoRow : OpenClaim := { program := "ytlffbjchcknmfaa", sum := "f2ed369622b2427189f34848ef6689127d6ca7a16ab834a579f87e9475cd0259", func := "mantle/mantlelaw07.TeeAlike", spec := "teeAlike", unfollowed := true, recurses := true, apart := false, narrowed := true }
def TeeAlikeUptoSaid : Prop := teeAlikeUptoRow.holds Try.pinned (OpenSpec.upto teeAlikeSpec)

/-- 'mantlelaw07.TeeNil', WHERE WHAT IT READS IS OF BULK AT MOST 1048576: true; the input reads as it did. -/
def teeNilUptoRow : OpenClaim := { program := "ytlffbjchcknmfaa", sum := "f2ed369622b2427189f34848ef6689127d6ca7a16ab834a579f87e9475cd0259", func := "mantle/mantlelaw07.TeeNil", spec := "teeNil", inPlace := ["slices.overlaps[mantle/span.piece]"], unfollowed := true, recurses := true, apart := false, narrowed := true }
def TeeNilUptoSaid : Prop := teeNilUptoRow.holds Try.pinned (OpenSpec.upto teeNilSpec)

/-- 'mantlelaw07.TeePlays', WHERE WHAT IT READS IS OF BULK AT MOST 1048576: true; the input reads as it did. -/
def teePlaysUptoRow : OpenClaim := { program := "ytlffbjchcknmfaa", sum := "f2ed369622b2427189f34848ef6689127d6ca7a16ab834a579f87e9475cd0259", func := "mantle/mantlelaw07.TeePlays", spec := "teePlays", inPlace := ["slices.overlaps[mantle/span.piece]"], unfollowed := true, recurses := true, apart := false, narrowed := true }
def TeePlaysUptoSaid : Prop := teePlaysUptoRow.holds Try.pinned (OpenSpec.upto teePlaysSpec)

/-- 'mantlelaw07.TeeWatched', WHERE WHAT IT READS IS OF BULK AT MOST 1048576: true; the input reads as it did. -/
def teeWatchedUptoRow : OpenClaim := { program := "ytlffbjchcknmfaa", sum := "f2ed369622b2427189f34848ef6689127d6ca7a16ab834a579f87e9475cd0259", func := "mantle/mantlelaw07.TeeWatched", spec := "teeWatched", inPlace := ["slices.overlaps[mantle/span.piece]"], unfollowed := true, recurses := true, apart := false, narrowed := true }
def TeeWatchedUptoSaid : Prop := teeWatchedUptoRow.holds Try.pinned (OpenSpec.upto teeWatchedSpec)

/-- 'mantlelaw07.TeeAgain', WHERE WHAT IT READS IS OF BULK AT MOST 1048576: true; the input reads as it did. -/
def teeAgainUptoRow : OpenClaim := { program := "ytlffbjchcknmfaa", sum := "f2ed369622b2427189f34848ef6689127d6ca7a16ab834a579f87e9475cd0259", func := "mantle/mantlelaw07.TeeAgain", spec := "teeAgain", inPlace := ["slices.overlaps[mantle/span.piece]"], unfollowed := true, recurses := true, apart := false, narrowed := true }
def TeeAgainUptoSaid : Prop := teeAgainUptoRow.holds Try.pinned (OpenSpec.upto teeAgainSpec)

/-- 'mantlelaw09.BufferDoes', WHERE WHAT IT READS IS OF BULK AT MOST 1048576: true; the input reads as it did. -/
def bufferDoesUptoRow : OpenClaim := { program := "ytlffbjchcknmfaa", sum := "f2ed369622b2427189f34848ef6689127d6ca7a16ab834a579f87e9475cd0259", func := "mantle/mantlelaw09.BufferDoes", spec := "bufferDoes", unfollowed := true, recurses := true, apart := false, narrowed := true }
def BufferDoesUptoSaid : Prop := bufferDoesUptoRow.holds Try.pinned (OpenSpec.upto bufferDoesSpec)

/-- 'mantlelaw09.BufferPlain', WHERE WHAT IT READS IS OF BULK AT MOST 1048576: true; the input reads as it did. -/
def bufferPlainUptoRow : OpenClaim := { program := "ytlffbjchcknmfaa", sum := "f2ed369622b2427189f34848ef6689127d6ca7a16ab834a579f87e9475cd0259", func := "mantle/mantlelaw09.BufferPlain", spec := "bufferPlain", unfollowed := true, recurses := true, apart := false, narrowed := true }
def BufferPlainUptoSaid : Prop := bufferPlainUptoRow.holds Try.pinned (OpenSpec.upto bufferPlainSpec)

/-- 'mantlelaw09.BufferFirst', WHERE WHAT IT READS IS OF BULK AT MOST 1048576: true; the input reads as it did. -/
def bufferFirstUptoRow : OpenClaim := { program := "ytlffbjchcknmfaa", sum := "f2ed369622b2427189f34848ef6689127d6ca7a16ab834a579f87e9475cd0259", func := "mantle/mantlelaw09.BufferFirst", spec := "bufferFirst", unfollowed := true, recurses := true, apart := false, narrowed := true }
def BufferFirstUptoSaid : Prop := bufferFirstUptoRow.holds Try.pinned (OpenSpec.upto bufferFirstSpec)

/-- 'mantlelaw09.BufferThrough', WHERE WHAT IT READS IS OF BULK AT MOST 1048576: true; the input reads as it did. -/
def bufferThroughUptoRow : OpenClaim := { program := "ytlffbjchcknmfaa", sum := "f2ed369622b2427189f34848ef6689127d6ca7a16ab834a579f87e9475cd0259", func := "mantle/mantlelaw09.BufferThrough", spec := "bufferThrough", unfollowed := true, recurses := true, apart := false, narrowed := true }
def BufferThroughUptoSaid : Prop := bufferThroughUptoRow.holds Try.pinned (OpenSpec.upto bufferThroughSpec)

/-- 'mantlelaw09.BufferKnown', WHERE WHAT IT READS IS OF BULK AT MOST 1048576: true; the input reads as it did. -/
def bufferKnownUptoRow : OpenClaim := { program := "ytlffbjchcknmfaa", sum := "f2ed369622b2427189f34848ef6689127d6ca7a16ab834a579f87e9475cd0259", func := "mantle/mantlelaw09.BufferKnown", spec := "bufferKnown", unfollowed := true, recurses := true, apart := false, narrowed := true }
def BufferKnownUptoSaid : Prop := bufferKnownUptoRow.holds Try.pinned (OpenSpec.upto bufferKnownSpec)

end Rows
end Go.Proofs.Ytlffbjchcknmfaa
