/-
  No cell of these rows narrows 'for every input' (looked for: loops, veiled, ifaces, maps, wideKeys, modest, calm, conditions, laid).
  DERIVED. THE GIVEN ROWS OF THIS SEAT. 12 by the template 'for every input the law returns true; each argument reads behind the call as it read before'; 0 by the template 'total and deterministic' (their statements: YtbiaakkmmkddfaaTotals.lean).
  GIVEN WITH THE SEED: the statements are not yours to turn. If you find one false, say at which input.
  Laid BY PROGRAM, IN A SANDBOX (cutbox-rows.mjs): the forced cells as the released guide's own fill.sh prints them over the translation 7977e37c5567f8b9… (all of the seat's roots in one cut). By AI agents, Wed Nov 11 2026. No macro, syntax, notation, axiom, sorry.
-/
import Derived.Test.YtbiaakkmmkddfaaChecked
import GoSem.Claim
import GoSem.ClaimJoined
import GoSem.ClaimMapViews
import Derived.JoinedTies
import Derived.KernelRfl
namespace Go.Proofs.Ytbiaakkmmkddfaa
/- THE CELL 'sum', in the pinned program and in every row, IS THE sha256 OF THE DUMP (.gsa) THAT YtbiaakkmmkddfaaProg.lean LOADS. Nothing in Lean hashes anything: it is a label: what it is worth is what the hold of that sum in a sandbox is worth. -/
noncomputable def Try.pinned : Pinned := { name := "ytbiaakkmmkddfaa", sum := "7977e37c5567f8b997045f7acc74edc345126c4d2c429beb4d5ba9c8271354d6", checked := Try.checked }
namespace Rows
def none {H : Type} : Left H := { results := [], args := [] }

/-- 'laws.FnExactFrameOk': WHATEVER THE INPUT: true; the input reads as it did. -/
def fnExactFrameOkSpec : ChangeSpec := { name := "fnExactFrameOk", fn := fun _ => fun
  | [d] => { results := [.lit (.bool true)], args := [d] }
  | _ => none }
def fnExactFrameOkRow : OpenClaim := { program := "ytbiaakkmmkddfaa", sum := "7977e37c5567f8b997045f7acc74edc345126c4d2c429beb4d5ba9c8271354d6", func := "loop.example/g00100/laws.FnExactFrameOk", spec := "fnExactFrameOk", apart := false }
def FnExactFrameOkSaid : Prop := fnExactFrameOkRow.holds Try.pinned (OpenSpec.ofChange fnExactFrameOkSpec)

/-- ITS FALSE NEIGHBOUR: 'it returns false'. Refute it at one input. -/
def fnExactFrameOkWrong : ChangeSpec := { name := "fnExactFrameOk", fn := fun _ => fun
  | [d] => { results := [.lit (.bool false)], args := [d] }
  | _ => none }
def FnExactFrameOkWrongFalsely : Prop := fnExactFrameOkRow.holds Try.pinned (OpenSpec.ofChange fnExactFrameOkWrong)

/-- 'laws.FnExactPutFrame': WHATEVER THE INPUT: true; the input reads as it did. -/
def fnExactPutFrameSpec : ChangeSpec := { name := "fnExactPutFrame", fn := fun _ => fun
  | [d] => { results := [.lit (.bool true)], args := [d] }
  | _ => none }
def fnExactPutFrameRow : OpenClaim := { program := "ytbiaakkmmkddfaa", sum := "7977e37c5567f8b997045f7acc74edc345126c4d2c429beb4d5ba9c8271354d6", func := "loop.example/g00100/laws.FnExactPutFrame", spec := "fnExactPutFrame", apart := false }
def FnExactPutFrameSaid : Prop := fnExactPutFrameRow.holds Try.pinned (OpenSpec.ofChange fnExactPutFrameSpec)

/-- ITS FALSE NEIGHBOUR: 'it returns false'. Refute it at one input. -/
def fnExactPutFrameWrong : ChangeSpec := { name := "fnExactPutFrame", fn := fun _ => fun
  | [d] => { results := [.lit (.bool false)], args := [d] }
  | _ => none }
def FnExactPutFrameWrongFalsely : Prop := fnExactPutFrameRow.holds Try.pinned (OpenSpec.ofChange fnExactPutFrameWrong)

/-- 'laws.FnExactFrameText': WHATEVER THE INPUT: true; the input reads as it did. -/
def fnExactFrameTextSpec : ChangeSpec := { name := "fnExactFrameText", fn := fun _ => fun
  | [d1, d2] => { results := [.lit (.bool true)], args := [d1, d2] }
  | _ => none }
def fnExactFrameTextRow : OpenClaim := { program := "ytbiaakkmmkddfaa", sum := "7977e37c5567f8b997045f7acc74edc345126c4d2c429beb4d5ba9c8271354d6", func := "loop.example/g00100/laws.FnExactFrameText", spec := "fnExactFrameText", apart := false }
def FnExactFrameTextSaid : Prop := fnExactFrameTextRow.holds Try.pinned (OpenSpec.ofChange fnExactFrameTextSpec)

/-- ITS FALSE NEIGHBOUR: 'it returns false'. Refute it at one input. -/
def fnExactFrameTextWrong : ChangeSpec := { name := "fnExactFrameText", fn := fun _ => fun
  | [d1, d2] => { results := [.lit (.bool false)], args := [d1, d2] }
  | _ => none }
def FnExactFrameTextWrongFalsely : Prop := fnExactFrameTextRow.holds Try.pinned (OpenSpec.ofChange fnExactFrameTextWrong)

/-- 'laws.FnExactTagData': WHATEVER THE INPUT: true; the input reads as it did. -/
def fnExactTagDataSpec : ChangeSpec := { name := "fnExactTagData", fn := fun _ => fun
  | [d1, d2] => { results := [.lit (.bool true)], args := [d1, d2] }
  | _ => none }
def fnExactTagDataRow : OpenClaim := { program := "ytbiaakkmmkddfaa", sum := "7977e37c5567f8b997045f7acc74edc345126c4d2c429beb4d5ba9c8271354d6", func := "loop.example/g00100/laws.FnExactTagData", spec := "fnExactTagData", inPlace := ["internal/abi.NoEscape"], apart := false }
def FnExactTagDataSaid : Prop := fnExactTagDataRow.holds Try.pinned (OpenSpec.ofChange fnExactTagDataSpec)

/-- ITS FALSE NEIGHBOUR: 'it returns false'. Refute it at one input. -/
def fnExactTagDataWrong : ChangeSpec := { name := "fnExactTagData", fn := fun _ => fun
  | [d1, d2] => { results := [.lit (.bool false)], args := [d1, d2] }
  | _ => none }
def FnExactTagDataWrongFalsely : Prop := fnExactTagDataRow.holds Try.pinned (OpenSpec.ofChange fnExactTagDataWrong)

/-- 'laws.FnExactSplit': WHATEVER THE INPUT: true; the input reads as it did. -/
def fnExactSplitSpec : ChangeSpec := { name := "fnExactSplit", fn := fun _ => fun
  | [d1, d2] => { results := [.lit (.bool true)], args := [d1, d2] }
  | _ => none }
def fnExactSplitRow : OpenClaim := { program := "ytbiaakkmmkddfaa", sum := "7977e37c5567f8b997045f7acc74edc345126c4d2c429beb4d5ba9c8271354d6", func := "loop.example/g00100/laws.FnExactSplit", spec := "fnExactSplit", apart := false }
def FnExactSplitSaid : Prop := fnExactSplitRow.holds Try.pinned (OpenSpec.ofChange fnExactSplitSpec)

/-- ITS FALSE NEIGHBOUR: 'it returns false'. Refute it at one input. -/
def fnExactSplitWrong : ChangeSpec := { name := "fnExactSplit", fn := fun _ => fun
  | [d1, d2] => { results := [.lit (.bool false)], args := [d1, d2] }
  | _ => none }
def FnExactSplitWrongFalsely : Prop := fnExactSplitRow.holds Try.pinned (OpenSpec.ofChange fnExactSplitWrong)

/-- 'laws.FnExactFramesOf': WHATEVER THE INPUT: true; the input reads as it did. -/
def fnExactFramesOfSpec : ChangeSpec := { name := "fnExactFramesOf", fn := fun _ => fun
  | [d] => { results := [.lit (.bool true)], args := [d] }
  | _ => none }
def fnExactFramesOfRow : OpenClaim := { program := "ytbiaakkmmkddfaa", sum := "7977e37c5567f8b997045f7acc74edc345126c4d2c429beb4d5ba9c8271354d6", func := "loop.example/g00100/laws.FnExactFramesOf", spec := "fnExactFramesOf", apart := false }
def FnExactFramesOfSaid : Prop := fnExactFramesOfRow.holds Try.pinned (OpenSpec.ofChange fnExactFramesOfSpec)

/-- ITS FALSE NEIGHBOUR: 'it returns false'. Refute it at one input. -/
def fnExactFramesOfWrong : ChangeSpec := { name := "fnExactFramesOf", fn := fun _ => fun
  | [d] => { results := [.lit (.bool false)], args := [d] }
  | _ => none }
def FnExactFramesOfWrongFalsely : Prop := fnExactFramesOfRow.holds Try.pinned (OpenSpec.ofChange fnExactFramesOfWrong)

/-- 'laws.FnExactPutFrames': WHATEVER THE INPUT: true; the input reads as it did. -/
def fnExactPutFramesSpec : ChangeSpec := { name := "fnExactPutFrames", fn := fun _ => fun
  | [d] => { results := [.lit (.bool true)], args := [d] }
  | _ => none }
def fnExactPutFramesRow : OpenClaim := { program := "ytbiaakkmmkddfaa", sum := "7977e37c5567f8b997045f7acc74edc345126c4d2c429beb4d5ba9c8271354d6", func := "loop.example/g00100/laws.FnExactPutFrames", spec := "fnExactPutFrames", inPlace := ["internal/abi.NoEscape"], apart := false }
def FnExactPutFramesSaid : Prop := fnExactPutFramesRow.holds Try.pinned (OpenSpec.ofChange fnExactPutFramesSpec)

/-- ITS FALSE NEIGHBOUR: 'it returns false'. Refute it at one input. -/
def fnExactPutFramesWrong : ChangeSpec := { name := "fnExactPutFrames", fn := fun _ => fun
  | [d] => { results := [.lit (.bool false)], args := [d] }
  | _ => none }
def FnExactPutFramesWrongFalsely : Prop := fnExactPutFramesRow.holds Try.pinned (OpenSpec.ofChange fnExactPutFramesWrong)

/-- 'laws.FnExactReaderPush': WHATEVER THE INPUT: true; the input reads as it did. -/
def fnExactReaderPushSpec : ChangeSpec := { name := "fnExactReaderPush", fn := fun _ => fun
  | [d1, d2] => { results := [.lit (.bool true)], args := [d1, d2] }
  | _ => none }
def fnExactReaderPushRow : OpenClaim := { program := "ytbiaakkmmkddfaa", sum := "7977e37c5567f8b997045f7acc74edc345126c4d2c429beb4d5ba9c8271354d6", func := "loop.example/g00100/laws.FnExactReaderPush", spec := "fnExactReaderPush", apart := false }
def FnExactReaderPushSaid : Prop := fnExactReaderPushRow.holds Try.pinned (OpenSpec.ofChange fnExactReaderPushSpec)

/-- ITS FALSE NEIGHBOUR: 'it returns false'. Refute it at one input. -/
def fnExactReaderPushWrong : ChangeSpec := { name := "fnExactReaderPush", fn := fun _ => fun
  | [d1, d2] => { results := [.lit (.bool false)], args := [d1, d2] }
  | _ => none }
def FnExactReaderPushWrongFalsely : Prop := fnExactReaderPushRow.holds Try.pinned (OpenSpec.ofChange fnExactReaderPushWrong)

/-- 'laws.FnPieces': WHATEVER THE INPUT: true; the input reads as it did. -/
def fnPiecesSpec : ChangeSpec := { name := "fnPieces", fn := fun _ => fun
  | [d] => { results := [.lit (.bool true)], args := [d] }
  | _ => none }
def fnPiecesRow : OpenClaim := { program := "ytbiaakkmmkddfaa", sum := "7977e37c5567f8b997045f7acc74edc345126c4d2c429beb4d5ba9c8271354d6", func := "loop.example/g00100/laws.FnPieces", spec := "fnPieces", apart := false }
def FnPiecesSaid : Prop := fnPiecesRow.holds Try.pinned (OpenSpec.ofChange fnPiecesSpec)

/-- ITS FALSE NEIGHBOUR: 'it returns false'. Refute it at one input. -/
def fnPiecesWrong : ChangeSpec := { name := "fnPieces", fn := fun _ => fun
  | [d] => { results := [.lit (.bool false)], args := [d] }
  | _ => none }
def FnPiecesWrongFalsely : Prop := fnPiecesRow.holds Try.pinned (OpenSpec.ofChange fnPiecesWrong)

/-- 'laws.FnFrames': WHATEVER THE INPUT: true; the input reads as it did. -/
def fnFramesSpec : ChangeSpec := { name := "fnFrames", fn := fun _ => fun
  | [d] => { results := [.lit (.bool true)], args := [d] }
  | _ => none }
def fnFramesRow : OpenClaim := { program := "ytbiaakkmmkddfaa", sum := "7977e37c5567f8b997045f7acc74edc345126c4d2c429beb4d5ba9c8271354d6", func := "loop.example/g00100/laws.FnFrames", spec := "fnFrames", inPlace := ["internal/abi.NoEscape"], apart := false }
def FnFramesSaid : Prop := fnFramesRow.holds Try.pinned (OpenSpec.ofChange fnFramesSpec)

/-- ITS FALSE NEIGHBOUR: 'it returns false'. Refute it at one input. -/
def fnFramesWrong : ChangeSpec := { name := "fnFrames", fn := fun _ => fun
  | [d] => { results := [.lit (.bool false)], args := [d] }
  | _ => none }
def FnFramesWrongFalsely : Prop := fnFramesRow.holds Try.pinned (OpenSpec.ofChange fnFramesWrong)

/-- 'laws.FnExactGetSig': WHATEVER THE INPUT: true; the input reads as it did. -/
def fnExactGetSigSpec : ChangeSpec := { name := "fnExactGetSig", fn := fun _ => fun
  | [d] => { results := [.lit (.bool true)], args := [d] }
  | _ => none }
def fnExactGetSigRow : OpenClaim := { program := "ytbiaakkmmkddfaa", sum := "7977e37c5567f8b997045f7acc74edc345126c4d2c429beb4d5ba9c8271354d6", func := "loop.example/g00100/laws.FnExactGetSig", spec := "fnExactGetSig", unfollowed := true, recurses := true, apart := false }
def FnExactGetSigSaid : Prop := fnExactGetSigRow.holds Try.pinned (OpenSpec.ofChange fnExactGetSigSpec)

/-- ITS FALSE NEIGHBOUR: 'it returns false'. Refute it at one input. -/
def fnExactGetSigWrong : ChangeSpec := { name := "fnExactGetSig", fn := fun _ => fun
  | [d] => { results := [.lit (.bool false)], args := [d] }
  | _ => none }
def FnExactGetSigWrongFalsely : Prop := fnExactGetSigRow.holds Try.pinned (OpenSpec.ofChange fnExactGetSigWrong)

/-- 'laws.FnExactGetTokens': WHATEVER THE INPUT: true; the input reads as it did. -/
def fnExactGetTokensSpec : ChangeSpec := { name := "fnExactGetTokens", fn := fun _ => fun
  | [d] => { results := [.lit (.bool true)], args := [d] }
  | _ => none }
def fnExactGetTokensRow : OpenClaim := { program := "ytbiaakkmmkddfaa", sum := "7977e37c5567f8b997045f7acc74edc345126c4d2c429beb4d5ba9c8271354d6", func := "loop.example/g00100/laws.FnExactGetTokens", spec := "fnExactGetTokens", inPlace := ["internal/abi.NoEscape"], unfollowed := true, recurses := true, apart := false }
def FnExactGetTokensSaid : Prop := fnExactGetTokensRow.holds Try.pinned (OpenSpec.ofChange fnExactGetTokensSpec)

/-- ITS FALSE NEIGHBOUR: 'it returns false'. Refute it at one input. -/
def fnExactGetTokensWrong : ChangeSpec := { name := "fnExactGetTokens", fn := fun _ => fun
  | [d] => { results := [.lit (.bool false)], args := [d] }
  | _ => none }
def FnExactGetTokensWrongFalsely : Prop := fnExactGetTokensRow.holds Try.pinned (OpenSpec.ofChange fnExactGetTokensWrong)

/- THE SECOND FORM. 'bulk': how many values and letters a reading holds, each counted each time it is reached (what is shared counts as often as it is met; a slice's spare places count too). A statement '..UptoSaid' is the law's where the arguments, and the package variables that the reading takes, are together of bulk at most 1048576: NARROWER than '..Said'. Prove '..Said' where nothing that the law and all that it calls make is longer than what came in: it says more and counts as full. Else prove '..UptoSaid'. A law counts once. -/
mutual
def uptoBulk {H : Type} : DataW H → Nat
  | .lit (.string bytes) => bytes.length + 1
  | .lit _ => 1
  | .nil => 1
  | .ptr d => uptoBulk d + 1
  | .slice elems spare => uptoBulkAll elems + uptoBulkAll spare + 1
  | .agg parts => uptoBulkAll parts + 1
  | .iface _ d => uptoBulk d + 1
  | .map entries => uptoBulkEntries entries + 1
  | .held _ => 1
def uptoBulkAll {H : Type} : List (DataW H) → Nat
  | [] => 0
  | d :: r => uptoBulk d + uptoBulkAll r
def uptoBulkEntries {H : Type} : List (Lit × DataW H) → Nat
  | [] => 0
  | x :: r => uptoBulkEntry x + uptoBulkEntries r
def uptoBulkEntry {H : Type} : Lit × DataW H → Nat
  | (.string bytes, d) => bytes.length + uptoBulk d + 1
  | (_, d) => uptoBulk d + 1
 end
def uptoSmall : (H : Type) → List (DataW H) → Bool := fun _ ds => decide (uptoBulkAll ds ≤ 1048576)
def OpenSpec.upto (s : _root_.Go.ChangeSpec) : _root_.Go.OpenSpec := { _root_.Go.OpenSpec.ofChange s with cond := some uptoSmall }

/-- 'laws.FnExactFrameOk', WHERE WHAT IT READS IS OF BULK AT MOST 1048576: true; the input reads as it did. -/
def fnExactFrameOkUptoRow : OpenClaim := { program := "ytbiaakkmmkddfaa", sum := "7977e37c5567f8b997045f7acc74edc345126c4d2c429beb4d5ba9c8271354d6", func := "loop.example/g00100/laws.FnExactFrameOk", spec := "fnExactFrameOk", apart := false, narrowed := true }
def FnExactFrameOkUptoSaid : Prop := fnExactFrameOkUptoRow.holds Try.pinned (OpenSpec.upto fnExactFrameOkSpec)

/-- 'laws.FnExactPutFrame', WHERE WHAT IT READS IS OF BULK AT MOST 1048576: true; the input reads as it did. -/
def fnExactPutFrameUptoRow : OpenClaim := { program := "ytbiaakkmmkddfaa", sum := "7977e37c5567f8b997045f7acc74edc345126c4d2c429beb4d5ba9c8271354d6", func := "loop.example/g00100/laws.FnExactPutFrame", spec := "fnExactPutFrame", apart := false, narrowed := true }
def FnExactPutFrameUptoSaid : Prop := fnExactPutFrameUptoRow.holds Try.pinned (OpenSpec.upto fnExactPutFrameSpec)

/-- 'laws.FnExactFrameText', WHERE WHAT IT READS IS OF BULK AT MOST 1048576: true; the input reads as it did. -/
def fnExactFrameTextUptoRow : OpenClaim := { program := "ytbiaakkmmkddfaa", sum := "7977e37c5567f8b997045f7acc74edc345126c4d2c429beb4d5ba9c8271354d6", func := "loop.example/g00100/laws.FnExactFrameText", spec := "fnExactFrameText", apart := false, narrowed := true }
def FnExactFrameTextUptoSaid : Prop := fnExactFrameTextUptoRow.holds Try.pinned (OpenSpec.upto fnExactFrameTextSpec)

/-- 'laws.FnExactTagData', WHERE WHAT IT READS IS OF BULK AT MOST 1048576: true; the input reads as it did. -/
def fnExactTagDataUptoRow : OpenClaim := { program := "ytbiaakkmmkddfaa", sum := "7977e37c5567f8b997045f7acc74edc345126c4d2c429beb4d5ba9c8271354d6", func := "loop.example/g00100/laws.FnExactTagData", spec := "fnExactTagData", inPlace := ["internal/abi.NoEscape"], apart := false, narrowed := true }
def FnExactTagDataUptoSaid : Prop := fnExactTagDataUptoRow.holds Try.pinned (OpenSpec.upto fnExactTagDataSpec)

/-- 'laws.FnExactSplit', WHERE WHAT IT READS IS OF BULK AT MOST 1048576: true; the input reads as it did. -/
def fnExactSplitUptoRow : OpenClaim := { program := "ytbiaakkmmkddfaa", sum := "7977e37c5567f8b997045f7acc74edc345126c4d2c429beb4d5ba9c8271354d6", func := "loop.example/g00100/laws.FnExactSplit", spec := "fnExactSplit", apart := false, narrowed := true }
def FnExactSplitUptoSaid : Prop := fnExactSplitUptoRow.holds Try.pinned (OpenSpec.upto fnExactSplitSpec)

/-- 'laws.FnExactFramesOf', WHERE WHAT IT READS IS OF BULK AT MOST 1048576: true; the input reads as it did. -/
def fnExactFramesOfUptoRow : OpenClaim := { program := "ytbiaakkmmkddfaa", sum := "7977e37c5567f8b997045f7acc74edc345126c4d2c429beb4d5ba9c8271354d6", func := "loop.example/g00100/laws.FnExactFramesOf", spec := "fnExactFramesOf", apart := false, narrowed := true }
def FnExactFramesOfUptoSaid : Prop := fnExactFramesOfUptoRow.holds Try.pinned (OpenSpec.upto fnExactFramesOfSpec)

/-- 'laws.FnExactPutFrames', WHERE WHAT IT READS IS OF BULK AT MOST 1048576: true; the input reads as it did. -/
def fnExactPutFramesUptoRow : OpenClaim := { program := "ytbiaakkmmkddfaa", sum := "7977e37c5567f8b997045f7acc74edc345126c4d2c429beb4d5ba9c8271354d6", func := "loop.example/g00100/laws.FnExactPutFrames", spec := "fnExactPutFrames", inPlace := ["internal/abi.NoEscape"], apart := false, narrowed := true }
def FnExactPutFramesUptoSaid : Prop := fnExactPutFramesUptoRow.holds Try.pinned (OpenSpec.upto fnExactPutFramesSpec)

/-- 'laws.FnExactReaderPush', WHERE WHAT IT READS IS OF BULK AT MOST 1048576: true; the input reads as it did. -/
def fnExactReaderPushUptoRow : OpenClaim := { program := "ytbiaakkmmkddfaa", sum := "7977e37c5567f8b997045f7acc74edc345126c4d2c429beb4d5ba9c8271354d6", func := "loop.example/g00100/laws.FnExactReaderPush", spec := "fnExactReaderPush", apart := false, narrowed := true }
def FnExactReaderPushUptoSaid : Prop := fnExactReaderPushUptoRow.holds Try.pinned (OpenSpec.upto fnExactReaderPushSpec)

/-- 'laws.FnPieces', WHERE WHAT IT READS IS OF BULK AT MOST 1048576: true; the input reads as it did. -/
def fnPiecesUptoRow : OpenClaim := { program := "ytbiaakkmmkddfaa", sum := "7977e37c5567f8b997045f7acc74edc345126c4d2c429beb4d5ba9c8271354d6", func := "loop.example/g00100/laws.FnPieces", spec := "fnPieces", apart := false, narrowed := true }
def FnPiecesUptoSaid : Prop := fnPiecesUptoRow.holds Try.pinned (OpenSpec.upto fnPiecesSpec)

/-- 'laws.FnFrames', WHERE WHAT IT READS IS OF BULK AT MOST 1048576: true; the input reads as it did. -/
def fnFramesUptoRow : OpenClaim := { program := "ytbiaakkmmkddfaa", sum := "7977e37c5567f8b997045f7acc74edc345126c4d2c429beb4d5ba9c8271354d6", func := "loop.example/g00100/laws.FnFrames", spec := "fnFrames", inPlace := ["internal/abi.NoEscape"], apart := false, narrowed := true }
def FnFramesUptoSaid : Prop := fnFramesUptoRow.holds Try.pinned (OpenSpec.upto fnFramesSpec)

/-- 'laws.FnExactGetSig', WHERE WHAT IT READS IS OF BULK AT MOST 1048576: true; the input reads as it did. -/
def fnExactGetSigUptoRow : OpenClaim := { program := "ytbiaakkmmkddfaa", sum := "7977e37c5567f8b997045f7acc74edc345126c4d2c429beb4d5ba9c8271354d6", func := "loop.example/g00100/laws.FnExactGetSig", spec := "fnExactGetSig", unfollowed := true, recurses := true, apart := false, narrowed := true }
def FnExactGetSigUptoSaid : Prop := fnExactGetSigUptoRow.holds Try.pinned (OpenSpec.upto fnExactGetSigSpec)

/-- 'laws.FnExactGetTokens', WHERE WHAT IT READS IS OF BULK AT MOST 1048576: true; the input reads as it did. -/
def fnExactGetTokensUptoRow : OpenClaim := { program := "ytbiaakkmmkddfaa", sum := "7977e37c5567f8b997045f7acc74edc345126c4d2c429beb4d5ba9c8271354d6", func := "loop.example/g00100/laws.FnExactGetTokens", spec := "fnExactGetTokens", inPlace := ["internal/abi.NoEscape"], unfollowed := true, recurses := true, apart := false, narrowed := true }
def FnExactGetTokensUptoSaid : Prop := fnExactGetTokensUptoRow.holds Try.pinned (OpenSpec.upto fnExactGetTokensSpec)

end Rows
end Go.Proofs.Ytbiaakkmmkddfaa
