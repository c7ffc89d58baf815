/-
  No cell of these rows narrows 'for every input' (looked for: loops, veiled, ifaces, maps, wideKeys, modest, calm, conditions, laid).
  DERIVED. THE GIVEN ROWS OF THIS SEAT. 4 by the template 'for every input the law returns true; each argument reads behind the call as it read before'; 0 by the template 'total and deterministic' (their statements: YtphlmaaplaaopaaTotals.lean).
  GIVEN WITH THE SEED: the statements are not yours to turn. If you find one false, say at which input.
  Laid BY PROGRAM, IN A SANDBOX (cutbox-rows.mjs): the forced cells as the released guide's own fill.sh prints them over the translation 2a222ee760efe77a… (all of the seat's roots in one cut). By AI agents, Wed Nov 11 2026. No macro, syntax, notation, axiom, sorry.
-/
import Derived.Test.YtphlmaaplaaopaaChecked
import GoSem.Claim
import GoSem.ClaimJoined
import GoSem.ClaimMapViews
import Derived.JoinedTies
import Derived.KernelRfl
namespace Go.Proofs.Ytphlmaaplaaopaa
/- THE CELL 'sum', in the pinned program and in every row, IS THE sha256 OF THE DUMP (.gsa) THAT YtphlmaaplaaopaaProg.lean LOADS. Nothing in Lean hashes anything: it is a label: what it is worth is what the hold of that sum in a sandbox is worth. -/
noncomputable def Try.pinned : Pinned := { name := "ytphlmaaplaaopaa", sum := "2a222ee760efe77a293d6fd6cb8c8fc4b669f0d45c039cf8292d92ebef136565", checked := Try.checked }
namespace Rows
def none {H : Type} : Left H := { results := [], args := [] }

/-- 'laws.FnExactMsgOk': WHATEVER THE INPUT: true; the input reads as it did. -/
def fnExactMsgOkSpec : ChangeSpec := { name := "fnExactMsgOk", fn := fun _ => fun
  | [d] => { results := [.lit (.bool true)], args := [d] }
  | _ => none }
def fnExactMsgOkRow : OpenClaim := { program := "ytphlmaaplaaopaa", sum := "2a222ee760efe77a293d6fd6cb8c8fc4b669f0d45c039cf8292d92ebef136565", func := "loop.example/g00100/laws.FnExactMsgOk", spec := "fnExactMsgOk", inPlace := ["internal/abi.NoEscape"], unfollowed := true, recurses := true, apart := false }
def FnExactMsgOkSaid : Prop := fnExactMsgOkRow.holds Try.pinned (OpenSpec.ofChange fnExactMsgOkSpec)

/-- ITS FALSE NEIGHBOUR: 'it returns false'. Refute it at one input. -/
def fnExactMsgOkWrong : ChangeSpec := { name := "fnExactMsgOk", fn := fun _ => fun
  | [d] => { results := [.lit (.bool false)], args := [d] }
  | _ => none }
def FnExactMsgOkWrongFalsely : Prop := fnExactMsgOkRow.holds Try.pinned (OpenSpec.ofChange fnExactMsgOkWrong)

/-- 'laws.FnExactTalkStart': WHATEVER THE INPUT: true; the input reads as it did. -/
def fnExactTalkStartSpec : ChangeSpec := { name := "fnExactTalkStart", fn := fun _ => fun
  | [d1, d2, d3, d4] => { results := [.lit (.bool true)], args := [d1, d2, d3, d4] }
  | _ => none }
def fnExactTalkStartRow : OpenClaim := { program := "ytphlmaaplaaopaa", sum := "2a222ee760efe77a293d6fd6cb8c8fc4b669f0d45c039cf8292d92ebef136565", func := "loop.example/g00100/laws.FnExactTalkStart", spec := "fnExactTalkStart", unfollowed := true, recurses := true, apart := false }
def FnExactTalkStartSaid : Prop := fnExactTalkStartRow.holds Try.pinned (OpenSpec.ofChange fnExactTalkStartSpec)

/-- ITS FALSE NEIGHBOUR: 'it returns false'. Refute it at one input. -/
def fnExactTalkStartWrong : ChangeSpec := { name := "fnExactTalkStart", fn := fun _ => fun
  | [d1, d2, d3, d4] => { results := [.lit (.bool false)], args := [d1, d2, d3, d4] }
  | _ => none }
def FnExactTalkStartWrongFalsely : Prop := fnExactTalkStartRow.holds Try.pinned (OpenSpec.ofChange fnExactTalkStartWrong)

/-- 'laws.FnExactPutMsg': WHATEVER THE INPUT: true; the input reads as it did. -/
def fnExactPutMsgSpec : ChangeSpec := { name := "fnExactPutMsg", fn := fun _ => fun
  | [d] => { results := [.lit (.bool true)], args := [d] }
  | _ => none }
def fnExactPutMsgRow : OpenClaim := { program := "ytphlmaaplaaopaa", sum := "2a222ee760efe77a293d6fd6cb8c8fc4b669f0d45c039cf8292d92ebef136565", func := "loop.example/g00100/laws.FnExactPutMsg", spec := "fnExactPutMsg", inPlace := ["internal/abi.NoEscape"], unfollowed := true, recurses := true, apart := false }
def FnExactPutMsgSaid : Prop := fnExactPutMsgRow.holds Try.pinned (OpenSpec.ofChange fnExactPutMsgSpec)

/-- ITS FALSE NEIGHBOUR: 'it returns false'. Refute it at one input. -/
def fnExactPutMsgWrong : ChangeSpec := { name := "fnExactPutMsg", fn := fun _ => fun
  | [d] => { results := [.lit (.bool false)], args := [d] }
  | _ => none }
def FnExactPutMsgWrongFalsely : Prop := fnExactPutMsgRow.holds Try.pinned (OpenSpec.ofChange fnExactPutMsgWrong)

/-- 'laws.FnExactGetMsg': WHATEVER THE INPUT: true; the input reads as it did. -/
def fnExactGetMsgSpec : ChangeSpec := { name := "fnExactGetMsg", fn := fun _ => fun
  | [d] => { results := [.lit (.bool true)], args := [d] }
  | _ => none }
def fnExactGetMsgRow : OpenClaim := { program := "ytphlmaaplaaopaa", sum := "2a222ee760efe77a293d6fd6cb8c8fc4b669f0d45c039cf8292d92ebef136565", func := "loop.example/g00100/laws.FnExactGetMsg", spec := "fnExactGetMsg", inPlace := ["internal/abi.NoEscape"], unfollowed := true, recurses := true, apart := false }
def FnExactGetMsgSaid : Prop := fnExactGetMsgRow.holds Try.pinned (OpenSpec.ofChange fnExactGetMsgSpec)

/-- ITS FALSE NEIGHBOUR: 'it returns false'. Refute it at one input. -/
def fnExactGetMsgWrong : ChangeSpec := { name := "fnExactGetMsg", fn := fun _ => fun
  | [d] => { results := [.lit (.bool false)], args := [d] }
  | _ => none }
def FnExactGetMsgWrongFalsely : Prop := fnExactGetMsgRow.holds Try.pinned (OpenSpec.ofChange fnExactGetMsgWrong)

/- THE SECOND FORM. 'bulk': how many values and letters a reading holds, each counted each time it is reached (what is shared counts as often as it is met; a slice's spare places count too). A statement '..UptoSaid' is the law's where the arguments, and the package variables that the reading takes, are together of bulk at most 1048576: NARROWER than '..Said'. Prove '..Said' where nothing that the law and all that it calls make is longer than what came in: it says more and counts as full. Else prove '..UptoSaid'. A law counts once. -/
mutual
def uptoBulk {H : Type} : DataW H → Nat
  | .lit (.string bytes) => bytes.length + 1
  | .lit _ => 1
  | .nil => 1
  | .ptr d => uptoBulk d + 1
  | .slice elems spare => uptoBulkAll elems + uptoBulkAll spare + 1
  | .agg parts => uptoBulkAll parts + 1
  | .iface _ d => uptoBulk d + 1
  | .map entries => uptoBulkEntries entries + 1
  | .held _ => 1
def uptoBulkAll {H : Type} : List (DataW H) → Nat
  | [] => 0
  | d :: r => uptoBulk d + uptoBulkAll r
def uptoBulkEntries {H : Type} : List (Lit × DataW H) → Nat
  | [] => 0
  | x :: r => uptoBulkEntry x + uptoBulkEntries r
def uptoBulkEntry {H : Type} : Lit × DataW H → Nat
  | (.string bytes, d) => bytes.length + uptoBulk d + 1
  | (_, d) => uptoBulk d + 1
 end
def uptoSmall : (H : Type) → List (DataW H) → Bool := fun _ ds => decide (uptoBulkAll ds ≤ 1048576)
def OpenSpec.upto (s : _root_.Go.ChangeSpec) : _root_.Go.OpenSpec := { _root_.Go.OpenSpec.ofChange s with cond := some uptoSmall }

/-- 'laws.FnExactMsgOk', WHERE WHAT IT READS IS OF BULK AT MOST 1048576: true; the input reads as it did. -/
def fnExactMsgOkUptoRow : OpenClaim := { program := "ytphlmaaplaaopaa", sum := "2a222ee760efe77a293d6fd6cb8c8fc4b669f0d45c039cf8292d92ebef136565", func := "loop.example/g00100/laws.FnExactMsgOk", spec := "fnExactMsgOk", inPlace := ["internal/abi.NoEscape"], unfollowed := true, recurses := true, apart := false, narrowed := true }
def FnExactMsgOkUptoSaid : Prop := fnExactMsgOkUptoRow.holds Try.pinned (OpenSpec.upto fnExactMsgOkSpec)

/-- 'laws.FnExactTalkStart', WHERE WHAT IT READS IS OF BULK AT MOST 1048576: true; the input reads as it did. -/
def fnExactTalkStartUptoRow : OpenClaim := { program := "ytphlmaaplaaopaa", sum := "2a222ee760efe77a293d6fd6cb8c8fc4b669f0d45c039cf8292d92ebef136565", func := "loop.example/g00100/laws.FnExactTalkStart", spec := "fnExactTalkStart", unfollowed := true, recurses := true, apart := false, narrowed := true }
def FnExactTalkStartUptoSaid : Prop := fnExactTalkStartUptoRow.holds Try.pinned (OpenSpec.upto fnExactTalkStartSpec)

/-- 'laws.FnExactPutMsg', WHERE WHAT IT READS IS OF BULK AT MOST 1048576: true; the input reads as it did. -/
def fnExactPutMsgUptoRow : OpenClaim := { program := "ytphlmaaplaaopaa", sum := "2a222ee760efe77a293d6fd6cb8c8fc4b669f0d45c039cf8292d92ebef136565", func := "loop.example/g00100/laws.FnExactPutMsg", spec := "fnExactPutMsg", inPlace := ["internal/abi.NoEscape"], unfollowed := true, recurses := true, apart := false, narrowed := true }
def FnExactPutMsgUptoSaid : Prop := fnExactPutMsgUptoRow.holds Try.pinned (OpenSpec.upto fnExactPutMsgSpec)

/-- 'laws.FnExactGetMsg', WHERE WHAT IT READS IS OF BULK AT MOST 1048576: true; the input reads as it did. -/
def fnExactGetMsgUptoRow : OpenClaim := { program := "ytphlmaaplaaopaa", sum := "2a222ee760efe77a293d6fd6cb8c8fc4b669f0d45c039cf8292d92ebef136565", func := "loop.example/g00100/laws.FnExactGetMsg", spec := "fnExactGetMsg", inPlace := ["internal/abi.NoEscape"], unfollowed := true, recurses := true, apart := false, narrowed := true }
def FnExactGetMsgUptoSaid : Prop := fnExactGetMsgUptoRow.holds Try.pinned (OpenSpec.upto fnExactGetMsgSpec)

end Rows
end Go.Proofs.Ytphlmaaplaaopaa
