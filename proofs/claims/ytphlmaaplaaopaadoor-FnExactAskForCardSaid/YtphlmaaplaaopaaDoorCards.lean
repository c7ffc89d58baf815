/-
  DERIVED. GIVEN WITH THE SEED: THE CARDS: each row of YtphlmaaplaaopaaDoorRows.lean that lists a variable, with what it lists TIED to the program's text (the seventh form; the later family's looks); each row that meets fmt, with fmt's text TOLD by the authors' own Lean function (tested against real Go, not proved from fmt's source: count such statements apart). THE CARD IS WHAT COUNTS. Prove the row's statement (the work); the ties are given (YtphlmaaplaaopaaDoorTie.lean); close each card by the builder's one call (the guide's Derived/Test/ToyasCard.lean, 'card_holds'). Laid BY PROGRAM, IN A SANDBOX (cutbox-door.mjs). By AI agents, Wed Nov 11 2026. No macro, syntax, notation, axiom, sorry.
-/
import Derived.Test.YtphlmaaplaaopaaDoorRows
import GoSem.ClaimSeven
namespace Go.Proofs.YtphlmaaplaaopaaDoor
namespace Rows

/-- THE TIED CARD OF 'laws.FnExactAskFor'. -/
def fnExactAskForCard : Claim7 := { stood := { row := fnExactAskForRow, standIns := [], harness := (true, "32569e8e61cc2976c0ccfe3fb16f8af834f97137328dbdbad44a660b6c1d89a9"), looks := false }, kinds := [], alts := [], laidByText := true, laidKinds := [.data, .data], laidTests := true, laidLooks := .later }
def FnExactAskForCardSaid : Prop := Claim7.holds Tryd.pinned (.plain (OpenSpec.ofChange fnExactAskForSpec)) fnExactAskForCard

/-- THE TIED CARD OF 'laws.FnExactTakeAnswer'. -/
def fnExactTakeAnswerCard : Claim7 := { stood := { row := fnExactTakeAnswerRow, standIns := [], harness := (true, "32569e8e61cc2976c0ccfe3fb16f8af834f97137328dbdbad44a660b6c1d89a9"), looks := false }, kinds := [], alts := [], laidByText := true, laidKinds := [.data, .data], laidTests := true, laidLooks := .later }
def FnExactTakeAnswerCardSaid : Prop := Claim7.holds Tryd.pinned (.plain (OpenSpec.ofChange fnExactTakeAnswerSpec)) fnExactTakeAnswerCard

/-- THE TIED CARD OF 'laws.FnSig'. -/
def fnSigCard : Claim7 := { stood := { row := fnSigRow, standIns := [], harness := (true, "32569e8e61cc2976c0ccfe3fb16f8af834f97137328dbdbad44a660b6c1d89a9"), looks := false }, kinds := [], alts := [], laidByText := true, laidKinds := [.data, .data], laidTests := true, laidLooks := .later }
def FnSigCardSaid : Prop := Claim7.holds Tryd.pinned (.plain (OpenSpec.ofChange fnSigSpec)) fnSigCard

/-- THE TIED CARD OF 'laws.FnExactGetEntries'. -/
def fnExactGetEntriesCard : Claim7 := { stood := { row := fnExactGetEntriesRow, standIns := [], harness := (true, "32569e8e61cc2976c0ccfe3fb16f8af834f97137328dbdbad44a660b6c1d89a9"), looks := false }, kinds := [], alts := [], laidByText := true, laidKinds := [.data, .pinned], laidTests := true, laidLooks := .later }
def FnExactGetEntriesCardSaid : Prop := Claim7.holds Tryd.pinned (.plain (OpenSpec.ofChange fnExactGetEntriesSpec)) fnExactGetEntriesCard

/-- THE TIED CARD OF 'laws.FnExactShowNode'. -/
def fnExactShowNodeCard : Claim7 := { stood := { row := fnExactShowNodeRow, standIns := [], harness := (true, "32569e8e61cc2976c0ccfe3fb16f8af834f97137328dbdbad44a660b6c1d89a9"), looks := false }, kinds := [], alts := [], laidByText := true, laidKinds := [.data, .data, .data, .data, .pinned], laidTests := true, laidLooks := .later }
def FnExactShowNodeCardSaid : Prop := Claim7.holds Tryd.pinned (.plain (OpenSpec.ofChange fnExactShowNodeSpec)) fnExactShowNodeCard

/-- THE TIED CARD OF 'laws.FnExactAnswerTo'. -/
def fnExactAnswerToCard : Claim7 := { stood := { row := fnExactAnswerToRow, standIns := [], harness := (true, "32569e8e61cc2976c0ccfe3fb16f8af834f97137328dbdbad44a660b6c1d89a9"), looks := false }, kinds := [], alts := [], laidByText := true, laidKinds := [.data, .data], laidTests := true, laidLooks := .later }
def FnExactAnswerToCardSaid : Prop := Claim7.holds Tryd.pinned (.plain (OpenSpec.ofChange fnExactAnswerToSpec)) fnExactAnswerToCard

/-- THE SECOND FORM's CARD OF 'laws.FnExactAskFor'. -/
def fnExactAskForUptoCard : Claim7 := { stood := { row := fnExactAskForUptoRow, standIns := [], harness := (true, "32569e8e61cc2976c0ccfe3fb16f8af834f97137328dbdbad44a660b6c1d89a9"), looks := false }, kinds := [], alts := [], laidByText := true, laidKinds := [.data, .data], laidTests := true, laidLooks := .later }
def FnExactAskForUptoCardSaid : Prop := Claim7.holds Tryd.pinned (.plain (OpenSpec.upto fnExactAskForSpec)) fnExactAskForUptoCard

/-- THE SECOND FORM's CARD OF 'laws.FnExactTakeAnswer'. -/
def fnExactTakeAnswerUptoCard : Claim7 := { stood := { row := fnExactTakeAnswerUptoRow, standIns := [], harness := (true, "32569e8e61cc2976c0ccfe3fb16f8af834f97137328dbdbad44a660b6c1d89a9"), looks := false }, kinds := [], alts := [], laidByText := true, laidKinds := [.data, .data], laidTests := true, laidLooks := .later }
def FnExactTakeAnswerUptoCardSaid : Prop := Claim7.holds Tryd.pinned (.plain (OpenSpec.upto fnExactTakeAnswerSpec)) fnExactTakeAnswerUptoCard

/-- THE SECOND FORM's CARD OF 'laws.FnSig'. -/
def fnSigUptoCard : Claim7 := { stood := { row := fnSigUptoRow, standIns := [], harness := (true, "32569e8e61cc2976c0ccfe3fb16f8af834f97137328dbdbad44a660b6c1d89a9"), looks := false }, kinds := [], alts := [], laidByText := true, laidKinds := [.data, .data], laidTests := true, laidLooks := .later }
def FnSigUptoCardSaid : Prop := Claim7.holds Tryd.pinned (.plain (OpenSpec.upto fnSigSpec)) fnSigUptoCard

/-- THE SECOND FORM's CARD OF 'laws.FnExactGetEntries'. -/
def fnExactGetEntriesUptoCard : Claim7 := { stood := { row := fnExactGetEntriesUptoRow, standIns := [], harness := (true, "32569e8e61cc2976c0ccfe3fb16f8af834f97137328dbdbad44a660b6c1d89a9"), looks := false }, kinds := [], alts := [], laidByText := true, laidKinds := [.data, .pinned], laidTests := true, laidLooks := .later }
def FnExactGetEntriesUptoCardSaid : Prop := Claim7.holds Tryd.pinned (.plain (OpenSpec.upto fnExactGetEntriesSpec)) fnExactGetEntriesUptoCard

/-- THE SECOND FORM's CARD OF 'laws.FnExactShowNode'. -/
def fnExactShowNodeUptoCard : Claim7 := { stood := { row := fnExactShowNodeUptoRow, standIns := [], harness := (true, "32569e8e61cc2976c0ccfe3fb16f8af834f97137328dbdbad44a660b6c1d89a9"), looks := false }, kinds := [], alts := [], laidByText := true, laidKinds := [.data, .data, .data, .data, .pinned], laidTests := true, laidLooks := .later }
def FnExactShowNodeUptoCardSaid : Prop := Claim7.holds Tryd.pinned (.plain (OpenSpec.upto fnExactShowNodeSpec)) fnExactShowNodeUptoCard

/-- THE SECOND FORM's CARD OF 'laws.FnExactAnswerTo'. -/
def fnExactAnswerToUptoCard : Claim7 := { stood := { row := fnExactAnswerToUptoRow, standIns := [], harness := (true, "32569e8e61cc2976c0ccfe3fb16f8af834f97137328dbdbad44a660b6c1d89a9"), looks := false }, kinds := [], alts := [], laidByText := true, laidKinds := [.data, .data], laidTests := true, laidLooks := .later }
def FnExactAnswerToUptoCardSaid : Prop := Claim7.holds Tryd.pinned (.plain (OpenSpec.upto fnExactAnswerToSpec)) fnExactAnswerToUptoCard
end Rows
end Go.Proofs.YtphlmaaplaaopaaDoor
