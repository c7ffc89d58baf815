/-
  DERIVED. GIVEN WITH THE SEED: THE CARDS: each row of YtogfddilolannaaDoorRows.lean that lists a variable, with what it lists TIED to the program's text (the seventh form; the later family's looks); each row that meets fmt, with fmt's text TOLD by the authors' own Lean function (tested against real Go, not proved from fmt's source: count such statements apart). THE CARD IS WHAT COUNTS. Prove the row's statement (the work); the ties are given (YtogfddilolannaaDoorTie.lean); close each card by the builder's one call (the guide's Derived/Test/ToyasCard.lean, 'card_holds'). Laid BY PROGRAM, IN A SANDBOX (cutbox-door.mjs). By AI agents, Wed Nov 11 2026. No macro, syntax, notation, axiom, sorry.
-/
import Derived.Test.YtogfddilolannaaDoorRows
import GoSem.ClaimSeven
namespace Go.Proofs.YtogfddilolannaaDoor
namespace Rows

/-- THE TIED CARD OF 'laws.FnExactShowNode'. -/
def fnExactShowNodeCard : Claim7 := { stood := { row := fnExactShowNodeRow, standIns := [], harness := (true, "bcfba9008404a3e128d7caa0b819f38335f1f819ca607ba202aab1b27b9759c5"), looks := true }, kinds := [], alts := [], laidByText := true, laidKinds := [.data, .data, .data, .data, .pinned], laidTests := true, laidLooks := .later }
def FnExactShowNodeCardSaid : Prop := Claim7.holds Tryd.pinned (.plain (OpenSpec.ofChange fnExactShowNodeSpec)) fnExactShowNodeCard

/-- THE TIED CARD OF 'laws.FnExactGetEntries'. -/
def fnExactGetEntriesCard : Claim7 := { stood := { row := fnExactGetEntriesRow, standIns := [], harness := (true, "bcfba9008404a3e128d7caa0b819f38335f1f819ca607ba202aab1b27b9759c5"), looks := true }, kinds := [], alts := [], laidByText := true, laidKinds := [.data, .pinned], laidTests := true, laidLooks := .later }
def FnExactGetEntriesCardSaid : Prop := Claim7.holds Tryd.pinned (.plain (OpenSpec.ofChange fnExactGetEntriesSpec)) fnExactGetEntriesCard

/-- THE TIED CARD OF 'laws.FnEntries'. -/
def fnEntriesCard : Claim7 := { stood := { row := fnEntriesRow, standIns := [], harness := (true, "bcfba9008404a3e128d7caa0b819f38335f1f819ca607ba202aab1b27b9759c5"), looks := true }, kinds := [], alts := [], laidByText := true, laidKinds := [.data, .pinned], laidTests := true, laidLooks := .later }
def FnEntriesCardSaid : Prop := Claim7.holds Tryd.pinned (.plain (OpenSpec.ofChange fnEntriesSpec)) fnEntriesCard

/-- THE TIED CARD OF 'laws.FnExactShowTree'. -/
def fnExactShowTreeCard : Claim7 := { stood := { row := fnExactShowTreeRow, standIns := [], harness := (true, "bcfba9008404a3e128d7caa0b819f38335f1f819ca607ba202aab1b27b9759c5"), looks := true }, kinds := [], alts := [], laidByText := true, laidKinds := [.data, .data, .data, .data, .pinned], laidTests := true, laidLooks := .later }
def FnExactShowTreeCardSaid : Prop := Claim7.holds Tryd.pinned (.plain (OpenSpec.ofChange fnExactShowTreeSpec)) fnExactShowTreeCard

/-- THE TIED CARD OF 'laws.FnExactReadNode'. -/
def fnExactReadNodeCard : Claim7 := { stood := { row := fnExactReadNodeRow, standIns := [], harness := (true, "bcfba9008404a3e128d7caa0b819f38335f1f819ca607ba202aab1b27b9759c5"), looks := true }, kinds := [], alts := [], laidByText := true, laidKinds := [.data, .data, .data, .data, .sentinel, .sentinel, .pinned], laidTests := true, laidLooks := .later }
def FnExactReadNodeCardSaid : Prop := Claim7.holds Tryd.pinned (.plain (OpenSpec.ofChange fnExactReadNodeSpec)) fnExactReadNodeCard

/-- THE SECOND FORM's CARD OF 'laws.FnExactShowNode'. -/
def fnExactShowNodeUptoCard : Claim7 := { stood := { row := fnExactShowNodeUptoRow, standIns := [], harness := (true, "bcfba9008404a3e128d7caa0b819f38335f1f819ca607ba202aab1b27b9759c5"), looks := true }, kinds := [], alts := [], laidByText := true, laidKinds := [.data, .data, .data, .data, .pinned], laidTests := true, laidLooks := .later }
def FnExactShowNodeUptoCardSaid : Prop := Claim7.holds Tryd.pinned (.plain (OpenSpec.upto fnExactShowNodeSpec)) fnExactShowNodeUptoCard

/-- THE SECOND FORM's CARD OF 'laws.FnExactGetEntries'. -/
def fnExactGetEntriesUptoCard : Claim7 := { stood := { row := fnExactGetEntriesUptoRow, standIns := [], harness := (true, "bcfba9008404a3e128d7caa0b819f38335f1f819ca607ba202aab1b27b9759c5"), looks := true }, kinds := [], alts := [], laidByText := true, laidKinds := [.data, .pinned], laidTests := true, laidLooks := .later }
def FnExactGetEntriesUptoCardSaid : Prop := Claim7.holds Tryd.pinned (.plain (OpenSpec.upto fnExactGetEntriesSpec)) fnExactGetEntriesUptoCard

/-- THE SECOND FORM's CARD OF 'laws.FnEntries'. -/
def fnEntriesUptoCard : Claim7 := { stood := { row := fnEntriesUptoRow, standIns := [], harness := (true, "bcfba9008404a3e128d7caa0b819f38335f1f819ca607ba202aab1b27b9759c5"), looks := true }, kinds := [], alts := [], laidByText := true, laidKinds := [.data, .pinned], laidTests := true, laidLooks := .later }
def FnEntriesUptoCardSaid : Prop := Claim7.holds Tryd.pinned (.plain (OpenSpec.upto fnEntriesSpec)) fnEntriesUptoCard

/-- THE SECOND FORM's CARD OF 'laws.FnExactShowTree'. -/
def fnExactShowTreeUptoCard : Claim7 := { stood := { row := fnExactShowTreeUptoRow, standIns := [], harness := (true, "bcfba9008404a3e128d7caa0b819f38335f1f819ca607ba202aab1b27b9759c5"), looks := true }, kinds := [], alts := [], laidByText := true, laidKinds := [.data, .data, .data, .data, .pinned], laidTests := true, laidLooks := .later }
def FnExactShowTreeUptoCardSaid : Prop := Claim7.holds Tryd.pinned (.plain (OpenSpec.upto fnExactShowTreeSpec)) fnExactShowTreeUptoCard

/-- THE SECOND FORM's CARD OF 'laws.FnExactReadNode'. -/
def fnExactReadNodeUptoCard : Claim7 := { stood := { row := fnExactReadNodeUptoRow, standIns := [], harness := (true, "bcfba9008404a3e128d7caa0b819f38335f1f819ca607ba202aab1b27b9759c5"), looks := true }, kinds := [], alts := [], laidByText := true, laidKinds := [.data, .data, .data, .data, .sentinel, .sentinel, .pinned], laidTests := true, laidLooks := .later }
def FnExactReadNodeUptoCardSaid : Prop := Claim7.holds Tryd.pinned (.plain (OpenSpec.upto fnExactReadNodeSpec)) fnExactReadNodeUptoCard
end Rows
end Go.Proofs.YtogfddilolannaaDoor
