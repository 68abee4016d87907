/-
  DERIVED. GIVEN WITH THE SEED: THE CARDS: each row of YtadiljnfkbbmcaaDoorRows.lean that lists a variable, with what it lists TIED to the program's text (the seventh form; the later family's looks); each row that meets fmt, with fmt's text TOLD by the authors' own Lean function (tested against real Go, not proved from fmt's source: count such statements apart). THE CARD IS WHAT COUNTS. Prove the row's statement (the work); the ties are given (YtadiljnfkbbmcaaDoorTie.lean); close each card by the builder's one call (the guide's Derived/Test/ToyasCard.lean, 'card_holds'). Laid BY PROGRAM, IN A SANDBOX (cutbox-door.mjs). By AI agents, Wed Nov 11 2026. No macro, syntax, notation, axiom, sorry.
-/
import Derived.Test.YtadiljnfkbbmcaaDoorRows
import GoSem.ClaimSeven
namespace Go.Proofs.YtadiljnfkbbmcaaDoor
namespace Rows

/-- THE TIED CARD OF 'posthornlaw22.SaslShown'. -/
def saslShownCard : Claim7 := { stood := { row := saslShownRow, standIns := [], harness := (true, "798c5676cb20d4454a050a2447af43f1122dcc9982a2f8063e3dec48050353da"), looks := true }, kinds := [], alts := [], laidByText := true, laidKinds := [.data, .data], laidTests := true, laidLooks := .later }
def SaslShownCardSaid : Prop := Claim7.holds Tryd.pinned (.plain (OpenSpec.ofChange saslShownSpec)) saslShownCard

/-- THE TIED CARD OF 'posthornlaw22.SaslStale'. -/
def saslStaleCard : Claim7 := { stood := { row := saslStaleRow, standIns := [], harness := (true, "798c5676cb20d4454a050a2447af43f1122dcc9982a2f8063e3dec48050353da"), looks := true }, kinds := [], alts := [], laidByText := true, laidKinds := [.data, .data], laidTests := true, laidLooks := .later }
def SaslStaleCardSaid : Prop := Claim7.holds Tryd.pinned (.plain (OpenSpec.ofChange saslStaleSpec)) saslStaleCard

/-- THE TIED CARD OF 'posthornlaw22.SaslOthers'. -/
def saslOthersCard : Claim7 := { stood := { row := saslOthersRow, standIns := [], harness := (true, "798c5676cb20d4454a050a2447af43f1122dcc9982a2f8063e3dec48050353da"), looks := true }, kinds := [], alts := [], laidByText := true, laidKinds := [.data, .data], laidTests := true, laidLooks := .later }
def SaslOthersCardSaid : Prop := Claim7.holds Tryd.pinned (.plain (OpenSpec.ofChange saslOthersSpec)) saslOthersCard

/-- THE SECOND FORM's CARD OF 'posthornlaw22.SaslShown'. -/
def saslShownUptoCard : Claim7 := { stood := { row := saslShownUptoRow, standIns := [], harness := (true, "798c5676cb20d4454a050a2447af43f1122dcc9982a2f8063e3dec48050353da"), looks := true }, kinds := [], alts := [], laidByText := true, laidKinds := [.data, .data], laidTests := true, laidLooks := .later }
def SaslShownUptoCardSaid : Prop := Claim7.holds Tryd.pinned (.plain (OpenSpec.upto saslShownSpec)) saslShownUptoCard

/-- THE SECOND FORM's CARD OF 'posthornlaw22.SaslStale'. -/
def saslStaleUptoCard : Claim7 := { stood := { row := saslStaleUptoRow, standIns := [], harness := (true, "798c5676cb20d4454a050a2447af43f1122dcc9982a2f8063e3dec48050353da"), looks := true }, kinds := [], alts := [], laidByText := true, laidKinds := [.data, .data], laidTests := true, laidLooks := .later }
def SaslStaleUptoCardSaid : Prop := Claim7.holds Tryd.pinned (.plain (OpenSpec.upto saslStaleSpec)) saslStaleUptoCard

/-- THE SECOND FORM's CARD OF 'posthornlaw22.SaslOthers'. -/
def saslOthersUptoCard : Claim7 := { stood := { row := saslOthersUptoRow, standIns := [], harness := (true, "798c5676cb20d4454a050a2447af43f1122dcc9982a2f8063e3dec48050353da"), looks := true }, kinds := [], alts := [], laidByText := true, laidKinds := [.data, .data], laidTests := true, laidLooks := .later }
def SaslOthersUptoCardSaid : Prop := Claim7.holds Tryd.pinned (.plain (OpenSpec.upto saslOthersSpec)) saslOthersUptoCard
end Rows
end Go.Proofs.YtadiljnfkbbmcaaDoor
