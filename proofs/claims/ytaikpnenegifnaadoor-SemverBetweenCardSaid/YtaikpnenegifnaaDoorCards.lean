/-
  DERIVED. GIVEN WITH THE SEED: THE CARDS: each row of YtaikpnenegifnaaDoorRows.lean that lists a variable, with what it lists TIED to the program's text (the seventh form; the later family's looks); each row that meets fmt, with fmt's text TOLD by the authors' own Lean function (tested against real Go, not proved from fmt's source: count such statements apart). THE CARD IS WHAT COUNTS. Prove the row's statement (the work); the ties are given (YtaikpnenegifnaaDoorTie.lean); close each card by the builder's one call (the guide's Derived/Test/ToyasCard.lean, 'card_holds'). Laid BY PROGRAM, IN A SANDBOX (cutbox-door.mjs). By AI agents, Wed Nov 11 2026. No macro, syntax, notation, axiom, sorry.
-/
import Derived.Test.YtaikpnenegifnaaDoorRows
import GoSem.ClaimSeven
namespace Go.Proofs.YtaikpnenegifnaaDoor
namespace Rows

/-- THE TIED CARD OF 'touchstonelaw05.SemverReads'. -/
def semverReadsCard : Claim7 := { stood := { row := semverReadsRow, standIns := [], harness := (true, "5a4a9201423850891507583d6e2ab55fb965774b932b7a86fc06285e7c1b462d"), looks := true }, kinds := [], alts := [], laidByText := true, laidKinds := [.data, .data, .data, .data, .sentinel, .sentinel, .pinned], laidTests := true, laidLooks := .later }
def SemverReadsCardSaid : Prop := Claim7.holds Tryd.pinned (.plain (OpenSpec.ofChange semverReadsSpec)) semverReadsCard

/-- THE TIED CARD OF 'touchstonelaw05.SemverOrders'. -/
def semverOrdersCard : Claim7 := { stood := { row := semverOrdersRow, standIns := [], harness := (true, "5a4a9201423850891507583d6e2ab55fb965774b932b7a86fc06285e7c1b462d"), looks := true }, kinds := [], alts := [], laidByText := true, laidKinds := [.data, .data, .data, .data, .sentinel, .sentinel, .pinned], laidTests := true, laidLooks := .later }
def SemverOrdersCardSaid : Prop := Claim7.holds Tryd.pinned (.plain (OpenSpec.ofChange semverOrdersSpec)) semverOrdersCard

/-- THE TIED CARD OF 'touchstonelaw05.SemverNexts'. -/
def semverNextsCard : Claim7 := { stood := { row := semverNextsRow, standIns := [], harness := (true, "5a4a9201423850891507583d6e2ab55fb965774b932b7a86fc06285e7c1b462d"), looks := true }, kinds := [], alts := [], laidByText := true, laidKinds := [.data, .data, .data, .data, .sentinel, .sentinel, .pinned], laidTests := true, laidLooks := .later }
def SemverNextsCardSaid : Prop := Claim7.holds Tryd.pinned (.plain (OpenSpec.ofChange semverNextsSpec)) semverNextsCard

/-- THE TIED CARD OF 'touchstonelaw05.SemverBetween'. -/
def semverBetweenCard : Claim7 := { stood := { row := semverBetweenRow, standIns := [], harness := (true, "5a4a9201423850891507583d6e2ab55fb965774b932b7a86fc06285e7c1b462d"), looks := true }, kinds := [], alts := [], laidByText := true, laidKinds := [.data, .data, .data, .data, .sentinel, .sentinel, .pinned], laidTests := true, laidLooks := .later }
def SemverBetweenCardSaid : Prop := Claim7.holds Tryd.pinned (.plain (OpenSpec.ofChange semverBetweenSpec)) semverBetweenCard

/-- THE SECOND FORM's CARD OF 'touchstonelaw05.SemverReads'. -/
def semverReadsUptoCard : Claim7 := { stood := { row := semverReadsUptoRow, standIns := [], harness := (true, "5a4a9201423850891507583d6e2ab55fb965774b932b7a86fc06285e7c1b462d"), looks := true }, kinds := [], alts := [], laidByText := true, laidKinds := [.data, .data, .data, .data, .sentinel, .sentinel, .pinned], laidTests := true, laidLooks := .later }
def SemverReadsUptoCardSaid : Prop := Claim7.holds Tryd.pinned (.plain (OpenSpec.upto semverReadsSpec)) semverReadsUptoCard

/-- THE SECOND FORM's CARD OF 'touchstonelaw05.SemverOrders'. -/
def semverOrdersUptoCard : Claim7 := { stood := { row := semverOrdersUptoRow, standIns := [], harness := (true, "5a4a9201423850891507583d6e2ab55fb965774b932b7a86fc06285e7c1b462d"), looks := true }, kinds := [], alts := [], laidByText := true, laidKinds := [.data, .data, .data, .data, .sentinel, .sentinel, .pinned], laidTests := true, laidLooks := .later }
def SemverOrdersUptoCardSaid : Prop := Claim7.holds Tryd.pinned (.plain (OpenSpec.upto semverOrdersSpec)) semverOrdersUptoCard

/-- THE SECOND FORM's CARD OF 'touchstonelaw05.SemverNexts'. -/
def semverNextsUptoCard : Claim7 := { stood := { row := semverNextsUptoRow, standIns := [], harness := (true, "5a4a9201423850891507583d6e2ab55fb965774b932b7a86fc06285e7c1b462d"), looks := true }, kinds := [], alts := [], laidByText := true, laidKinds := [.data, .data, .data, .data, .sentinel, .sentinel, .pinned], laidTests := true, laidLooks := .later }
def SemverNextsUptoCardSaid : Prop := Claim7.holds Tryd.pinned (.plain (OpenSpec.upto semverNextsSpec)) semverNextsUptoCard

/-- THE SECOND FORM's CARD OF 'touchstonelaw05.SemverBetween'. -/
def semverBetweenUptoCard : Claim7 := { stood := { row := semverBetweenUptoRow, standIns := [], harness := (true, "5a4a9201423850891507583d6e2ab55fb965774b932b7a86fc06285e7c1b462d"), looks := true }, kinds := [], alts := [], laidByText := true, laidKinds := [.data, .data, .data, .data, .sentinel, .sentinel, .pinned], laidTests := true, laidLooks := .later }
def SemverBetweenUptoCardSaid : Prop := Claim7.holds Tryd.pinned (.plain (OpenSpec.upto semverBetweenSpec)) semverBetweenUptoCard
end Rows
end Go.Proofs.YtaikpnenegifnaaDoor
