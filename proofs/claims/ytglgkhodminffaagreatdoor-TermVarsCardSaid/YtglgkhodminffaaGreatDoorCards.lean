/-
  DERIVED. GIVEN WITH THE SEED: THE CARDS: each row of YtglgkhodminffaaGreatDoorRows.lean that lists a variable, with what it lists TIED to the program's text (the seventh form; the later family's looks); each row that meets fmt, with fmt's text TOLD by the authors' own Lean function (tested against real Go, not proved from fmt's source: count such statements apart). THE CARD IS WHAT COUNTS. Prove the row's statement (the work); the ties are given (YtglgkhodminffaaGreatDoorTie.lean); close each card by the builder's one call (the guide's Derived/Test/ToyasCard.lean, 'card_holds'). Laid BY PROGRAM, IN A SANDBOX (cutbox-door.mjs). By AI agents, Wed Nov 11 2026. No macro, syntax, notation, axiom, sorry.
-/
import Derived.Test.YtglgkhodminffaaGreatDoorRows
import GoSem.ClaimSeven
namespace Go.Proofs.YtglgkhodminffaaGreatDoor
namespace Rows

/-- THE TIED CARD OF 'touchstonelaw07.TermJudges'. -/
def termJudgesCard : Claim7 := { stood := { row := termJudgesRow, standIns := [], harness := (true, "9d0aa53789ba8d0748230f75465fd37a538eda4db994ac76c886f42fff0e0f34"), looks := true }, kinds := [], alts := [], laidByText := true, laidKinds := [.data, .data, .data, .data, .sentinel, .sentinel, .pinned], laidTests := true, laidLooks := .later }
def TermJudgesCardSaid : Prop := Claim7.holds Tryz.pinned (.plain (OpenSpec.ofChange termJudgesSpec)) termJudgesCard

/-- THE TIED CARD OF 'touchstonelaw07.TermSames'. -/
def termSamesCard : Claim7 := { stood := { row := termSamesRow, standIns := [], harness := (true, "9d0aa53789ba8d0748230f75465fd37a538eda4db994ac76c886f42fff0e0f34"), looks := true }, kinds := [], alts := [], laidByText := true, laidKinds := [.data, .data, .data, .data, .sentinel, .sentinel, .pinned], laidTests := true, laidLooks := .later }
def TermSamesCardSaid : Prop := Claim7.holds Tryz.pinned (.plain (OpenSpec.ofChange termSamesSpec)) termSamesCard

/-- THE TIED CARD OF 'touchstonelaw07.TermVars'. -/
def termVarsCard : Claim7 := { stood := { row := termVarsRow, standIns := [], harness := (true, "9d0aa53789ba8d0748230f75465fd37a538eda4db994ac76c886f42fff0e0f34"), looks := true }, kinds := [], alts := [], laidByText := true, laidKinds := [.data, .data, .data, .data, .sentinel, .sentinel, .pinned], laidTests := true, laidLooks := .later }
def TermVarsCardSaid : Prop := Claim7.holds Tryz.pinned (.plain (OpenSpec.ofChange termVarsSpec)) termVarsCard

/-- THE TIED CARD OF 'touchstonelaw07.TermTwice'. -/
def termTwiceCard : Claim7 := { stood := { row := termTwiceRow, standIns := [], harness := (true, "9d0aa53789ba8d0748230f75465fd37a538eda4db994ac76c886f42fff0e0f34"), looks := true }, kinds := [], alts := [], laidByText := true, laidKinds := [.data, .data, .data, .data, .sentinel, .sentinel, .pinned], laidTests := true, laidLooks := .later }
def TermTwiceCardSaid : Prop := Claim7.holds Tryz.pinned (.plain (OpenSpec.ofChange termTwiceSpec)) termTwiceCard

/-- THE SECOND FORM's CARD OF 'touchstonelaw07.TermJudges'. -/
def termJudgesUptoCard : Claim7 := { stood := { row := termJudgesUptoRow, standIns := [], harness := (true, "9d0aa53789ba8d0748230f75465fd37a538eda4db994ac76c886f42fff0e0f34"), looks := true }, kinds := [], alts := [], laidByText := true, laidKinds := [.data, .data, .data, .data, .sentinel, .sentinel, .pinned], laidTests := true, laidLooks := .later }
def TermJudgesUptoCardSaid : Prop := Claim7.holds Tryz.pinned (.plain (OpenSpec.upto termJudgesSpec)) termJudgesUptoCard

/-- THE SECOND FORM's CARD OF 'touchstonelaw07.TermSames'. -/
def termSamesUptoCard : Claim7 := { stood := { row := termSamesUptoRow, standIns := [], harness := (true, "9d0aa53789ba8d0748230f75465fd37a538eda4db994ac76c886f42fff0e0f34"), looks := true }, kinds := [], alts := [], laidByText := true, laidKinds := [.data, .data, .data, .data, .sentinel, .sentinel, .pinned], laidTests := true, laidLooks := .later }
def TermSamesUptoCardSaid : Prop := Claim7.holds Tryz.pinned (.plain (OpenSpec.upto termSamesSpec)) termSamesUptoCard

/-- THE SECOND FORM's CARD OF 'touchstonelaw07.TermVars'. -/
def termVarsUptoCard : Claim7 := { stood := { row := termVarsUptoRow, standIns := [], harness := (true, "9d0aa53789ba8d0748230f75465fd37a538eda4db994ac76c886f42fff0e0f34"), looks := true }, kinds := [], alts := [], laidByText := true, laidKinds := [.data, .data, .data, .data, .sentinel, .sentinel, .pinned], laidTests := true, laidLooks := .later }
def TermVarsUptoCardSaid : Prop := Claim7.holds Tryz.pinned (.plain (OpenSpec.upto termVarsSpec)) termVarsUptoCard

/-- THE SECOND FORM's CARD OF 'touchstonelaw07.TermTwice'. -/
def termTwiceUptoCard : Claim7 := { stood := { row := termTwiceUptoRow, standIns := [], harness := (true, "9d0aa53789ba8d0748230f75465fd37a538eda4db994ac76c886f42fff0e0f34"), looks := true }, kinds := [], alts := [], laidByText := true, laidKinds := [.data, .data, .data, .data, .sentinel, .sentinel, .pinned], laidTests := true, laidLooks := .later }
def TermTwiceUptoCardSaid : Prop := Claim7.holds Tryz.pinned (.plain (OpenSpec.upto termTwiceSpec)) termTwiceUptoCard
end Rows
end Go.Proofs.YtglgkhodminffaaGreatDoor
