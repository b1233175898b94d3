/-
  DERIVED. GIVEN WITH THE SEED: THE CARDS: each row of YtbbgmokpniigfaaDoorRows.lean that lists a variable, with what it lists TIED to the program's text (the seventh form; the later family's looks); each row that meets fmt, with fmt's text TOLD by the authors' own Lean function (tested against real Go, not proved from fmt's source: count such statements apart). THE CARD IS WHAT COUNTS. Prove the row's statement (the work); the ties are given (YtbbgmokpniigfaaDoorTie.lean); close each card by the builder's one call (the guide's Derived/Test/ToyasCard.lean, 'card_holds'). Laid BY PROGRAM, IN A SANDBOX (cutbox-door.mjs). By AI agents, Wed Nov 11 2026. No macro, syntax, notation, axiom, sorry.
-/
import Derived.Test.YtbbgmokpniigfaaDoorRows
import GoSem.ClaimSeven
namespace Go.Proofs.YtbbgmokpniigfaaDoor
namespace Rows

/-- THE TIED CARD OF 'bellwetherlaw02.UtfTexts'. -/
def utfTextsCard : Claim7 := { stood := { row := utfTextsRow, standIns := [], harness := (true, "c5eac881d84c7b59fac967308f8987c24e319df8c81648d98942817eb544db40"), looks := false }, kinds := [], alts := [], laidByText := true, laidKinds := [.data], laidTests := true, laidLooks := .later }
def UtfTextsCardSaid : Prop := Claim7.holds Tryd.pinned (.plain (OpenSpec.ofChange utfTextsSpec)) utfTextsCard

/-- THE TIED CARD OF 'bellwetherlaw02.UtfBack'. -/
def utfBackCard : Claim7 := { stood := { row := utfBackRow, standIns := [], harness := (true, "c5eac881d84c7b59fac967308f8987c24e319df8c81648d98942817eb544db40"), looks := false }, kinds := [], alts := [], laidByText := true, laidKinds := [.data], laidTests := true, laidLooks := .later }
def UtfBackCardSaid : Prop := Claim7.holds Tryd.pinned (.plain (OpenSpec.ofChange utfBackSpec)) utfBackCard

/-- THE TIED CARD OF 'bellwetherlaw02.UtfJoins'. -/
def utfJoinsCard : Claim7 := { stood := { row := utfJoinsRow, standIns := [], harness := (true, "c5eac881d84c7b59fac967308f8987c24e319df8c81648d98942817eb544db40"), looks := false }, kinds := [], alts := [], laidByText := true, laidKinds := [.data], laidTests := true, laidLooks := .later }
def UtfJoinsCardSaid : Prop := Claim7.holds Tryd.pinned (.plain (OpenSpec.ofChange utfJoinsSpec)) utfJoinsCard

/-- THE TIED CARD OF 'bellwetherlaw02.UtfCuts'. -/
def utfCutsCard : Claim7 := { stood := { row := utfCutsRow, standIns := [], harness := (true, "c5eac881d84c7b59fac967308f8987c24e319df8c81648d98942817eb544db40"), looks := false }, kinds := [], alts := [], laidByText := true, laidKinds := [.data], laidTests := true, laidLooks := .later }
def UtfCutsCardSaid : Prop := Claim7.holds Tryd.pinned (.plain (OpenSpec.ofChange utfCutsSpec)) utfCutsCard

/-- THE TIED CARD OF 'bellwetherlaw02.UtfOne'. -/
def utfOneCard : Claim7 := { stood := { row := utfOneRow, standIns := [], harness := (true, "c5eac881d84c7b59fac967308f8987c24e319df8c81648d98942817eb544db40"), looks := false }, kinds := [], alts := [], laidByText := true, laidKinds := [.data], laidTests := true, laidLooks := .later }
def UtfOneCardSaid : Prop := Claim7.holds Tryd.pinned (.plain (OpenSpec.ofChange utfOneSpec)) utfOneCard

/-- THE TIED CARD OF 'bellwetherlaw02.UtfChars'. -/
def utfCharsCard : Claim7 := { stood := { row := utfCharsRow, standIns := [], harness := (true, "c5eac881d84c7b59fac967308f8987c24e319df8c81648d98942817eb544db40"), looks := false }, kinds := [], alts := [], laidByText := true, laidKinds := [.data], laidTests := true, laidLooks := .later }
def UtfCharsCardSaid : Prop := Claim7.holds Tryd.pinned (.plain (OpenSpec.ofChange utfCharsSpec)) utfCharsCard

/-- THE TIED CARD OF 'bellwetherlaw02.UtfChar'. -/
def utfCharCard : Claim7 := { stood := { row := utfCharRow, standIns := [], harness := (true, "c5eac881d84c7b59fac967308f8987c24e319df8c81648d98942817eb544db40"), looks := false }, kinds := [], alts := [], laidByText := true, laidKinds := [.data], laidTests := true, laidLooks := .later }
def UtfCharCardSaid : Prop := Claim7.holds Tryd.pinned (.plain (OpenSpec.ofChange utfCharSpec)) utfCharCard

/-- THE SECOND FORM's CARD OF 'bellwetherlaw02.UtfTexts'. -/
def utfTextsUptoCard : Claim7 := { stood := { row := utfTextsUptoRow, standIns := [], harness := (true, "c5eac881d84c7b59fac967308f8987c24e319df8c81648d98942817eb544db40"), looks := false }, kinds := [], alts := [], laidByText := true, laidKinds := [.data], laidTests := true, laidLooks := .later }
def UtfTextsUptoCardSaid : Prop := Claim7.holds Tryd.pinned (.plain (OpenSpec.upto utfTextsSpec)) utfTextsUptoCard

/-- THE SECOND FORM's CARD OF 'bellwetherlaw02.UtfBack'. -/
def utfBackUptoCard : Claim7 := { stood := { row := utfBackUptoRow, standIns := [], harness := (true, "c5eac881d84c7b59fac967308f8987c24e319df8c81648d98942817eb544db40"), looks := false }, kinds := [], alts := [], laidByText := true, laidKinds := [.data], laidTests := true, laidLooks := .later }
def UtfBackUptoCardSaid : Prop := Claim7.holds Tryd.pinned (.plain (OpenSpec.upto utfBackSpec)) utfBackUptoCard

/-- THE SECOND FORM's CARD OF 'bellwetherlaw02.UtfJoins'. -/
def utfJoinsUptoCard : Claim7 := { stood := { row := utfJoinsUptoRow, standIns := [], harness := (true, "c5eac881d84c7b59fac967308f8987c24e319df8c81648d98942817eb544db40"), looks := false }, kinds := [], alts := [], laidByText := true, laidKinds := [.data], laidTests := true, laidLooks := .later }
def UtfJoinsUptoCardSaid : Prop := Claim7.holds Tryd.pinned (.plain (OpenSpec.upto utfJoinsSpec)) utfJoinsUptoCard

/-- THE SECOND FORM's CARD OF 'bellwetherlaw02.UtfCuts'. -/
def utfCutsUptoCard : Claim7 := { stood := { row := utfCutsUptoRow, standIns := [], harness := (true, "c5eac881d84c7b59fac967308f8987c24e319df8c81648d98942817eb544db40"), looks := false }, kinds := [], alts := [], laidByText := true, laidKinds := [.data], laidTests := true, laidLooks := .later }
def UtfCutsUptoCardSaid : Prop := Claim7.holds Tryd.pinned (.plain (OpenSpec.upto utfCutsSpec)) utfCutsUptoCard

/-- THE SECOND FORM's CARD OF 'bellwetherlaw02.UtfOne'. -/
def utfOneUptoCard : Claim7 := { stood := { row := utfOneUptoRow, standIns := [], harness := (true, "c5eac881d84c7b59fac967308f8987c24e319df8c81648d98942817eb544db40"), looks := false }, kinds := [], alts := [], laidByText := true, laidKinds := [.data], laidTests := true, laidLooks := .later }
def UtfOneUptoCardSaid : Prop := Claim7.holds Tryd.pinned (.plain (OpenSpec.upto utfOneSpec)) utfOneUptoCard

/-- THE SECOND FORM's CARD OF 'bellwetherlaw02.UtfChars'. -/
def utfCharsUptoCard : Claim7 := { stood := { row := utfCharsUptoRow, standIns := [], harness := (true, "c5eac881d84c7b59fac967308f8987c24e319df8c81648d98942817eb544db40"), looks := false }, kinds := [], alts := [], laidByText := true, laidKinds := [.data], laidTests := true, laidLooks := .later }
def UtfCharsUptoCardSaid : Prop := Claim7.holds Tryd.pinned (.plain (OpenSpec.upto utfCharsSpec)) utfCharsUptoCard

/-- THE SECOND FORM's CARD OF 'bellwetherlaw02.UtfChar'. -/
def utfCharUptoCard : Claim7 := { stood := { row := utfCharUptoRow, standIns := [], harness := (true, "c5eac881d84c7b59fac967308f8987c24e319df8c81648d98942817eb544db40"), looks := false }, kinds := [], alts := [], laidByText := true, laidKinds := [.data], laidTests := true, laidLooks := .later }
def UtfCharUptoCardSaid : Prop := Claim7.holds Tryd.pinned (.plain (OpenSpec.upto utfCharSpec)) utfCharUptoCard
end Rows
end Go.Proofs.YtbbgmokpniigfaaDoor
