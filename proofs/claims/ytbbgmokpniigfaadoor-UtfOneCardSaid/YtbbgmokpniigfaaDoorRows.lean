/-
  NARROWER THAN 'FOR EVERY INPUT', by the rows' own cells (each row's printed sentence says how): UtfTexts: laid · UtfBack: laid · UtfJoins: laid · UtfCuts: laid · UtfOne: laid · UtfChars: laid · UtfChar: laid.
  DERIVED. THE GIVEN ROWS OF THIS SEAT. 7 by the template 'for every input the law returns true; each argument reads behind the call as it read before'; 0 by the template 'total and deterministic' (their statements: YtbbgmokpniigfaaDoorTotals.lean).
  GIVEN WITH THE SEED: the statements are not yours to turn. If you find one false, say at which input.
  Laid BY PROGRAM, IN A SANDBOX (cutbox-rows.mjs): the forced cells as the released guide's own fill.sh prints them over the translation 4851782004ec59ec… (all of the seat's roots in one cut). By AI agents, Wed Nov 11 2026. No macro, syntax, notation, axiom, sorry.
-/
import Derived.Test.YtbbgmokpniigfaaDoorChecked
import GoSem.Claim
import GoSem.ClaimJoined
import GoSem.ClaimMapViews
import Derived.JoinedTies
import Derived.KernelRfl
namespace Go.Proofs.YtbbgmokpniigfaaDoor
/- THE CELL 'sum', in the pinned program and in every row, IS THE sha256 OF THE DUMP (.gsa) THAT YtbbgmokpniigfaaDoorProg.lean LOADS. Nothing in Lean hashes anything: it is a label: what it is worth is what the hold of that sum in a sandbox is worth. -/
noncomputable def Tryd.pinned : Pinned := { name := "ytbbgmokpniigfaadoor", sum := "4851782004ec59ec9e101ef7a1d57510b751d928b257bf90a9b78728a362ca3a", checked := Tryd.checked }
namespace Rows
def none {H : Type} : Left H := { results := [], args := [] }

/- WHAT THE LISTED PACKAGE-LEVEL VARIABLES READ AS WHEN THE CALL BEGINS. Each datum BY PROGRAM (the guide's laid-datum.mjs) off the statement by which the dump's own 'gosem.cut.vars' lays the variable. In a bare row this is a premise. The card (YtbbgmokpniigfaaDoorCards.lean) ties it to the program's text. -/
def laid_bellwether_utf_heads {H : Type} : DataW H := .agg [.lit (.int .u8 0), .lit (.int .u8 192), .lit (.int .u8 224), .lit (.int .u8 240)]

/-- 'bellwetherlaw02.UtfTexts': WHATEVER THE INPUT: true; the input reads as it did. -/
def utfTextsSpec : ChangeSpec := { name := "utfTexts", fn := fun _ => fun
  | [d1, d2] => { results := [.lit (.bool true)], args := [d1, d2] }
  | _ => none }
def utfTextsRow : OpenClaim := { program := "ytbbgmokpniigfaadoor", sum := "4851782004ec59ec9e101ef7a1d57510b751d928b257bf90a9b78728a362ca3a", func := "bellwether/bellwetherlaw02.UtfTexts", spec := "utfTexts", named := ["bellwether/utf.heads"], apart := false, laid := [("bellwether/utf.heads", laid_bellwether_utf_heads)] }
def UtfTextsSaid : Prop := utfTextsRow.holds Tryd.pinned (OpenSpec.ofChange utfTextsSpec)

/-- ITS FALSE NEIGHBOUR: 'it returns false'. Refute it at one input. -/
def utfTextsWrong : ChangeSpec := { name := "utfTexts", fn := fun _ => fun
  | [d1, d2] => { results := [.lit (.bool false)], args := [d1, d2] }
  | _ => none }
def UtfTextsWrongFalsely : Prop := utfTextsRow.holds Tryd.pinned (OpenSpec.ofChange utfTextsWrong)

/-- 'bellwetherlaw02.UtfBack': WHATEVER THE INPUT: true; the input reads as it did. -/
def utfBackSpec : ChangeSpec := { name := "utfBack", fn := fun _ => fun
  | [d1, d2] => { results := [.lit (.bool true)], args := [d1, d2] }
  | _ => none }
def utfBackRow : OpenClaim := { program := "ytbbgmokpniigfaadoor", sum := "4851782004ec59ec9e101ef7a1d57510b751d928b257bf90a9b78728a362ca3a", func := "bellwether/bellwetherlaw02.UtfBack", spec := "utfBack", named := ["bellwether/utf.heads"], apart := false, laid := [("bellwether/utf.heads", laid_bellwether_utf_heads)] }
def UtfBackSaid : Prop := utfBackRow.holds Tryd.pinned (OpenSpec.ofChange utfBackSpec)

/-- ITS FALSE NEIGHBOUR: 'it returns false'. Refute it at one input. -/
def utfBackWrong : ChangeSpec := { name := "utfBack", fn := fun _ => fun
  | [d1, d2] => { results := [.lit (.bool false)], args := [d1, d2] }
  | _ => none }
def UtfBackWrongFalsely : Prop := utfBackRow.holds Tryd.pinned (OpenSpec.ofChange utfBackWrong)

/-- 'bellwetherlaw02.UtfJoins': WHATEVER THE INPUT: true; the input reads as it did. -/
def utfJoinsSpec : ChangeSpec := { name := "utfJoins", fn := fun _ => fun
  | [d1, d2] => { results := [.lit (.bool true)], args := [d1, d2] }
  | _ => none }
def utfJoinsRow : OpenClaim := { program := "ytbbgmokpniigfaadoor", sum := "4851782004ec59ec9e101ef7a1d57510b751d928b257bf90a9b78728a362ca3a", func := "bellwether/bellwetherlaw02.UtfJoins", spec := "utfJoins", named := ["bellwether/utf.heads"], apart := false, laid := [("bellwether/utf.heads", laid_bellwether_utf_heads)] }
def UtfJoinsSaid : Prop := utfJoinsRow.holds Tryd.pinned (OpenSpec.ofChange utfJoinsSpec)

/-- ITS FALSE NEIGHBOUR: 'it returns false'. Refute it at one input. -/
def utfJoinsWrong : ChangeSpec := { name := "utfJoins", fn := fun _ => fun
  | [d1, d2] => { results := [.lit (.bool false)], args := [d1, d2] }
  | _ => none }
def UtfJoinsWrongFalsely : Prop := utfJoinsRow.holds Tryd.pinned (OpenSpec.ofChange utfJoinsWrong)

/-- 'bellwetherlaw02.UtfCuts': WHATEVER THE INPUT: true; the input reads as it did. -/
def utfCutsSpec : ChangeSpec := { name := "utfCuts", fn := fun _ => fun
  | [d1, d2] => { results := [.lit (.bool true)], args := [d1, d2] }
  | _ => none }
def utfCutsRow : OpenClaim := { program := "ytbbgmokpniigfaadoor", sum := "4851782004ec59ec9e101ef7a1d57510b751d928b257bf90a9b78728a362ca3a", func := "bellwether/bellwetherlaw02.UtfCuts", spec := "utfCuts", named := ["bellwether/utf.heads"], apart := false, laid := [("bellwether/utf.heads", laid_bellwether_utf_heads)] }
def UtfCutsSaid : Prop := utfCutsRow.holds Tryd.pinned (OpenSpec.ofChange utfCutsSpec)

/-- ITS FALSE NEIGHBOUR: 'it returns false'. Refute it at one input. -/
def utfCutsWrong : ChangeSpec := { name := "utfCuts", fn := fun _ => fun
  | [d1, d2] => { results := [.lit (.bool false)], args := [d1, d2] }
  | _ => none }
def UtfCutsWrongFalsely : Prop := utfCutsRow.holds Tryd.pinned (OpenSpec.ofChange utfCutsWrong)

/-- 'bellwetherlaw02.UtfOne': WHATEVER THE INPUT: true; the input reads as it did. -/
def utfOneSpec : ChangeSpec := { name := "utfOne", fn := fun _ => fun
  | [d1, d2] => { results := [.lit (.bool true)], args := [d1, d2] }
  | _ => none }
def utfOneRow : OpenClaim := { program := "ytbbgmokpniigfaadoor", sum := "4851782004ec59ec9e101ef7a1d57510b751d928b257bf90a9b78728a362ca3a", func := "bellwether/bellwetherlaw02.UtfOne", spec := "utfOne", named := ["bellwether/utf.heads"], apart := false, laid := [("bellwether/utf.heads", laid_bellwether_utf_heads)] }
def UtfOneSaid : Prop := utfOneRow.holds Tryd.pinned (OpenSpec.ofChange utfOneSpec)

/-- ITS FALSE NEIGHBOUR: 'it returns false'. Refute it at one input. -/
def utfOneWrong : ChangeSpec := { name := "utfOne", fn := fun _ => fun
  | [d1, d2] => { results := [.lit (.bool false)], args := [d1, d2] }
  | _ => none }
def UtfOneWrongFalsely : Prop := utfOneRow.holds Tryd.pinned (OpenSpec.ofChange utfOneWrong)

/-- 'bellwetherlaw02.UtfChars': WHATEVER THE INPUT: true; the input reads as it did. -/
def utfCharsSpec : ChangeSpec := { name := "utfChars", fn := fun _ => fun
  | [d] => { results := [.lit (.bool true)], args := [d] }
  | _ => none }
def utfCharsRow : OpenClaim := { program := "ytbbgmokpniigfaadoor", sum := "4851782004ec59ec9e101ef7a1d57510b751d928b257bf90a9b78728a362ca3a", func := "bellwether/bellwetherlaw02.UtfChars", spec := "utfChars", named := ["bellwether/utf.heads"], apart := false, laid := [("bellwether/utf.heads", laid_bellwether_utf_heads)] }
def UtfCharsSaid : Prop := utfCharsRow.holds Tryd.pinned (OpenSpec.ofChange utfCharsSpec)

/-- ITS FALSE NEIGHBOUR: 'it returns false'. Refute it at one input. -/
def utfCharsWrong : ChangeSpec := { name := "utfChars", fn := fun _ => fun
  | [d] => { results := [.lit (.bool false)], args := [d] }
  | _ => none }
def UtfCharsWrongFalsely : Prop := utfCharsRow.holds Tryd.pinned (OpenSpec.ofChange utfCharsWrong)

/-- 'bellwetherlaw02.UtfChar': WHATEVER THE INPUT: true; the input reads as it did. -/
def utfCharSpec : ChangeSpec := { name := "utfChar", fn := fun _ => fun
  | [d] => { results := [.lit (.bool true)], args := [d] }
  | _ => none }
def utfCharRow : OpenClaim := { program := "ytbbgmokpniigfaadoor", sum := "4851782004ec59ec9e101ef7a1d57510b751d928b257bf90a9b78728a362ca3a", func := "bellwether/bellwetherlaw02.UtfChar", spec := "utfChar", named := ["bellwether/utf.heads"], apart := false, laid := [("bellwether/utf.heads", laid_bellwether_utf_heads)] }
def UtfCharSaid : Prop := utfCharRow.holds Tryd.pinned (OpenSpec.ofChange utfCharSpec)

/-- ITS FALSE NEIGHBOUR: 'it returns false'. Refute it at one input. -/
def utfCharWrong : ChangeSpec := { name := "utfChar", fn := fun _ => fun
  | [d] => { results := [.lit (.bool false)], args := [d] }
  | _ => none }
def UtfCharWrongFalsely : Prop := utfCharRow.holds Tryd.pinned (OpenSpec.ofChange utfCharWrong)

/- THE SECOND FORM. 'bulk': how many values and letters a reading holds, each counted each time it is reached (what is shared counts as often as it is met; a slice's spare places count too). A statement '..UptoSaid' is the law's where the arguments, and the package variables that the reading takes, are together of bulk at most 1048576: NARROWER than '..Said'. Prove '..Said' where nothing that the law and all that it calls make is longer than what came in: it says more and counts as full. Else prove '..UptoSaid'. A law counts once. -/
mutual
def uptoBulk {H : Type} : DataW H → Nat
  | .lit (.string bytes) => bytes.length + 1
  | .lit _ => 1
  | .nil => 1
  | .ptr d => uptoBulk d + 1
  | .slice elems spare => uptoBulkAll elems + uptoBulkAll spare + 1
  | .agg parts => uptoBulkAll parts + 1
  | .iface _ d => uptoBulk d + 1
  | .map entries => uptoBulkEntries entries + 1
  | .held _ => 1
def uptoBulkAll {H : Type} : List (DataW H) → Nat
  | [] => 0
  | d :: r => uptoBulk d + uptoBulkAll r
def uptoBulkEntries {H : Type} : List (Lit × DataW H) → Nat
  | [] => 0
  | x :: r => uptoBulkEntry x + uptoBulkEntries r
def uptoBulkEntry {H : Type} : Lit × DataW H → Nat
  | (.string bytes, d) => bytes.length + uptoBulk d + 1
  | (_, d) => uptoBulk d + 1
 end
def uptoSmall : (H : Type) → List (DataW H) → Bool := fun _ ds => decide (uptoBulkAll ds ≤ 1048576)
def OpenSpec.upto (s : _root_.Go.ChangeSpec) : _root_.Go.OpenSpec := { _root_.Go.OpenSpec.ofChange s with cond := some uptoSmall }

/-- 'bellwetherlaw02.UtfTexts', WHERE WHAT IT READS IS OF BULK AT MOST 1048576: true; the input reads as it did. -/
def utfTextsUptoRow : OpenClaim := { program := "ytbbgmokpniigfaadoor", sum := "4851782004ec59ec9e101ef7a1d57510b751d928b257bf90a9b78728a362ca3a", func := "bellwether/bellwetherlaw02.UtfTexts", spec := "utfTexts", named := ["bellwether/utf.heads"], apart := false, laid := [("bellwether/utf.heads", laid_bellwether_utf_heads)], narrowed := true }
def UtfTextsUptoSaid : Prop := utfTextsUptoRow.holds Tryd.pinned (OpenSpec.upto utfTextsSpec)

/-- 'bellwetherlaw02.UtfBack', WHERE WHAT IT READS IS OF BULK AT MOST 1048576: true; the input reads as it did. -/
def utfBackUptoRow : OpenClaim := { program := "ytbbgmokpniigfaadoor", sum := "4851782004ec59ec9e101ef7a1d57510b751d928b257bf90a9b78728a362ca3a", func := "bellwether/bellwetherlaw02.UtfBack", spec := "utfBack", named := ["bellwether/utf.heads"], apart := false, laid := [("bellwether/utf.heads", laid_bellwether_utf_heads)], narrowed := true }
def UtfBackUptoSaid : Prop := utfBackUptoRow.holds Tryd.pinned (OpenSpec.upto utfBackSpec)

/-- 'bellwetherlaw02.UtfJoins', WHERE WHAT IT READS IS OF BULK AT MOST 1048576: true; the input reads as it did. -/
def utfJoinsUptoRow : OpenClaim := { program := "ytbbgmokpniigfaadoor", sum := "4851782004ec59ec9e101ef7a1d57510b751d928b257bf90a9b78728a362ca3a", func := "bellwether/bellwetherlaw02.UtfJoins", spec := "utfJoins", named := ["bellwether/utf.heads"], apart := false, laid := [("bellwether/utf.heads", laid_bellwether_utf_heads)], narrowed := true }
def UtfJoinsUptoSaid : Prop := utfJoinsUptoRow.holds Tryd.pinned (OpenSpec.upto utfJoinsSpec)

/-- 'bellwetherlaw02.UtfCuts', WHERE WHAT IT READS IS OF BULK AT MOST 1048576: true; the input reads as it did. -/
def utfCutsUptoRow : OpenClaim := { program := "ytbbgmokpniigfaadoor", sum := "4851782004ec59ec9e101ef7a1d57510b751d928b257bf90a9b78728a362ca3a", func := "bellwether/bellwetherlaw02.UtfCuts", spec := "utfCuts", named := ["bellwether/utf.heads"], apart := false, laid := [("bellwether/utf.heads", laid_bellwether_utf_heads)], narrowed := true }
def UtfCutsUptoSaid : Prop := utfCutsUptoRow.holds Tryd.pinned (OpenSpec.upto utfCutsSpec)

/-- 'bellwetherlaw02.UtfOne', WHERE WHAT IT READS IS OF BULK AT MOST 1048576: true; the input reads as it did. -/
def utfOneUptoRow : OpenClaim := { program := "ytbbgmokpniigfaadoor", sum := "4851782004ec59ec9e101ef7a1d57510b751d928b257bf90a9b78728a362ca3a", func := "bellwether/bellwetherlaw02.UtfOne", spec := "utfOne", named := ["bellwether/utf.heads"], apart := false, laid := [("bellwether/utf.heads", laid_bellwether_utf_heads)], narrowed := true }
def UtfOneUptoSaid : Prop := utfOneUptoRow.holds Tryd.pinned (OpenSpec.upto utfOneSpec)

/-- 'bellwetherlaw02.UtfChars', WHERE WHAT IT READS IS OF BULK AT MOST 1048576: true; the input reads as it did. -/
def utfCharsUptoRow : OpenClaim := { program := "ytbbgmokpniigfaadoor", sum := "4851782004ec59ec9e101ef7a1d57510b751d928b257bf90a9b78728a362ca3a", func := "bellwether/bellwetherlaw02.UtfChars", spec := "utfChars", named := ["bellwether/utf.heads"], apart := false, laid := [("bellwether/utf.heads", laid_bellwether_utf_heads)], narrowed := true }
def UtfCharsUptoSaid : Prop := utfCharsUptoRow.holds Tryd.pinned (OpenSpec.upto utfCharsSpec)

/-- 'bellwetherlaw02.UtfChar', WHERE WHAT IT READS IS OF BULK AT MOST 1048576: true; the input reads as it did. -/
def utfCharUptoRow : OpenClaim := { program := "ytbbgmokpniigfaadoor", sum := "4851782004ec59ec9e101ef7a1d57510b751d928b257bf90a9b78728a362ca3a", func := "bellwether/bellwetherlaw02.UtfChar", spec := "utfChar", named := ["bellwether/utf.heads"], apart := false, laid := [("bellwether/utf.heads", laid_bellwether_utf_heads)], narrowed := true }
def UtfCharUptoSaid : Prop := utfCharUptoRow.holds Tryd.pinned (OpenSpec.upto utfCharSpec)

end Rows
end Go.Proofs.YtbbgmokpniigfaaDoor
