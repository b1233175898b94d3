/-
  No cell of these rows narrows 'for every input' (looked for: loops, veiled, ifaces, maps, wideKeys, modest, calm, conditions, laid).
  DERIVED. THE GIVEN ROWS OF THIS SEAT. 6 by the template 'for every input the law returns true; each argument reads behind the call as it read before'; 0 by the template 'total and deterministic' (their statements: YtadbpgljamkoeaaTotals.lean).
  GIVEN WITH THE SEED: the statements are not yours to turn. If you find one false, say at which input.
  Laid BY PROGRAM, IN A SANDBOX (cutbox-rows.mjs): the forced cells as the released guide's own fill.sh prints them over the translation cdb850908a9c551d… (all of the seat's roots in one cut). By AI agents, Wed Nov 11 2026. No macro, syntax, notation, axiom, sorry.
-/
import Derived.Test.YtadbpgljamkoeaaChecked
import GoSem.Claim
import GoSem.ClaimJoined
import GoSem.ClaimMapViews
import Derived.JoinedTies
import Derived.KernelRfl
namespace Go.Proofs.Ytadbpgljamkoeaa
/- THE CELL 'sum', in the pinned program and in every row, IS THE sha256 OF THE DUMP (.gsa) THAT YtadbpgljamkoeaaProg.lean LOADS. Nothing in Lean hashes anything: it is a label: what it is worth is what the hold of that sum in a sandbox is worth. -/
noncomputable def Try.pinned : Pinned := { name := "ytadbpgljamkoeaa", sum := "cdb850908a9c551de0032137a6c65a7ae9fbe777cd920b40044dd899ed6d5e26", checked := Try.checked }
namespace Rows
def none {H : Type} : Left H := { results := [], args := [] }

/-- 'bellwetherlaw16.CreditPlays': WHATEVER THE INPUT: true; the input reads as it did. -/
def creditPlaysSpec : ChangeSpec := { name := "creditPlays", fn := fun _ => fun
  | [d1, d2] => { results := [.lit (.bool true)], args := [d1, d2] }
  | _ => none }
def creditPlaysRow : OpenClaim := { program := "ytadbpgljamkoeaa", sum := "cdb850908a9c551de0032137a6c65a7ae9fbe777cd920b40044dd899ed6d5e26", func := "bellwether/bellwetherlaw16.CreditPlays", spec := "creditPlays", apart := false }
def CreditPlaysSaid : Prop := creditPlaysRow.holds Try.pinned (OpenSpec.ofChange creditPlaysSpec)

/-- ITS FALSE NEIGHBOUR: 'it returns false'. Refute it at one input. -/
def creditPlaysWrong : ChangeSpec := { name := "creditPlays", fn := fun _ => fun
  | [d1, d2] => { results := [.lit (.bool false)], args := [d1, d2] }
  | _ => none }
def CreditPlaysWrongFalsely : Prop := creditPlaysRow.holds Try.pinned (OpenSpec.ofChange creditPlaysWrong)

/-- 'bellwetherlaw16.CreditMeets': WHATEVER THE INPUT: true; the input reads as it did. -/
def creditMeetsSpec : ChangeSpec := { name := "creditMeets", fn := fun _ => fun
  | [d1, d2] => { results := [.lit (.bool true)], args := [d1, d2] }
  | _ => none }
def creditMeetsRow : OpenClaim := { program := "ytadbpgljamkoeaa", sum := "cdb850908a9c551de0032137a6c65a7ae9fbe777cd920b40044dd899ed6d5e26", func := "bellwether/bellwetherlaw16.CreditMeets", spec := "creditMeets", apart := false }
def CreditMeetsSaid : Prop := creditMeetsRow.holds Try.pinned (OpenSpec.ofChange creditMeetsSpec)

/-- ITS FALSE NEIGHBOUR: 'it returns false'. Refute it at one input. -/
def creditMeetsWrong : ChangeSpec := { name := "creditMeets", fn := fun _ => fun
  | [d1, d2] => { results := [.lit (.bool false)], args := [d1, d2] }
  | _ => none }
def CreditMeetsWrongFalsely : Prop := creditMeetsRow.holds Try.pinned (OpenSpec.ofChange creditMeetsWrong)

/-- 'bellwetherlaw16.CreditRound': WHATEVER THE INPUT: true; the input reads as it did. -/
def creditRoundSpec : ChangeSpec := { name := "creditRound", fn := fun _ => fun
  | [d1, d2, d3] => { results := [.lit (.bool true)], args := [d1, d2, d3] }
  | _ => none }
def creditRoundRow : OpenClaim := { program := "ytadbpgljamkoeaa", sum := "cdb850908a9c551de0032137a6c65a7ae9fbe777cd920b40044dd899ed6d5e26", func := "bellwether/bellwetherlaw16.CreditRound", spec := "creditRound", apart := false }
def CreditRoundSaid : Prop := creditRoundRow.holds Try.pinned (OpenSpec.ofChange creditRoundSpec)

/-- ITS FALSE NEIGHBOUR: 'it returns false'. Refute it at one input. -/
def creditRoundWrong : ChangeSpec := { name := "creditRound", fn := fun _ => fun
  | [d1, d2, d3] => { results := [.lit (.bool false)], args := [d1, d2, d3] }
  | _ => none }
def CreditRoundWrongFalsely : Prop := creditRoundRow.holds Try.pinned (OpenSpec.ofChange creditRoundWrong)

/-- 'bellwetherlaw16.CreditBounds': WHATEVER THE INPUT: true; the input reads as it did. -/
def creditBoundsSpec : ChangeSpec := { name := "creditBounds", fn := fun _ => fun
  | [d1, d2] => { results := [.lit (.bool true)], args := [d1, d2] }
  | _ => none }
def creditBoundsRow : OpenClaim := { program := "ytadbpgljamkoeaa", sum := "cdb850908a9c551de0032137a6c65a7ae9fbe777cd920b40044dd899ed6d5e26", func := "bellwether/bellwetherlaw16.CreditBounds", spec := "creditBounds", apart := false }
def CreditBoundsSaid : Prop := creditBoundsRow.holds Try.pinned (OpenSpec.ofChange creditBoundsSpec)

/-- ITS FALSE NEIGHBOUR: 'it returns false'. Refute it at one input. -/
def creditBoundsWrong : ChangeSpec := { name := "creditBounds", fn := fun _ => fun
  | [d1, d2] => { results := [.lit (.bool false)], args := [d1, d2] }
  | _ => none }
def CreditBoundsWrongFalsely : Prop := creditBoundsRow.holds Try.pinned (OpenSpec.ofChange creditBoundsWrong)

/-- 'bellwetherlaw16.CreditLate': WHATEVER THE INPUT: true; the input reads as it did. -/
def creditLateSpec : ChangeSpec := { name := "creditLate", fn := fun _ => fun
  | [d1, d2, d3, d4] => { results := [.lit (.bool true)], args := [d1, d2, d3, d4] }
  | _ => none }
def creditLateRow : OpenClaim := { program := "ytadbpgljamkoeaa", sum := "cdb850908a9c551de0032137a6c65a7ae9fbe777cd920b40044dd899ed6d5e26", func := "bellwether/bellwetherlaw16.CreditLate", spec := "creditLate", apart := false }
def CreditLateSaid : Prop := creditLateRow.holds Try.pinned (OpenSpec.ofChange creditLateSpec)

/-- ITS FALSE NEIGHBOUR: 'it returns false'. Refute it at one input. -/
def creditLateWrong : ChangeSpec := { name := "creditLate", fn := fun _ => fun
  | [d1, d2, d3, d4] => { results := [.lit (.bool false)], args := [d1, d2, d3, d4] }
  | _ => none }
def CreditLateWrongFalsely : Prop := creditLateRow.holds Try.pinned (OpenSpec.ofChange creditLateWrong)

/-- 'bellwetherlaw16.CreditNil': WHATEVER THE INPUT: true; the input reads as it did. -/
def creditNilSpec : ChangeSpec := { name := "creditNil", fn := fun _ => fun
  | [d] => { results := [.lit (.bool true)], args := [d] }
  | _ => none }
def creditNilRow : OpenClaim := { program := "ytadbpgljamkoeaa", sum := "cdb850908a9c551de0032137a6c65a7ae9fbe777cd920b40044dd899ed6d5e26", func := "bellwether/bellwetherlaw16.CreditNil", spec := "creditNil", apart := false }
def CreditNilSaid : Prop := creditNilRow.holds Try.pinned (OpenSpec.ofChange creditNilSpec)

/-- ITS FALSE NEIGHBOUR: 'it returns false'. Refute it at one input. -/
def creditNilWrong : ChangeSpec := { name := "creditNil", fn := fun _ => fun
  | [d] => { results := [.lit (.bool false)], args := [d] }
  | _ => none }
def CreditNilWrongFalsely : Prop := creditNilRow.holds Try.pinned (OpenSpec.ofChange creditNilWrong)

/- THE SECOND FORM. 'bulk': how many values and letters a reading holds, each counted each time it is reached (what is shared counts as often as it is met; a slice's spare places count too). A statement '..UptoSaid' is the law's where the arguments, and the package variables that the reading takes, are together of bulk at most 1048576: NARROWER than '..Said'. Prove '..Said' where nothing that the law and all that it calls make is longer than what came in: it says more and counts as full. Else prove '..UptoSaid'. A law counts once. -/
mutual
def uptoBulk {H : Type} : DataW H → Nat
  | .lit (.string bytes) => bytes.length + 1
  | .lit _ => 1
  | .nil => 1
  | .ptr d => uptoBulk d + 1
  | .slice elems spare => uptoBulkAll elems + uptoBulkAll spare + 1
  | .agg parts => uptoBulkAll parts + 1
  | .iface _ d => uptoBulk d + 1
  | .map entries => uptoBulkEntries entries + 1
  | .held _ => 1
def uptoBulkAll {H : Type} : List (DataW H) → Nat
  | [] => 0
  | d :: r => uptoBulk d + uptoBulkAll r
def uptoBulkEntries {H : Type} : List (Lit × DataW H) → Nat
  | [] => 0
  | x :: r => uptoBulkEntry x + uptoBulkEntries r
def uptoBulkEntry {H : Type} : Lit × DataW H → Nat
  | (.string bytes, d) => bytes.length + uptoBulk d + 1
  | (_, d) => uptoBulk d + 1
 end
def uptoSmall : (H : Type) → List (DataW H) → Bool := fun _ ds => decide (uptoBulkAll ds ≤ 1048576)
def OpenSpec.upto (s : _root_.Go.ChangeSpec) : _root_.Go.OpenSpec := { _root_.Go.OpenSpec.ofChange s with cond := some uptoSmall }

/-- 'bellwetherlaw16.CreditPlays', WHERE WHAT IT READS IS OF BULK AT MOST 1048576: true; the input reads as it did. -/
def creditPlaysUptoRow : OpenClaim := { program := "ytadbpgljamkoeaa", sum := "cdb850908a9c551de0032137a6c65a7ae9fbe777cd920b40044dd899ed6d5e26", func := "bellwether/bellwetherlaw16.CreditPlays", spec := "creditPlays", apart := false, narrowed := true }
def CreditPlaysUptoSaid : Prop := creditPlaysUptoRow.holds Try.pinned (OpenSpec.upto creditPlaysSpec)

/-- 'bellwetherlaw16.CreditMeets', WHERE WHAT IT READS IS OF BULK AT MOST 1048576: true; the input reads as it did. -/
def creditMeetsUptoRow : OpenClaim := { program := "ytadbpgljamkoeaa", sum := "cdb850908a9c551de0032137a6c65a7ae9fbe777cd920b40044dd899ed6d5e26", func := "bellwether/bellwetherlaw16.CreditMeets", spec := "creditMeets", apart := false, narrowed := true }
def CreditMeetsUptoSaid : Prop := creditMeetsUptoRow.holds Try.pinned (OpenSpec.upto creditMeetsSpec)

/-- 'bellwetherlaw16.CreditRound', WHERE WHAT IT READS IS OF BULK AT MOST 1048576: true; the input reads as it did. -/
def creditRoundUptoRow : OpenClaim := { program := "ytadbpgljamkoeaa", sum := "cdb850908a9c551de0032137a6c65a7ae9fbe777cd920b40044dd899ed6d5e26", func := "bellwether/bellwetherlaw16.CreditRound", spec := "creditRound", apart := false, narrowed := true }
def CreditRoundUptoSaid : Prop := creditRoundUptoRow.holds Try.pinned (OpenSpec.upto creditRoundSpec)

/-- 'bellwetherlaw16.CreditBounds', WHERE WHAT IT READS IS OF BULK AT MOST 1048576: true; the input reads as it did. -/
def creditBoundsUptoRow : OpenClaim := { program := "ytadbpgljamkoeaa", sum := "cdb850908a9c551de0032137a6c65a7ae9fbe777cd920b40044dd899ed6d5e26", func := "bellwether/bellwetherlaw16.CreditBounds", spec := "creditBounds", apart := false, narrowed := true }
def CreditBoundsUptoSaid : Prop := creditBoundsUptoRow.holds Try.pinned (OpenSpec.upto creditBoundsSpec)

/-- 'bellwetherlaw16.CreditLate', WHERE WHAT IT READS IS OF BULK AT MOST 1048576: true; the input reads as it did. -/
def creditLateUptoRow : OpenClaim := { program := "ytadbpgljamkoeaa", sum := "cdb850908a9c551de0032137a6c65a7ae9fbe777cd920b40044dd899ed6d5e26", func := "bellwether/bellwetherlaw16.CreditLate", spec := "creditLate", apart := false, narrowed := true }
def CreditLateUptoSaid : Prop := creditLateUptoRow.holds Try.pinned (OpenSpec.upto creditLateSpec)

/-- 'bellwetherlaw16.CreditNil', WHERE WHAT IT READS IS OF BULK AT MOST 1048576: true; the input reads as it did. -/
def creditNilUptoRow : OpenClaim := { program := "ytadbpgljamkoeaa", sum := "cdb850908a9c551de0032137a6c65a7ae9fbe777cd920b40044dd899ed6d5e26", func := "bellwether/bellwetherlaw16.CreditNil", spec := "creditNil", apart := false, narrowed := true }
def CreditNilUptoSaid : Prop := creditNilUptoRow.holds Try.pinned (OpenSpec.upto creditNilSpec)

end Rows
end Go.Proofs.Ytadbpgljamkoeaa
