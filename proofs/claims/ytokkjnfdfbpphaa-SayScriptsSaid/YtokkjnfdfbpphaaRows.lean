/-
  No cell of these rows narrows 'for every input' (looked for: loops, veiled, ifaces, maps, wideKeys, modest, calm, conditions, laid).
  DERIVED. THE GIVEN ROWS OF THIS SEAT. 5 by the template 'for every input the law returns true; each argument reads behind the call as it read before'; 0 by the template 'total and deterministic' (their statements: YtokkjnfdfbpphaaTotals.lean).
  GIVEN WITH THE SEED: the statements are not yours to turn. If you find one false, say at which input.
  Laid BY PROGRAM, IN A SANDBOX (cutbox-rows.mjs): the forced cells as the released guide's own fill.sh prints them over the translation d67dcc46db247de1… (all of the seat's roots in one cut). By AI agents, Wed Nov 11 2026. No macro, syntax, notation, axiom, sorry.
-/
import Derived.Test.YtokkjnfdfbpphaaChecked
import GoSem.Claim
import GoSem.ClaimJoined
import GoSem.ClaimMapViews
import Derived.JoinedTies
import Derived.KernelRfl
namespace Go.Proofs.Ytokkjnfdfbpphaa
/- THE CELL 'sum', in the pinned program and in every row, IS THE sha256 OF THE DUMP (.gsa) THAT YtokkjnfdfbpphaaProg.lean LOADS. Nothing in Lean hashes anything: it is a label: what it is worth is what the hold of that sum in a sandbox is worth. -/
noncomputable def Try.pinned : Pinned := { name := "ytokkjnfdfbpphaa", sum := "d67dcc46db247de1e8a6a13652ce71ba567eb04d41dff1235c1ef8c6ff920ae3", checked := Try.checked }
namespace Rows
def none {H : Type} : Left H := { results := [], args := [] }

/-- 'chartularylaw23.SayQuotes': WHATEVER THE INPUT: true; the input reads as it did. -/
def sayQuotesSpec : ChangeSpec := { name := "sayQuotes", fn := fun _ => fun
  | [d] => { results := [.lit (.bool true)], args := [d] }
  | _ => none }
def sayQuotesRow : OpenClaim := { program := "ytokkjnfdfbpphaa", sum := "d67dcc46db247de1e8a6a13652ce71ba567eb04d41dff1235c1ef8c6ff920ae3", func := "chartulary/chartularylaw23.SayQuotes", spec := "sayQuotes", inPlace := ["internal/abi.NoEscape", "internal/bytealg.IndexByteString"], unfollowed := true, recurses := true, apart := false }
def SayQuotesSaid : Prop := sayQuotesRow.holds Try.pinned (OpenSpec.ofChange sayQuotesSpec)

/-- ITS FALSE NEIGHBOUR: 'it returns false'. Refute it at one input. -/
def sayQuotesWrong : ChangeSpec := { name := "sayQuotes", fn := fun _ => fun
  | [d] => { results := [.lit (.bool false)], args := [d] }
  | _ => none }
def SayQuotesWrongFalsely : Prop := sayQuotesRow.holds Try.pinned (OpenSpec.ofChange sayQuotesWrong)

/-- 'chartularylaw23.SayValues': WHATEVER THE INPUT: true; the input reads as it did. -/
def sayValuesSpec : ChangeSpec := { name := "sayValues", fn := fun _ => fun
  | [d1, d2] => { results := [.lit (.bool true)], args := [d1, d2] }
  | _ => none }
def sayValuesRow : OpenClaim := { program := "ytokkjnfdfbpphaa", sum := "d67dcc46db247de1e8a6a13652ce71ba567eb04d41dff1235c1ef8c6ff920ae3", func := "chartulary/chartularylaw23.SayValues", spec := "sayValues", inPlace := ["internal/abi.NoEscape", "internal/bytealg.IndexByteString"], unfollowed := true, recurses := true, apart := false }
def SayValuesSaid : Prop := sayValuesRow.holds Try.pinned (OpenSpec.ofChange sayValuesSpec)

/-- ITS FALSE NEIGHBOUR: 'it returns false'. Refute it at one input. -/
def sayValuesWrong : ChangeSpec := { name := "sayValues", fn := fun _ => fun
  | [d1, d2] => { results := [.lit (.bool false)], args := [d1, d2] }
  | _ => none }
def SayValuesWrongFalsely : Prop := sayValuesRow.holds Try.pinned (OpenSpec.ofChange sayValuesWrong)

/-- 'chartularylaw23.SayBreaks': WHATEVER THE INPUT: true; the input reads as it did. -/
def sayBreaksSpec : ChangeSpec := { name := "sayBreaks", fn := fun _ => fun
  | [d] => { results := [.lit (.bool true)], args := [d] }
  | _ => none }
def sayBreaksRow : OpenClaim := { program := "ytokkjnfdfbpphaa", sum := "d67dcc46db247de1e8a6a13652ce71ba567eb04d41dff1235c1ef8c6ff920ae3", func := "chartulary/chartularylaw23.SayBreaks", spec := "sayBreaks", inPlace := ["internal/abi.NoEscape", "internal/bytealg.MakeNoZero", "internal/bytealg.IndexByteString"], unfollowed := true, recurses := true, apart := false }
def SayBreaksSaid : Prop := sayBreaksRow.holds Try.pinned (OpenSpec.ofChange sayBreaksSpec)

/-- ITS FALSE NEIGHBOUR: 'it returns false'. Refute it at one input. -/
def sayBreaksWrong : ChangeSpec := { name := "sayBreaks", fn := fun _ => fun
  | [d] => { results := [.lit (.bool false)], args := [d] }
  | _ => none }
def SayBreaksWrongFalsely : Prop := sayBreaksRow.holds Try.pinned (OpenSpec.ofChange sayBreaksWrong)

/-- 'chartularylaw23.SayScripts': WHATEVER THE INPUT: true; the input reads as it did. -/
def sayScriptsSpec : ChangeSpec := { name := "sayScripts", fn := fun _ => fun
  | [d] => { results := [.lit (.bool true)], args := [d] }
  | _ => none }
def sayScriptsRow : OpenClaim := { program := "ytokkjnfdfbpphaa", sum := "d67dcc46db247de1e8a6a13652ce71ba567eb04d41dff1235c1ef8c6ff920ae3", func := "chartulary/chartularylaw23.SayScripts", spec := "sayScripts", inPlace := ["internal/bytealg.IndexByteString", "internal/abi.NoEscape", "internal/bytealg.MakeNoZero"], unfollowed := true, recurses := true, apart := false }
def SayScriptsSaid : Prop := sayScriptsRow.holds Try.pinned (OpenSpec.ofChange sayScriptsSpec)

/-- ITS FALSE NEIGHBOUR: 'it returns false'. Refute it at one input. -/
def sayScriptsWrong : ChangeSpec := { name := "sayScripts", fn := fun _ => fun
  | [d] => { results := [.lit (.bool false)], args := [d] }
  | _ => none }
def SayScriptsWrongFalsely : Prop := sayScriptsRow.holds Try.pinned (OpenSpec.ofChange sayScriptsWrong)

/-- 'chartularylaw23.SayPrints': WHATEVER THE INPUT: true; the input reads as it did. -/
def sayPrintsSpec : ChangeSpec := { name := "sayPrints", fn := fun _ => fun
  | [d] => { results := [.lit (.bool true)], args := [d] }
  | _ => none }
def sayPrintsRow : OpenClaim := { program := "ytokkjnfdfbpphaa", sum := "d67dcc46db247de1e8a6a13652ce71ba567eb04d41dff1235c1ef8c6ff920ae3", func := "chartulary/chartularylaw23.SayPrints", spec := "sayPrints", inPlace := ["internal/abi.NoEscape", "internal/bytealg.MakeNoZero", "internal/bytealg.IndexByteString"], unfollowed := true, recurses := true, apart := false }
def SayPrintsSaid : Prop := sayPrintsRow.holds Try.pinned (OpenSpec.ofChange sayPrintsSpec)

/-- ITS FALSE NEIGHBOUR: 'it returns false'. Refute it at one input. -/
def sayPrintsWrong : ChangeSpec := { name := "sayPrints", fn := fun _ => fun
  | [d] => { results := [.lit (.bool false)], args := [d] }
  | _ => none }
def SayPrintsWrongFalsely : Prop := sayPrintsRow.holds Try.pinned (OpenSpec.ofChange sayPrintsWrong)

/- THE SECOND FORM. 'bulk': how many values and letters a reading holds, each counted each time it is reached (what is shared counts as often as it is met; a slice's spare places count too). A statement '..UptoSaid' is the law's where the arguments, and the package variables that the reading takes, are together of bulk at most 1048576: NARROWER than '..Said'. Prove '..Said' where nothing that the law and all that it calls make is longer than what came in: it says more and counts as full. Else prove '..UptoSaid'. A law counts once. -/
mutual
def uptoBulk {H : Type} : DataW H → Nat
  | .lit (.string bytes) => bytes.length + 1
  | .lit _ => 1
  | .nil => 1
  | .ptr d => uptoBulk d + 1
  | .slice elems spare => uptoBulkAll elems + uptoBulkAll spare + 1
  | .agg parts => uptoBulkAll parts + 1
  | .iface _ d => uptoBulk d + 1
  | .map entries => uptoBulkEntries entries + 1
  | .held _ => 1
def uptoBulkAll {H : Type} : List (DataW H) → Nat
  | [] => 0
  | d :: r => uptoBulk d + uptoBulkAll r
def uptoBulkEntries {H : Type} : List (Lit × DataW H) → Nat
  | [] => 0
  | x :: r => uptoBulkEntry x + uptoBulkEntries r
def uptoBulkEntry {H : Type} : Lit × DataW H → Nat
  | (.string bytes, d) => bytes.length + uptoBulk d + 1
  | (_, d) => uptoBulk d + 1
 end
def uptoSmall : (H : Type) → List (DataW H) → Bool := fun _ ds => decide (uptoBulkAll ds ≤ 1048576)
def OpenSpec.upto (s : _root_.Go.ChangeSpec) : _root_.Go.OpenSpec := { _root_.Go.OpenSpec.ofChange s with cond := some uptoSmall }

/-- 'chartularylaw23.SayQuotes', WHERE WHAT IT READS IS OF BULK AT MOST 1048576: true; the input reads as it did. -/
def sayQuotesUptoRow : OpenClaim := { program := "ytokkjnfdfbpphaa", sum := "d67dcc46db247de1e8a6a13652ce71ba567eb04d41dff1235c1ef8c6ff920ae3", func := "chartulary/chartularylaw23.SayQuotes", spec := "sayQuotes", inPlace := ["internal/abi.NoEscape", "internal/bytealg.IndexByteString"], unfollowed := true, recurses := true, apart := false, narrowed := true }
def SayQuotesUptoSaid : Prop := sayQuotesUptoRow.holds Try.pinned (OpenSpec.upto sayQuotesSpec)

/-- 'chartularylaw23.SayValues', WHERE WHAT IT READS IS OF BULK AT MOST 1048576: true; the input reads as it did. -/
def sayValuesUptoRow : OpenClaim := { program := "ytokkjnfdfbpphaa", sum := "d67dcc46db247de1e8a6a13652ce71ba567eb04d41dff1235c1ef8c6ff920ae3", func := "chartulary/chartularylaw23.SayValues", spec := "sayValues", inPlace := ["internal/abi.NoEscape", "internal/bytealg.IndexByteString"], unfollowed := true, recurses := true, apart := false, narrowed := true }
def SayValuesUptoSaid : Prop := sayValuesUptoRow.holds Try.pinned (OpenSpec.upto sayValuesSpec)

/-- 'chartularylaw23.SayBreaks', WHERE WHAT IT READS IS OF BULK AT MOST 1048576: true; the input reads as it did. -/
def sayBreaksUptoRow : OpenClaim := { program := "ytokkjnfdfbpphaa", sum := "d67dcc46db247de1e8a6a13652ce71ba567eb04d41dff1235c1ef8c6ff920ae3", func := "chartulary/chartularylaw23.SayBreaks", spec := "sayBreaks", inPlace := ["internal/abi.NoEscape", "internal/bytealg.MakeNoZero", "internal/bytealg.IndexByteString"], unfollowed := true, recurses := true, apart := false, narrowed := true }
def SayBreaksUptoSaid : Prop := sayBreaksUptoRow.holds Try.pinned (OpenSpec.upto sayBreaksSpec)

/-- 'chartularylaw23.SayScripts', WHERE WHAT IT READS IS OF BULK AT MOST 1048576: true; the input reads as it did. -/
def sayScriptsUptoRow : OpenClaim := { program := "ytokkjnfdfbpphaa", sum := "d67dcc46db247de1e8a6a13652ce71ba567eb04d41dff1235c1ef8c6ff920ae3", func := "chartulary/chartularylaw23.SayScripts", spec := "sayScripts", inPlace := ["internal/bytealg.IndexByteString", "internal/abi.NoEscape", "internal/bytealg.MakeNoZero"], unfollowed := true, recurses := true, apart := false, narrowed := true }
def SayScriptsUptoSaid : Prop := sayScriptsUptoRow.holds Try.pinned (OpenSpec.upto sayScriptsSpec)

/-- 'chartularylaw23.SayPrints', WHERE WHAT IT READS IS OF BULK AT MOST 1048576: true; the input reads as it did. -/
def sayPrintsUptoRow : OpenClaim := { program := "ytokkjnfdfbpphaa", sum := "d67dcc46db247de1e8a6a13652ce71ba567eb04d41dff1235c1ef8c6ff920ae3", func := "chartulary/chartularylaw23.SayPrints", spec := "sayPrints", inPlace := ["internal/abi.NoEscape", "internal/bytealg.MakeNoZero", "internal/bytealg.IndexByteString"], unfollowed := true, recurses := true, apart := false, narrowed := true }
def SayPrintsUptoSaid : Prop := sayPrintsUptoRow.holds Try.pinned (OpenSpec.upto sayPrintsSpec)

end Rows
end Go.Proofs.Ytokkjnfdfbpphaa
