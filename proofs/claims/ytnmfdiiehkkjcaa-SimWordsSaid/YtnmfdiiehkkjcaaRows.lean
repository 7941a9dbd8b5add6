/-
  No cell of these rows narrows 'for every input' (looked for: loops, veiled, ifaces, maps, wideKeys, modest, calm, conditions, laid).
  DERIVED. THE GIVEN ROWS OF THIS SEAT. 11 by the template 'for every input the law returns true; each argument reads behind the call as it read before'; 0 by the template 'total and deterministic' (their statements: YtnmfdiiehkkjcaaTotals.lean).
  GIVEN WITH THE SEED: the statements are not yours to turn. If you find one false, say at which input.
  Laid BY PROGRAM, IN A SANDBOX (cutbox-rows.mjs): the forced cells as the released guide's own fill.sh prints them over the translation 9655ebe1465f94f7… (all of the seat's roots in one cut). By AI agents, Wed Nov 11 2026. No macro, syntax, notation, axiom, sorry.
-/
import Derived.Test.YtnmfdiiehkkjcaaChecked
import GoSem.Claim
import GoSem.ClaimJoined
import GoSem.ClaimMapViews
import Derived.JoinedTies
import Derived.KernelRfl
namespace Go.Proofs.Ytnmfdiiehkkjcaa
/- THE CELL 'sum', in the pinned program and in every row, IS THE sha256 OF THE DUMP (.gsa) THAT YtnmfdiiehkkjcaaProg.lean LOADS. Nothing in Lean hashes anything: it is a label: what it is worth is what the hold of that sum in a sandbox is worth. -/
noncomputable def Try.pinned : Pinned := { name := "ytnmfdiiehkkjcaa", sum := "9655ebe1465f94f7aa2a9b7a3e3e8bd99035d228778561be1c1d3bf0a705bbb7", checked := Try.checked }
namespace Rows
def none {H : Type} : Left H := { results := [], args := [] }

/-- 'salvorlaw21.SimTables': WHATEVER THE INPUT: true; the input reads as it did. -/
def simTablesSpec : ChangeSpec := { name := "simTables", fn := fun _ => fun
  | [d1, d2, d3] => { results := [.lit (.bool true)], args := [d1, d2, d3] }
  | _ => none }
def simTablesRow : OpenClaim := { program := "ytnmfdiiehkkjcaa", sum := "9655ebe1465f94f7aa2a9b7a3e3e8bd99035d228778561be1c1d3bf0a705bbb7", func := "salvor/salvorlaw21.SimTables", spec := "simTables", unfollowed := true, recurses := true, plainKeys := false, apart := false }
def SimTablesSaid : Prop := simTablesRow.holds Try.pinned (OpenSpec.ofChange simTablesSpec)

/-- ITS FALSE NEIGHBOUR: 'it returns false'. Refute it at one input. -/
def simTablesWrong : ChangeSpec := { name := "simTables", fn := fun _ => fun
  | [d1, d2, d3] => { results := [.lit (.bool false)], args := [d1, d2, d3] }
  | _ => none }
def SimTablesWrongFalsely : Prop := simTablesRow.holds Try.pinned (OpenSpec.ofChange simTablesWrong)

/-- 'salvorlaw21.SimTable': WHATEVER THE INPUT: true; the input reads as it did. -/
def simTableSpec : ChangeSpec := { name := "simTable", fn := fun _ => fun
  | [d1, d2] => { results := [.lit (.bool true)], args := [d1, d2] }
  | _ => none }
def simTableRow : OpenClaim := { program := "ytnmfdiiehkkjcaa", sum := "9655ebe1465f94f7aa2a9b7a3e3e8bd99035d228778561be1c1d3bf0a705bbb7", func := "salvor/salvorlaw21.SimTable", spec := "simTable", unfollowed := true, recurses := true, plainKeys := false, apart := false }
def SimTableSaid : Prop := simTableRow.holds Try.pinned (OpenSpec.ofChange simTableSpec)

/-- ITS FALSE NEIGHBOUR: 'it returns false'. Refute it at one input. -/
def simTableWrong : ChangeSpec := { name := "simTable", fn := fun _ => fun
  | [d1, d2] => { results := [.lit (.bool false)], args := [d1, d2] }
  | _ => none }
def SimTableWrongFalsely : Prop := simTableRow.holds Try.pinned (OpenSpec.ofChange simTableWrong)

/-- 'salvorlaw21.SimSides': WHATEVER THE INPUT: true; the input reads as it did. -/
def simSidesSpec : ChangeSpec := { name := "simSides", fn := fun _ => fun
  | [d1, d2] => { results := [.lit (.bool true)], args := [d1, d2] }
  | _ => none }
def simSidesRow : OpenClaim := { program := "ytnmfdiiehkkjcaa", sum := "9655ebe1465f94f7aa2a9b7a3e3e8bd99035d228778561be1c1d3bf0a705bbb7", func := "salvor/salvorlaw21.SimSides", spec := "simSides", unfollowed := true, recurses := true, plainKeys := false, apart := false }
def SimSidesSaid : Prop := simSidesRow.holds Try.pinned (OpenSpec.ofChange simSidesSpec)

/-- ITS FALSE NEIGHBOUR: 'it returns false'. Refute it at one input. -/
def simSidesWrong : ChangeSpec := { name := "simSides", fn := fun _ => fun
  | [d1, d2] => { results := [.lit (.bool false)], args := [d1, d2] }
  | _ => none }
def SimSidesWrongFalsely : Prop := simSidesRow.holds Try.pinned (OpenSpec.ofChange simSidesWrong)

/-- 'salvorlaw21.SimWrong': WHATEVER THE INPUT: true; the input reads as it did. -/
def simWrongSpec : ChangeSpec := { name := "simWrong", fn := fun _ => fun
  | [d1, d2] => { results := [.lit (.bool true)], args := [d1, d2] }
  | _ => none }
def simWrongRow : OpenClaim := { program := "ytnmfdiiehkkjcaa", sum := "9655ebe1465f94f7aa2a9b7a3e3e8bd99035d228778561be1c1d3bf0a705bbb7", func := "salvor/salvorlaw21.SimWrong", spec := "simWrong", unfollowed := true, recurses := true, plainKeys := false, apart := false }
def SimWrongSaid : Prop := simWrongRow.holds Try.pinned (OpenSpec.ofChange simWrongSpec)

/-- ITS FALSE NEIGHBOUR: 'it returns false'. Refute it at one input. -/
def simWrongWrong : ChangeSpec := { name := "simWrong", fn := fun _ => fun
  | [d1, d2] => { results := [.lit (.bool false)], args := [d1, d2] }
  | _ => none }
def SimWrongWrongFalsely : Prop := simWrongRow.holds Try.pinned (OpenSpec.ofChange simWrongWrong)

/-- 'salvorlaw21.SimParts': WHATEVER THE INPUT: true; the input reads as it did. -/
def simPartsSpec : ChangeSpec := { name := "simParts", fn := fun _ => fun
  | [d1, d2, d3] => { results := [.lit (.bool true)], args := [d1, d2, d3] }
  | _ => none }
def simPartsRow : OpenClaim := { program := "ytnmfdiiehkkjcaa", sum := "9655ebe1465f94f7aa2a9b7a3e3e8bd99035d228778561be1c1d3bf0a705bbb7", func := "salvor/salvorlaw21.SimParts", spec := "simParts", unfollowed := true, recurses := true, plainKeys := false, apart := false }
def SimPartsSaid : Prop := simPartsRow.holds Try.pinned (OpenSpec.ofChange simPartsSpec)

/-- ITS FALSE NEIGHBOUR: 'it returns false'. Refute it at one input. -/
def simPartsWrong : ChangeSpec := { name := "simParts", fn := fun _ => fun
  | [d1, d2, d3] => { results := [.lit (.bool false)], args := [d1, d2, d3] }
  | _ => none }
def SimPartsWrongFalsely : Prop := simPartsRow.holds Try.pinned (OpenSpec.ofChange simPartsWrong)

/-- 'salvorlaw21.SimWords': WHATEVER THE INPUT: true; the input reads as it did. -/
def simWordsSpec : ChangeSpec := { name := "simWords", fn := fun _ => fun
  | [d1, d2, d3] => { results := [.lit (.bool true)], args := [d1, d2, d3] }
  | _ => none }
def simWordsRow : OpenClaim := { program := "ytnmfdiiehkkjcaa", sum := "9655ebe1465f94f7aa2a9b7a3e3e8bd99035d228778561be1c1d3bf0a705bbb7", func := "salvor/salvorlaw21.SimWords", spec := "simWords", unfollowed := true, recurses := true, plainKeys := false, apart := false }
def SimWordsSaid : Prop := simWordsRow.holds Try.pinned (OpenSpec.ofChange simWordsSpec)

/-- ITS FALSE NEIGHBOUR: 'it returns false'. Refute it at one input. -/
def simWordsWrong : ChangeSpec := { name := "simWords", fn := fun _ => fun
  | [d1, d2, d3] => { results := [.lit (.bool false)], args := [d1, d2, d3] }
  | _ => none }
def SimWordsWrongFalsely : Prop := simWordsRow.holds Try.pinned (OpenSpec.ofChange simWordsWrong)

/-- 'salvorlaw21.SimSmall': WHATEVER THE INPUT: true; the input reads as it did. -/
def simSmallSpec : ChangeSpec := { name := "simSmall", fn := fun _ => fun
  | [] => { results := [.lit (.bool true)], args := [] }
  | _ => none }
def simSmallRow : OpenClaim := { program := "ytnmfdiiehkkjcaa", sum := "9655ebe1465f94f7aa2a9b7a3e3e8bd99035d228778561be1c1d3bf0a705bbb7", func := "salvor/salvorlaw21.SimSmall", spec := "simSmall", unfollowed := true, recurses := true, plainKeys := false, apart := false }
def SimSmallSaid : Prop := simSmallRow.holds Try.pinned (OpenSpec.ofChange simSmallSpec)

/-- ITS FALSE NEIGHBOUR: 'it returns false'. Refute it at one input. -/
def simSmallWrong : ChangeSpec := { name := "simSmall", fn := fun _ => fun
  | [] => { results := [.lit (.bool false)], args := [] }
  | _ => none }
def SimSmallWrongFalsely : Prop := simSmallRow.holds Try.pinned (OpenSpec.ofChange simSmallWrong)

/-- 'salvorlaw21.SimSupport': WHATEVER THE INPUT: true; the input reads as it did. -/
def simSupportSpec : ChangeSpec := { name := "simSupport", fn := fun _ => fun
  | [d1, d2, d3, d4] => { results := [.lit (.bool true)], args := [d1, d2, d3, d4] }
  | _ => none }
def simSupportRow : OpenClaim := { program := "ytnmfdiiehkkjcaa", sum := "9655ebe1465f94f7aa2a9b7a3e3e8bd99035d228778561be1c1d3bf0a705bbb7", func := "salvor/salvorlaw21.SimSupport", spec := "simSupport", unfollowed := true, recurses := true, plainKeys := false, apart := false }
def SimSupportSaid : Prop := simSupportRow.holds Try.pinned (OpenSpec.ofChange simSupportSpec)

/-- ITS FALSE NEIGHBOUR: 'it returns false'. Refute it at one input. -/
def simSupportWrong : ChangeSpec := { name := "simSupport", fn := fun _ => fun
  | [d1, d2, d3, d4] => { results := [.lit (.bool false)], args := [d1, d2, d3, d4] }
  | _ => none }
def SimSupportWrongFalsely : Prop := simSupportRow.holds Try.pinned (OpenSpec.ofChange simSupportWrong)

/-- 'salvorlaw23.SumsLaws': WHATEVER THE INPUT: true; the input reads as it did. -/
def sumsLawsSpec : ChangeSpec := { name := "sumsLaws", fn := fun _ => fun
  | [d] => { results := [.lit (.bool true)], args := [d] }
  | _ => none }
def sumsLawsRow : OpenClaim := { program := "ytnmfdiiehkkjcaa", sum := "9655ebe1465f94f7aa2a9b7a3e3e8bd99035d228778561be1c1d3bf0a705bbb7", func := "salvor/salvorlaw23.SumsLaws", spec := "sumsLaws", unfollowed := true, recurses := true, plainKeys := false, apart := false }
def SumsLawsSaid : Prop := sumsLawsRow.holds Try.pinned (OpenSpec.ofChange sumsLawsSpec)

/-- ITS FALSE NEIGHBOUR: 'it returns false'. Refute it at one input. -/
def sumsLawsWrong : ChangeSpec := { name := "sumsLaws", fn := fun _ => fun
  | [d] => { results := [.lit (.bool false)], args := [d] }
  | _ => none }
def SumsLawsWrongFalsely : Prop := sumsLawsRow.holds Try.pinned (OpenSpec.ofChange sumsLawsWrong)

/-- 'salvorlaw25.ShiftsIs': WHATEVER THE INPUT: true; the input reads as it did. -/
def shiftsIsSpec : ChangeSpec := { name := "shiftsIs", fn := fun _ => fun
  | [d1, d2, d3] => { results := [.lit (.bool true)], args := [d1, d2, d3] }
  | _ => none }
def shiftsIsRow : OpenClaim := { program := "ytnmfdiiehkkjcaa", sum := "9655ebe1465f94f7aa2a9b7a3e3e8bd99035d228778561be1c1d3bf0a705bbb7", func := "salvor/salvorlaw25.ShiftsIs", spec := "shiftsIs", unfollowed := true, recurses := true, plainKeys := false, apart := false }
def ShiftsIsSaid : Prop := shiftsIsRow.holds Try.pinned (OpenSpec.ofChange shiftsIsSpec)

/-- ITS FALSE NEIGHBOUR: 'it returns false'. Refute it at one input. -/
def shiftsIsWrong : ChangeSpec := { name := "shiftsIs", fn := fun _ => fun
  | [d1, d2, d3] => { results := [.lit (.bool false)], args := [d1, d2, d3] }
  | _ => none }
def ShiftsIsWrongFalsely : Prop := shiftsIsRow.holds Try.pinned (OpenSpec.ofChange shiftsIsWrong)

/-- 'salvorlaw25.ShiftsTwice': WHATEVER THE INPUT: true; the input reads as it did. -/
def shiftsTwiceSpec : ChangeSpec := { name := "shiftsTwice", fn := fun _ => fun
  | [d1, d2] => { results := [.lit (.bool true)], args := [d1, d2] }
  | _ => none }
def shiftsTwiceRow : OpenClaim := { program := "ytnmfdiiehkkjcaa", sum := "9655ebe1465f94f7aa2a9b7a3e3e8bd99035d228778561be1c1d3bf0a705bbb7", func := "salvor/salvorlaw25.ShiftsTwice", spec := "shiftsTwice", unfollowed := true, recurses := true, plainKeys := false, apart := false }
def ShiftsTwiceSaid : Prop := shiftsTwiceRow.holds Try.pinned (OpenSpec.ofChange shiftsTwiceSpec)

/-- ITS FALSE NEIGHBOUR: 'it returns false'. Refute it at one input. -/
def shiftsTwiceWrong : ChangeSpec := { name := "shiftsTwice", fn := fun _ => fun
  | [d1, d2] => { results := [.lit (.bool false)], args := [d1, d2] }
  | _ => none }
def ShiftsTwiceWrongFalsely : Prop := shiftsTwiceRow.holds Try.pinned (OpenSpec.ofChange shiftsTwiceWrong)

/- THE SECOND FORM. 'bulk': how many values and letters a reading holds, each counted each time it is reached (what is shared counts as often as it is met; a slice's spare places count too). A statement '..UptoSaid' is the law's where the arguments, and the package variables that the reading takes, are together of bulk at most 1048576: NARROWER than '..Said'. Prove '..Said' where nothing that the law and all that it calls make is longer than what came in: it says more and counts as full. Else prove '..UptoSaid'. A law counts once. -/
mutual
def uptoBulk {H : Type} : DataW H → Nat
  | .lit (.string bytes) => bytes.length + 1
  | .lit _ => 1
  | .nil => 1
  | .ptr d => uptoBulk d + 1
  | .slice elems spare => uptoBulkAll elems + uptoBulkAll spare + 1
  | .agg parts => uptoBulkAll parts + 1
  | .iface _ d => uptoBulk d + 1
  | .map entries => uptoBulkEntries entries + 1
  | .held _ => 1
def uptoBulkAll {H : Type} : List (DataW H) → Nat
  | [] => 0
  | d :: r => uptoBulk d + uptoBulkAll r
def uptoBulkEntries {H : Type} : List (Lit × DataW H) → Nat
  | [] => 0
  | x :: r => uptoBulkEntry x + uptoBulkEntries r
def uptoBulkEntry {H : Type} : Lit × DataW H → Nat
  | (.string bytes, d) => bytes.length + uptoBulk d + 1
  | (_, d) => uptoBulk d + 1
 end
def uptoSmall : (H : Type) → List (DataW H) → Bool := fun _ ds => decide (uptoBulkAll ds ≤ 1048576)
def OpenSpec.upto (s : _root_.Go.ChangeSpec) : _root_.Go.OpenSpec := { _root_.Go.OpenSpec.ofChange s with cond := some uptoSmall }

/-- 'salvorlaw21.SimTables', WHERE WHAT IT READS IS OF BULK AT MOST 1048576: true; the input reads as it did. -/
def simTablesUptoRow : OpenClaim := { program := "ytnmfdiiehkkjcaa", sum := "9655ebe1465f94f7aa2a9b7a3e3e8bd99035d228778561be1c1d3bf0a705bbb7", func := "salvor/salvorlaw21.SimTables", spec := "simTables", unfollowed := true, recurses := true, plainKeys := false, apart := false, narrowed := true }
def SimTablesUptoSaid : Prop := simTablesUptoRow.holds Try.pinned (OpenSpec.upto simTablesSpec)

/-- 'salvorlaw21.SimTable', WHERE WHAT IT READS IS OF BULK AT MOST 1048576: true; the input reads as it did. -/
def simTableUptoRow : OpenClaim := { program := "ytnmfdiiehkkjcaa", sum := "9655ebe1465f94f7aa2a9b7a3e3e8bd99035d228778561be1c1d3bf0a705bbb7", func := "salvor/salvorlaw21.SimTable", spec := "simTable", unfollowed := true, recurses := true, plainKeys := false, apart := false, narrowed := true }
def SimTableUptoSaid : Prop := simTableUptoRow.holds Try.pinned (OpenSpec.upto simTableSpec)

/-- 'salvorlaw21.SimSides', WHERE WHAT IT READS IS OF BULK AT MOST 1048576: true; the input reads as it did. -/
def simSidesUptoRow : OpenClaim := { program := "ytnmfdiiehkkjcaa", sum := "9655ebe1465f94f7aa2a9b7a3e3e8bd99035d228778561be1c1d3bf0a705bbb7", func := "salvor/salvorlaw21.SimSides", spec := "simSides", unfollowed := true, recurses := true, plainKeys := false, apart := false, narrowed := true }
def SimSidesUptoSaid : Prop := simSidesUptoRow.holds Try.pinned (OpenSpec.upto simSidesSpec)

/-- 'salvorlaw21.SimWrong', WHERE WHAT IT READS IS OF BULK AT MOST 1048576: true; the input reads as it did. -/
def simWrongUptoRow : OpenClaim := { program := "ytnmfdiiehkkjcaa", sum := "9655ebe1465f94f7aa2a9b7a3e3e8bd99035d228778561be1c1d3bf0a705bbb7", func := "salvor/salvorlaw21.SimWrong", spec := "simWrong", unfollowed := true, recurses := true, plainKeys := false, apart := false, narrowed := true }
def SimWrongUptoSaid : Prop := simWrongUptoRow.holds Try.pinned (OpenSpec.upto simWrongSpec)

/-- 'salvorlaw21.SimParts', WHERE WHAT IT READS IS OF BULK AT MOST 1048576: true; the input reads as it did. -/
def simPartsUptoRow : OpenClaim := { program := "ytnmfdiiehkkjcaa", sum := "9655ebe1465f94f7aa2a9b7a3e3e8bd99035d228778561be1c1d3bf0a705bbb7", func := "salvor/salvorlaw21.SimParts", spec := "simParts", unfollowed := true, recurses := true, plainKeys := false, apart := false, narrowed := true }
def SimPartsUptoSaid : Prop := simPartsUptoRow.holds Try.pinned (OpenSpec.upto simPartsSpec)

/-- 'salvorlaw21.SimWords', WHERE WHAT IT READS IS OF BULK AT MOST 1048576: true; the input reads as it did. -/
def simWordsUptoRow : OpenClaim := { program := "ytnmfdiiehkkjcaa", sum := "9655ebe1465f94f7aa2a9b7a3e3e8bd99035d228778561be1c1d3bf0a705bbb7", func := "salvor/salvorlaw21.SimWords", spec := "simWords", unfollowed := true, recurses := true, plainKeys := false, apart := false, narrowed := true }
def SimWordsUptoSaid : Prop := simWordsUptoRow.holds Try.pinned (OpenSpec.upto simWordsSpec)

/-- 'salvorlaw21.SimSmall', WHERE WHAT IT READS IS OF BULK AT MOST 1048576: true; the input reads as it did. -/
def simSmallUptoRow : OpenClaim := { program := "ytnmfdiiehkkjcaa", sum := "9655ebe1465f94f7aa2a9b7a3e3e8bd99035d228778561be1c1d3bf0a705bbb7", func := "salvor/salvorlaw21.SimSmall", spec := "simSmall", unfollowed := true, recurses := true, plainKeys := false, apart := false, narrowed := true }
def SimSmallUptoSaid : Prop := simSmallUptoRow.holds Try.pinned (OpenSpec.upto simSmallSpec)

/-- 'salvorlaw21.SimSupport', WHERE WHAT IT READS IS OF BULK AT MOST 1048576: true; the input reads as it did. -/
def simSupportUptoRow : OpenClaim := { program := "ytnmfdiiehkkjcaa", sum := "9655ebe1465f94f7aa2a9b7a3e3e8bd99035d228778561be1c1d3bf0a705bbb7", func := "salvor/salvorlaw21.SimSupport", spec := "simSupport", unfollowed := true, recurses := true, plainKeys := false, apart := false, narrowed := true }
def SimSupportUptoSaid : Prop := simSupportUptoRow.holds Try.pinned (OpenSpec.upto simSupportSpec)

/-- 'salvorlaw23.SumsLaws', WHERE WHAT IT READS IS OF BULK AT MOST 1048576: true; the input reads as it did. -/
def sumsLawsUptoRow : OpenClaim := { program := "ytnmfdiiehkkjcaa", sum := "9655ebe1465f94f7aa2a9b7a3e3e8bd99035d228778561be1c1d3bf0a705bbb7", func := "salvor/salvorlaw23.SumsLaws", spec := "sumsLaws", unfollowed := true, recurses := true, plainKeys := false, apart := false, narrowed := true }
def SumsLawsUptoSaid : Prop := sumsLawsUptoRow.holds Try.pinned (OpenSpec.upto sumsLawsSpec)

/-- 'salvorlaw25.ShiftsIs', WHERE WHAT IT READS IS OF BULK AT MOST 1048576: true; the input reads as it did. -/
def shiftsIsUptoRow : OpenClaim := { program := "ytnmfdiiehkkjcaa", sum := "9655ebe1465f94f7aa2a9b7a3e3e8bd99035d228778561be1c1d3bf0a705bbb7", func := "salvor/salvorlaw25.ShiftsIs", spec := "shiftsIs", unfollowed := true, recurses := true, plainKeys := false, apart := false, narrowed := true }
def ShiftsIsUptoSaid : Prop := shiftsIsUptoRow.holds Try.pinned (OpenSpec.upto shiftsIsSpec)

/-- 'salvorlaw25.ShiftsTwice', WHERE WHAT IT READS IS OF BULK AT MOST 1048576: true; the input reads as it did. -/
def shiftsTwiceUptoRow : OpenClaim := { program := "ytnmfdiiehkkjcaa", sum := "9655ebe1465f94f7aa2a9b7a3e3e8bd99035d228778561be1c1d3bf0a705bbb7", func := "salvor/salvorlaw25.ShiftsTwice", spec := "shiftsTwice", unfollowed := true, recurses := true, plainKeys := false, apart := false, narrowed := true }
def ShiftsTwiceUptoSaid : Prop := shiftsTwiceUptoRow.holds Try.pinned (OpenSpec.upto shiftsTwiceSpec)

end Rows
end Go.Proofs.Ytnmfdiiehkkjcaa
