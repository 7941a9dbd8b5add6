/-
  No cell of these rows narrows 'for every input' (looked for: loops, veiled, ifaces, maps, wideKeys, modest, calm, conditions, laid).
  DERIVED. THE GIVEN ROWS OF THIS SEAT. 9 by the template 'for every input the law returns true; each argument reads behind the call as it read before'; 0 by the template 'total and deterministic' (their statements: YtchledddgmbndaaTotals.lean).
  GIVEN WITH THE SEED: the statements are not yours to turn. If you find one false, say at which input.
  Laid BY PROGRAM, IN A SANDBOX (cutbox-rows.mjs): the forced cells as the released guide's own fill.sh prints them over the translation 9024971d1122ac3e… (all of the seat's roots in one cut). By AI agents, Wed Nov 11 2026. No macro, syntax, notation, axiom, sorry.
-/
import Derived.Test.YtchledddgmbndaaChecked
import GoSem.Claim
import GoSem.ClaimJoined
import GoSem.ClaimMapViews
import Derived.JoinedTies
import Derived.KernelRfl
namespace Go.Proofs.Ytchledddgmbndaa
/- THE CELL 'sum', in the pinned program and in every row, IS THE sha256 OF THE DUMP (.gsa) THAT YtchledddgmbndaaProg.lean LOADS. Nothing in Lean hashes anything: it is a label: what it is worth is what the hold of that sum in a sandbox is worth. -/
noncomputable def Try.pinned : Pinned := { name := "ytchledddgmbndaa", sum := "9024971d1122ac3ef3c43955ff9b627d223b8f8427c7a4c5adcc352e5e1bd58f", checked := Try.checked }
namespace Rows
def none {H : Type} : Left H := { results := [], args := [] }

/-- 'salvorlaw23.SumsWords': WHATEVER THE INPUT: true; the input reads as it did. -/
def sumsWordsSpec : ChangeSpec := { name := "sumsWords", fn := fun _ => fun
  | [d1, d2, d3, d4] => { results := [.lit (.bool true)], args := [d1, d2, d3, d4] }
  | _ => none }
def sumsWordsRow : OpenClaim := { program := "ytchledddgmbndaa", sum := "9024971d1122ac3ef3c43955ff9b627d223b8f8427c7a4c5adcc352e5e1bd58f", func := "salvor/salvorlaw23.SumsWords", spec := "sumsWords", unfollowed := true, recurses := true, plainKeys := false, apart := false }
def SumsWordsSaid : Prop := sumsWordsRow.holds Try.pinned (OpenSpec.ofChange sumsWordsSpec)

/-- ITS FALSE NEIGHBOUR: 'it returns false'. Refute it at one input. -/
def sumsWordsWrong : ChangeSpec := { name := "sumsWords", fn := fun _ => fun
  | [d1, d2, d3, d4] => { results := [.lit (.bool false)], args := [d1, d2, d3, d4] }
  | _ => none }
def SumsWordsWrongFalsely : Prop := sumsWordsRow.holds Try.pinned (OpenSpec.ofChange sumsWordsWrong)

/-- 'salvorlaw23.SumsWrong': WHATEVER THE INPUT: true; the input reads as it did. -/
def sumsWrongSpec : ChangeSpec := { name := "sumsWrong", fn := fun _ => fun
  | [d1, d2] => { results := [.lit (.bool true)], args := [d1, d2] }
  | _ => none }
def sumsWrongRow : OpenClaim := { program := "ytchledddgmbndaa", sum := "9024971d1122ac3ef3c43955ff9b627d223b8f8427c7a4c5adcc352e5e1bd58f", func := "salvor/salvorlaw23.SumsWrong", spec := "sumsWrong", unfollowed := true, recurses := true, plainKeys := false, apart := false }
def SumsWrongSaid : Prop := sumsWrongRow.holds Try.pinned (OpenSpec.ofChange sumsWrongSpec)

/-- ITS FALSE NEIGHBOUR: 'it returns false'. Refute it at one input. -/
def sumsWrongWrong : ChangeSpec := { name := "sumsWrong", fn := fun _ => fun
  | [d1, d2] => { results := [.lit (.bool false)], args := [d1, d2] }
  | _ => none }
def SumsWrongWrongFalsely : Prop := sumsWrongRow.holds Try.pinned (OpenSpec.ofChange sumsWrongWrong)

/-- 'salvorlaw23.SumsAgain': WHATEVER THE INPUT: true; the input reads as it did. -/
def sumsAgainSpec : ChangeSpec := { name := "sumsAgain", fn := fun _ => fun
  | [d] => { results := [.lit (.bool true)], args := [d] }
  | _ => none }
def sumsAgainRow : OpenClaim := { program := "ytchledddgmbndaa", sum := "9024971d1122ac3ef3c43955ff9b627d223b8f8427c7a4c5adcc352e5e1bd58f", func := "salvor/salvorlaw23.SumsAgain", spec := "sumsAgain", unfollowed := true, recurses := true, plainKeys := false, apart := false }
def SumsAgainSaid : Prop := sumsAgainRow.holds Try.pinned (OpenSpec.ofChange sumsAgainSpec)

/-- ITS FALSE NEIGHBOUR: 'it returns false'. Refute it at one input. -/
def sumsAgainWrong : ChangeSpec := { name := "sumsAgain", fn := fun _ => fun
  | [d] => { results := [.lit (.bool false)], args := [d] }
  | _ => none }
def SumsAgainWrongFalsely : Prop := sumsAgainRow.holds Try.pinned (OpenSpec.ofChange sumsAgainWrong)

/-- 'salvorlaw25.ShiftsWords': WHATEVER THE INPUT: true; the input reads as it did. -/
def shiftsWordsSpec : ChangeSpec := { name := "shiftsWords", fn := fun _ => fun
  | [d1, d2, d3, d4] => { results := [.lit (.bool true)], args := [d1, d2, d3, d4] }
  | _ => none }
def shiftsWordsRow : OpenClaim := { program := "ytchledddgmbndaa", sum := "9024971d1122ac3ef3c43955ff9b627d223b8f8427c7a4c5adcc352e5e1bd58f", func := "salvor/salvorlaw25.ShiftsWords", spec := "shiftsWords", unfollowed := true, recurses := true, plainKeys := false, apart := false }
def ShiftsWordsSaid : Prop := shiftsWordsRow.holds Try.pinned (OpenSpec.ofChange shiftsWordsSpec)

/-- ITS FALSE NEIGHBOUR: 'it returns false'. Refute it at one input. -/
def shiftsWordsWrong : ChangeSpec := { name := "shiftsWords", fn := fun _ => fun
  | [d1, d2, d3, d4] => { results := [.lit (.bool false)], args := [d1, d2, d3, d4] }
  | _ => none }
def ShiftsWordsWrongFalsely : Prop := shiftsWordsRow.holds Try.pinned (OpenSpec.ofChange shiftsWordsWrong)

/-- 'salvorlaw25.ShiftsFixed': WHATEVER THE INPUT: true; the input reads as it did. -/
def shiftsFixedSpec : ChangeSpec := { name := "shiftsFixed", fn := fun _ => fun
  | [d1, d2, d3] => { results := [.lit (.bool true)], args := [d1, d2, d3] }
  | _ => none }
def shiftsFixedRow : OpenClaim := { program := "ytchledddgmbndaa", sum := "9024971d1122ac3ef3c43955ff9b627d223b8f8427c7a4c5adcc352e5e1bd58f", func := "salvor/salvorlaw25.ShiftsFixed", spec := "shiftsFixed", unfollowed := true, recurses := true, plainKeys := false, apart := false }
def ShiftsFixedSaid : Prop := shiftsFixedRow.holds Try.pinned (OpenSpec.ofChange shiftsFixedSpec)

/-- ITS FALSE NEIGHBOUR: 'it returns false'. Refute it at one input. -/
def shiftsFixedWrong : ChangeSpec := { name := "shiftsFixed", fn := fun _ => fun
  | [d1, d2, d3] => { results := [.lit (.bool false)], args := [d1, d2, d3] }
  | _ => none }
def ShiftsFixedWrongFalsely : Prop := shiftsFixedRow.holds Try.pinned (OpenSpec.ofChange shiftsFixedWrong)

/-- 'salvorlaw25.ShiftsWrong': WHATEVER THE INPUT: true; the input reads as it did. -/
def shiftsWrongSpec : ChangeSpec := { name := "shiftsWrong", fn := fun _ => fun
  | [d1, d2, d3] => { results := [.lit (.bool true)], args := [d1, d2, d3] }
  | _ => none }
def shiftsWrongRow : OpenClaim := { program := "ytchledddgmbndaa", sum := "9024971d1122ac3ef3c43955ff9b627d223b8f8427c7a4c5adcc352e5e1bd58f", func := "salvor/salvorlaw25.ShiftsWrong", spec := "shiftsWrong", unfollowed := true, recurses := true, plainKeys := false, apart := false }
def ShiftsWrongSaid : Prop := shiftsWrongRow.holds Try.pinned (OpenSpec.ofChange shiftsWrongSpec)

/-- ITS FALSE NEIGHBOUR: 'it returns false'. Refute it at one input. -/
def shiftsWrongWrong : ChangeSpec := { name := "shiftsWrong", fn := fun _ => fun
  | [d1, d2, d3] => { results := [.lit (.bool false)], args := [d1, d2, d3] }
  | _ => none }
def ShiftsWrongWrongFalsely : Prop := shiftsWrongRow.holds Try.pinned (OpenSpec.ofChange shiftsWrongWrong)

/-- 'salvorlaw25.ShiftsMakes': WHATEVER THE INPUT: true; the input reads as it did. -/
def shiftsMakesSpec : ChangeSpec := { name := "shiftsMakes", fn := fun _ => fun
  | [d1, d2] => { results := [.lit (.bool true)], args := [d1, d2] }
  | _ => none }
def shiftsMakesRow : OpenClaim := { program := "ytchledddgmbndaa", sum := "9024971d1122ac3ef3c43955ff9b627d223b8f8427c7a4c5adcc352e5e1bd58f", func := "salvor/salvorlaw25.ShiftsMakes", spec := "shiftsMakes", unfollowed := true, recurses := true, plainKeys := false, apart := false }
def ShiftsMakesSaid : Prop := shiftsMakesRow.holds Try.pinned (OpenSpec.ofChange shiftsMakesSpec)

/-- ITS FALSE NEIGHBOUR: 'it returns false'. Refute it at one input. -/
def shiftsMakesWrong : ChangeSpec := { name := "shiftsMakes", fn := fun _ => fun
  | [d1, d2] => { results := [.lit (.bool false)], args := [d1, d2] }
  | _ => none }
def ShiftsMakesWrongFalsely : Prop := shiftsMakesRow.holds Try.pinned (OpenSpec.ofChange shiftsMakesWrong)

/-- 'salvorlaw25.ShiftsSmall': WHATEVER THE INPUT: true; the input reads as it did. -/
def shiftsSmallSpec : ChangeSpec := { name := "shiftsSmall", fn := fun _ => fun
  | [] => { results := [.lit (.bool true)], args := [] }
  | _ => none }
def shiftsSmallRow : OpenClaim := { program := "ytchledddgmbndaa", sum := "9024971d1122ac3ef3c43955ff9b627d223b8f8427c7a4c5adcc352e5e1bd58f", func := "salvor/salvorlaw25.ShiftsSmall", spec := "shiftsSmall", unfollowed := true, recurses := true, plainKeys := false, apart := false }
def ShiftsSmallSaid : Prop := shiftsSmallRow.holds Try.pinned (OpenSpec.ofChange shiftsSmallSpec)

/-- ITS FALSE NEIGHBOUR: 'it returns false'. Refute it at one input. -/
def shiftsSmallWrong : ChangeSpec := { name := "shiftsSmall", fn := fun _ => fun
  | [] => { results := [.lit (.bool false)], args := [] }
  | _ => none }
def ShiftsSmallWrongFalsely : Prop := shiftsSmallRow.holds Try.pinned (OpenSpec.ofChange shiftsSmallWrong)

/-- 'salvorlaw25.ShiftsTurn': WHATEVER THE INPUT: true; the input reads as it did. -/
def shiftsTurnSpec : ChangeSpec := { name := "shiftsTurn", fn := fun _ => fun
  | [d1, d2, d3] => { results := [.lit (.bool true)], args := [d1, d2, d3] }
  | _ => none }
def shiftsTurnRow : OpenClaim := { program := "ytchledddgmbndaa", sum := "9024971d1122ac3ef3c43955ff9b627d223b8f8427c7a4c5adcc352e5e1bd58f", func := "salvor/salvorlaw25.ShiftsTurn", spec := "shiftsTurn", unfollowed := true, recurses := true, plainKeys := false, apart := false }
def ShiftsTurnSaid : Prop := shiftsTurnRow.holds Try.pinned (OpenSpec.ofChange shiftsTurnSpec)

/-- ITS FALSE NEIGHBOUR: 'it returns false'. Refute it at one input. -/
def shiftsTurnWrong : ChangeSpec := { name := "shiftsTurn", fn := fun _ => fun
  | [d1, d2, d3] => { results := [.lit (.bool false)], args := [d1, d2, d3] }
  | _ => none }
def ShiftsTurnWrongFalsely : Prop := shiftsTurnRow.holds Try.pinned (OpenSpec.ofChange shiftsTurnWrong)

/- THE SECOND FORM. 'bulk': how many values and letters a reading holds, each counted each time it is reached (what is shared counts as often as it is met; a slice's spare places count too). A statement '..UptoSaid' is the law's where the arguments, and the package variables that the reading takes, are together of bulk at most 1048576: NARROWER than '..Said'. Prove '..Said' where nothing that the law and all that it calls make is longer than what came in: it says more and counts as full. Else prove '..UptoSaid'. A law counts once. -/
mutual
def uptoBulk {H : Type} : DataW H → Nat
  | .lit (.string bytes) => bytes.length + 1
  | .lit _ => 1
  | .nil => 1
  | .ptr d => uptoBulk d + 1
  | .slice elems spare => uptoBulkAll elems + uptoBulkAll spare + 1
  | .agg parts => uptoBulkAll parts + 1
  | .iface _ d => uptoBulk d + 1
  | .map entries => uptoBulkEntries entries + 1
  | .held _ => 1
def uptoBulkAll {H : Type} : List (DataW H) → Nat
  | [] => 0
  | d :: r => uptoBulk d + uptoBulkAll r
def uptoBulkEntries {H : Type} : List (Lit × DataW H) → Nat
  | [] => 0
  | x :: r => uptoBulkEntry x + uptoBulkEntries r
def uptoBulkEntry {H : Type} : Lit × DataW H → Nat
  | (.string bytes, d) => bytes.length + uptoBulk d + 1
  | (_, d) => uptoBulk d + 1
 end
def uptoSmall : (H : Type) → List (DataW H) → Bool := fun _ ds => decide (uptoBulkAll ds ≤ 1048576)
def OpenSpec.upto (s : _root_.Go.ChangeSpec) : _root_.Go.OpenSpec := { _root_.Go.OpenSpec.ofChange s with cond := some uptoSmall }

/-- 'salvorlaw23.SumsWords', WHERE WHAT IT READS IS OF BULK AT MOST 1048576: true; the input reads as it did. -/
def sumsWordsUptoRow : OpenClaim := { program := "ytchledddgmbndaa", sum := "9024971d1122ac3ef3c43955ff9b627d223b8f8427c7a4c5adcc352e5e1bd58f", func := "salvor/salvorlaw23.SumsWords", spec := "sumsWords", unfollowed := true, recurses := true, plainKeys := false, apart := false, narrowed := true }
def SumsWordsUptoSaid : Prop := sumsWordsUptoRow.holds Try.pinned (OpenSpec.upto sumsWordsSpec)

/-- 'salvorlaw23.SumsWrong', WHERE WHAT IT READS IS OF BULK AT MOST 1048576: true; the input reads as it did. -/
def sumsWrongUptoRow : OpenClaim := { program := "ytchledddgmbndaa", sum := "9024971d1122ac3ef3c43955ff9b627d223b8f8427c7a4c5adcc352e5e1bd58f", func := "salvor/salvorlaw23.SumsWrong", spec := "sumsWrong", unfollowed := true, recurses := true, plainKeys := false, apart := false, narrowed := true }
def SumsWrongUptoSaid : Prop := sumsWrongUptoRow.holds Try.pinned (OpenSpec.upto sumsWrongSpec)

/-- 'salvorlaw23.SumsAgain', WHERE WHAT IT READS IS OF BULK AT MOST 1048576: true; the input reads as it did. -/
def sumsAgainUptoRow : OpenClaim := { program := "ytchledddgmbndaa", sum := "9024971d1122ac3ef3c43955ff9b627d223b8f8427c7a4c5adcc352e5e1bd58f", func := "salvor/salvorlaw23.SumsAgain", spec := "sumsAgain", unfollowed := true, recurses := true, plainKeys := false, apart := false, narrowed := true }
def SumsAgainUptoSaid : Prop := sumsAgainUptoRow.holds Try.pinned (OpenSpec.upto sumsAgainSpec)

/-- 'salvorlaw25.ShiftsWords', WHERE WHAT IT READS IS OF BULK AT MOST 1048576: true; the input reads as it did. -/
def shiftsWordsUptoRow : OpenClaim := { program := "ytchledddgmbndaa", sum := "9024971d1122ac3ef3c43955ff9b627d223b8f8427c7a4c5adcc352e5e1bd58f", func := "salvor/salvorlaw25.ShiftsWords", spec := "shiftsWords", unfollowed := true, recurses := true, plainKeys := false, apart := false, narrowed := true }
def ShiftsWordsUptoSaid : Prop := shiftsWordsUptoRow.holds Try.pinned (OpenSpec.upto shiftsWordsSpec)

/-- 'salvorlaw25.ShiftsFixed', WHERE WHAT IT READS IS OF BULK AT MOST 1048576: true; the input reads as it did. -/
def shiftsFixedUptoRow : OpenClaim := { program := "ytchledddgmbndaa", sum := "9024971d1122ac3ef3c43955ff9b627d223b8f8427c7a4c5adcc352e5e1bd58f", func := "salvor/salvorlaw25.ShiftsFixed", spec := "shiftsFixed", unfollowed := true, recurses := true, plainKeys := false, apart := false, narrowed := true }
def ShiftsFixedUptoSaid : Prop := shiftsFixedUptoRow.holds Try.pinned (OpenSpec.upto shiftsFixedSpec)

/-- 'salvorlaw25.ShiftsWrong', WHERE WHAT IT READS IS OF BULK AT MOST 1048576: true; the input reads as it did. -/
def shiftsWrongUptoRow : OpenClaim := { program := "ytchledddgmbndaa", sum := "9024971d1122ac3ef3c43955ff9b627d223b8f8427c7a4c5adcc352e5e1bd58f", func := "salvor/salvorlaw25.ShiftsWrong", spec := "shiftsWrong", unfollowed := true, recurses := true, plainKeys := false, apart := false, narrowed := true }
def ShiftsWrongUptoSaid : Prop := shiftsWrongUptoRow.holds Try.pinned (OpenSpec.upto shiftsWrongSpec)

/-- 'salvorlaw25.ShiftsMakes', WHERE WHAT IT READS IS OF BULK AT MOST 1048576: true; the input reads as it did. -/
def shiftsMakesUptoRow : OpenClaim := { program := "ytchledddgmbndaa", sum := "9024971d1122ac3ef3c43955ff9b627d223b8f8427c7a4c5adcc352e5e1bd58f", func := "salvor/salvorlaw25.ShiftsMakes", spec := "shiftsMakes", unfollowed := true, recurses := true, plainKeys := false, apart := false, narrowed := true }
def ShiftsMakesUptoSaid : Prop := shiftsMakesUptoRow.holds Try.pinned (OpenSpec.upto shiftsMakesSpec)

/-- 'salvorlaw25.ShiftsSmall', WHERE WHAT IT READS IS OF BULK AT MOST 1048576: true; the input reads as it did. -/
def shiftsSmallUptoRow : OpenClaim := { program := "ytchledddgmbndaa", sum := "9024971d1122ac3ef3c43955ff9b627d223b8f8427c7a4c5adcc352e5e1bd58f", func := "salvor/salvorlaw25.ShiftsSmall", spec := "shiftsSmall", unfollowed := true, recurses := true, plainKeys := false, apart := false, narrowed := true }
def ShiftsSmallUptoSaid : Prop := shiftsSmallUptoRow.holds Try.pinned (OpenSpec.upto shiftsSmallSpec)

/-- 'salvorlaw25.ShiftsTurn', WHERE WHAT IT READS IS OF BULK AT MOST 1048576: true; the input reads as it did. -/
def shiftsTurnUptoRow : OpenClaim := { program := "ytchledddgmbndaa", sum := "9024971d1122ac3ef3c43955ff9b627d223b8f8427c7a4c5adcc352e5e1bd58f", func := "salvor/salvorlaw25.ShiftsTurn", spec := "shiftsTurn", unfollowed := true, recurses := true, plainKeys := false, apart := false, narrowed := true }
def ShiftsTurnUptoSaid : Prop := shiftsTurnUptoRow.holds Try.pinned (OpenSpec.upto shiftsTurnSpec)

end Rows
end Go.Proofs.Ytchledddgmbndaa
