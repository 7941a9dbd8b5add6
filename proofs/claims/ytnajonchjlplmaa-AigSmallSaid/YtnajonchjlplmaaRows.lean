/-
  No cell of these rows narrows 'for every input' (looked for: loops, veiled, ifaces, maps, wideKeys, modest, calm, conditions, laid).
  DERIVED. THE GIVEN ROWS OF THIS SEAT. 8 by the template 'for every input the law returns true; each argument reads behind the call as it read before'; 0 by the template 'total and deterministic' (their statements: YtnajonchjlplmaaTotals.lean).
  GIVEN WITH THE SEED: the statements are not yours to turn. If you find one false, say at which input.
  Laid BY PROGRAM, IN A SANDBOX (cutbox-rows.mjs): the forced cells as the released guide's own fill.sh prints them over the translation 6fe2e847429bfd6b… (all of the seat's roots in one cut). By AI agents, Wed Nov 11 2026. No macro, syntax, notation, axiom, sorry.
-/
import Derived.Test.YtnajonchjlplmaaChecked
import GoSem.Claim
import GoSem.ClaimJoined
import GoSem.ClaimMapViews
import Derived.JoinedTies
import Derived.KernelRfl
namespace Go.Proofs.Ytnajonchjlplmaa
/- THE CELL 'sum', in the pinned program and in every row, IS THE sha256 OF THE DUMP (.gsa) THAT YtnajonchjlplmaaProg.lean LOADS. Nothing in Lean hashes anything: it is a label: what it is worth is what the hold of that sum in a sandbox is worth. -/
noncomputable def Try.pinned : Pinned := { name := "ytnajonchjlplmaa", sum := "6fe2e847429bfd6be4f3f03f63d36eb9b820ba5baf3a4d24b978b4ce5f62dbfd", checked := Try.checked }
namespace Rows
def none {H : Type} : Left H := { results := [], args := [] }

/-- 'salvorlaw20.AigValues': WHATEVER THE INPUT: true; the input reads as it did. -/
def aigValuesSpec : ChangeSpec := { name := "aigValues", fn := fun _ => fun
  | [d] => { results := [.lit (.bool true)], args := [d] }
  | _ => none }
def aigValuesRow : OpenClaim := { program := "ytnajonchjlplmaa", sum := "6fe2e847429bfd6be4f3f03f63d36eb9b820ba5baf3a4d24b978b4ce5f62dbfd", func := "salvor/salvorlaw20.AigValues", spec := "aigValues", unfollowed := true, recurses := true, plainKeys := false, apart := false }
def AigValuesSaid : Prop := aigValuesRow.holds Try.pinned (OpenSpec.ofChange aigValuesSpec)

/-- ITS FALSE NEIGHBOUR: 'it returns false'. Refute it at one input. -/
def aigValuesWrong : ChangeSpec := { name := "aigValues", fn := fun _ => fun
  | [d] => { results := [.lit (.bool false)], args := [d] }
  | _ => none }
def AigValuesWrongFalsely : Prop := aigValuesRow.holds Try.pinned (OpenSpec.ofChange aigValuesWrong)

/-- 'salvorlaw20.AigOnce': WHATEVER THE INPUT: true; the input reads as it did. -/
def aigOnceSpec : ChangeSpec := { name := "aigOnce", fn := fun _ => fun
  | [d] => { results := [.lit (.bool true)], args := [d] }
  | _ => none }
def aigOnceRow : OpenClaim := { program := "ytnajonchjlplmaa", sum := "6fe2e847429bfd6be4f3f03f63d36eb9b820ba5baf3a4d24b978b4ce5f62dbfd", func := "salvor/salvorlaw20.AigOnce", spec := "aigOnce", unfollowed := true, recurses := true, plainKeys := false, apart := false }
def AigOnceSaid : Prop := aigOnceRow.holds Try.pinned (OpenSpec.ofChange aigOnceSpec)

/-- ITS FALSE NEIGHBOUR: 'it returns false'. Refute it at one input. -/
def aigOnceWrong : ChangeSpec := { name := "aigOnce", fn := fun _ => fun
  | [d] => { results := [.lit (.bool false)], args := [d] }
  | _ => none }
def AigOnceWrongFalsely : Prop := aigOnceRow.holds Try.pinned (OpenSpec.ofChange aigOnceWrong)

/-- 'salvorlaw20.AigRoom': WHATEVER THE INPUT: true; the input reads as it did. -/
def aigRoomSpec : ChangeSpec := { name := "aigRoom", fn := fun _ => fun
  | [d1, d2] => { results := [.lit (.bool true)], args := [d1, d2] }
  | _ => none }
def aigRoomRow : OpenClaim := { program := "ytnajonchjlplmaa", sum := "6fe2e847429bfd6be4f3f03f63d36eb9b820ba5baf3a4d24b978b4ce5f62dbfd", func := "salvor/salvorlaw20.AigRoom", spec := "aigRoom", unfollowed := true, recurses := true, plainKeys := false, apart := false }
def AigRoomSaid : Prop := aigRoomRow.holds Try.pinned (OpenSpec.ofChange aigRoomSpec)

/-- ITS FALSE NEIGHBOUR: 'it returns false'. Refute it at one input. -/
def aigRoomWrong : ChangeSpec := { name := "aigRoom", fn := fun _ => fun
  | [d1, d2] => { results := [.lit (.bool false)], args := [d1, d2] }
  | _ => none }
def AigRoomWrongFalsely : Prop := aigRoomRow.holds Try.pinned (OpenSpec.ofChange aigRoomWrong)

/-- 'salvorlaw20.AigWrong': WHATEVER THE INPUT: true; the input reads as it did. -/
def aigWrongSpec : ChangeSpec := { name := "aigWrong", fn := fun _ => fun
  | [d1, d2] => { results := [.lit (.bool true)], args := [d1, d2] }
  | _ => none }
def aigWrongRow : OpenClaim := { program := "ytnajonchjlplmaa", sum := "6fe2e847429bfd6be4f3f03f63d36eb9b820ba5baf3a4d24b978b4ce5f62dbfd", func := "salvor/salvorlaw20.AigWrong", spec := "aigWrong", unfollowed := true, recurses := true, plainKeys := false, apart := false }
def AigWrongSaid : Prop := aigWrongRow.holds Try.pinned (OpenSpec.ofChange aigWrongSpec)

/-- ITS FALSE NEIGHBOUR: 'it returns false'. Refute it at one input. -/
def aigWrongWrong : ChangeSpec := { name := "aigWrong", fn := fun _ => fun
  | [d1, d2] => { results := [.lit (.bool false)], args := [d1, d2] }
  | _ => none }
def AigWrongWrongFalsely : Prop := aigWrongRow.holds Try.pinned (OpenSpec.ofChange aigWrongWrong)

/-- 'salvorlaw20.AigDoes': WHATEVER THE INPUT: true; the input reads as it did. -/
def aigDoesSpec : ChangeSpec := { name := "aigDoes", fn := fun _ => fun
  | [d1, d2] => { results := [.lit (.bool true)], args := [d1, d2] }
  | _ => none }
def aigDoesRow : OpenClaim := { program := "ytnajonchjlplmaa", sum := "6fe2e847429bfd6be4f3f03f63d36eb9b820ba5baf3a4d24b978b4ce5f62dbfd", func := "salvor/salvorlaw20.AigDoes", spec := "aigDoes", unfollowed := true, recurses := true, plainKeys := false, apart := false }
def AigDoesSaid : Prop := aigDoesRow.holds Try.pinned (OpenSpec.ofChange aigDoesSpec)

/-- ITS FALSE NEIGHBOUR: 'it returns false'. Refute it at one input. -/
def aigDoesWrong : ChangeSpec := { name := "aigDoes", fn := fun _ => fun
  | [d1, d2] => { results := [.lit (.bool false)], args := [d1, d2] }
  | _ => none }
def AigDoesWrongFalsely : Prop := aigDoesRow.holds Try.pinned (OpenSpec.ofChange aigDoesWrong)

/-- 'salvorlaw20.AigSmall': WHATEVER THE INPUT: true; the input reads as it did. -/
def aigSmallSpec : ChangeSpec := { name := "aigSmall", fn := fun _ => fun
  | [] => { results := [.lit (.bool true)], args := [] }
  | _ => none }
def aigSmallRow : OpenClaim := { program := "ytnajonchjlplmaa", sum := "6fe2e847429bfd6be4f3f03f63d36eb9b820ba5baf3a4d24b978b4ce5f62dbfd", func := "salvor/salvorlaw20.AigSmall", spec := "aigSmall", unfollowed := true, recurses := true, plainKeys := false, apart := false }
def AigSmallSaid : Prop := aigSmallRow.holds Try.pinned (OpenSpec.ofChange aigSmallSpec)

/-- ITS FALSE NEIGHBOUR: 'it returns false'. Refute it at one input. -/
def aigSmallWrong : ChangeSpec := { name := "aigSmall", fn := fun _ => fun
  | [] => { results := [.lit (.bool false)], args := [] }
  | _ => none }
def AigSmallWrongFalsely : Prop := aigSmallRow.holds Try.pinned (OpenSpec.ofChange aigSmallWrong)

/-- 'salvorlaw20.AigCut': WHATEVER THE INPUT: true; the input reads as it did. -/
def aigCutSpec : ChangeSpec := { name := "aigCut", fn := fun _ => fun
  | [d1, d2] => { results := [.lit (.bool true)], args := [d1, d2] }
  | _ => none }
def aigCutRow : OpenClaim := { program := "ytnajonchjlplmaa", sum := "6fe2e847429bfd6be4f3f03f63d36eb9b820ba5baf3a4d24b978b4ce5f62dbfd", func := "salvor/salvorlaw20.AigCut", spec := "aigCut", unfollowed := true, recurses := true, plainKeys := false, apart := false }
def AigCutSaid : Prop := aigCutRow.holds Try.pinned (OpenSpec.ofChange aigCutSpec)

/-- ITS FALSE NEIGHBOUR: 'it returns false'. Refute it at one input. -/
def aigCutWrong : ChangeSpec := { name := "aigCut", fn := fun _ => fun
  | [d1, d2] => { results := [.lit (.bool false)], args := [d1, d2] }
  | _ => none }
def AigCutWrongFalsely : Prop := aigCutRow.holds Try.pinned (OpenSpec.ofChange aigCutWrong)

/-- 'salvorlaw20.AigCone': WHATEVER THE INPUT: true; the input reads as it did. -/
def aigConeSpec : ChangeSpec := { name := "aigCone", fn := fun _ => fun
  | [d1, d2] => { results := [.lit (.bool true)], args := [d1, d2] }
  | _ => none }
def aigConeRow : OpenClaim := { program := "ytnajonchjlplmaa", sum := "6fe2e847429bfd6be4f3f03f63d36eb9b820ba5baf3a4d24b978b4ce5f62dbfd", func := "salvor/salvorlaw20.AigCone", spec := "aigCone", unfollowed := true, recurses := true, plainKeys := false, apart := false }
def AigConeSaid : Prop := aigConeRow.holds Try.pinned (OpenSpec.ofChange aigConeSpec)

/-- ITS FALSE NEIGHBOUR: 'it returns false'. Refute it at one input. -/
def aigConeWrong : ChangeSpec := { name := "aigCone", fn := fun _ => fun
  | [d1, d2] => { results := [.lit (.bool false)], args := [d1, d2] }
  | _ => none }
def AigConeWrongFalsely : Prop := aigConeRow.holds Try.pinned (OpenSpec.ofChange aigConeWrong)

/- THE SECOND FORM. 'bulk': how many values and letters a reading holds, each counted each time it is reached (what is shared counts as often as it is met; a slice's spare places count too). A statement '..UptoSaid' is the law's where the arguments, and the package variables that the reading takes, are together of bulk at most 1048576: NARROWER than '..Said'. Prove '..Said' where nothing that the law and all that it calls make is longer than what came in: it says more and counts as full. Else prove '..UptoSaid'. A law counts once. -/
mutual
def uptoBulk {H : Type} : DataW H → Nat
  | .lit (.string bytes) => bytes.length + 1
  | .lit _ => 1
  | .nil => 1
  | .ptr d => uptoBulk d + 1
  | .slice elems spare => uptoBulkAll elems + uptoBulkAll spare + 1
  | .agg parts => uptoBulkAll parts + 1
  | .iface _ d => uptoBulk d + 1
  | .map entries => uptoBulkEntries entries + 1
  | .held _ => 1
def uptoBulkAll {H : Type} : List (DataW H) → Nat
  | [] => 0
  | d :: r => uptoBulk d + uptoBulkAll r
def uptoBulkEntries {H : Type} : List (Lit × DataW H) → Nat
  | [] => 0
  | x :: r => uptoBulkEntry x + uptoBulkEntries r
def uptoBulkEntry {H : Type} : Lit × DataW H → Nat
  | (.string bytes, d) => bytes.length + uptoBulk d + 1
  | (_, d) => uptoBulk d + 1
 end
def uptoSmall : (H : Type) → List (DataW H) → Bool := fun _ ds => decide (uptoBulkAll ds ≤ 1048576)
def OpenSpec.upto (s : _root_.Go.ChangeSpec) : _root_.Go.OpenSpec := { _root_.Go.OpenSpec.ofChange s with cond := some uptoSmall }

/-- 'salvorlaw20.AigValues', WHERE WHAT IT READS IS OF BULK AT MOST 1048576: true; the input reads as it did. -/
def aigValuesUptoRow : OpenClaim := { program := "ytnajonchjlplmaa", sum := "6fe2e847429bfd6be4f3f03f63d36eb9b820ba5baf3a4d24b978b4ce5f62dbfd", func := "salvor/salvorlaw20.AigValues", spec := "aigValues", unfollowed := true, recurses := true, plainKeys := false, apart := false, narrowed := true }
def AigValuesUptoSaid : Prop := aigValuesUptoRow.holds Try.pinned (OpenSpec.upto aigValuesSpec)

/-- 'salvorlaw20.AigOnce', WHERE WHAT IT READS IS OF BULK AT MOST 1048576: true; the input reads as it did. -/
def aigOnceUptoRow : OpenClaim := { program := "ytnajonchjlplmaa", sum := "6fe2e847429bfd6be4f3f03f63d36eb9b820ba5baf3a4d24b978b4ce5f62dbfd", func := "salvor/salvorlaw20.AigOnce", spec := "aigOnce", unfollowed := true, recurses := true, plainKeys := false, apart := false, narrowed := true }
def AigOnceUptoSaid : Prop := aigOnceUptoRow.holds Try.pinned (OpenSpec.upto aigOnceSpec)

/-- 'salvorlaw20.AigRoom', WHERE WHAT IT READS IS OF BULK AT MOST 1048576: true; the input reads as it did. -/
def aigRoomUptoRow : OpenClaim := { program := "ytnajonchjlplmaa", sum := "6fe2e847429bfd6be4f3f03f63d36eb9b820ba5baf3a4d24b978b4ce5f62dbfd", func := "salvor/salvorlaw20.AigRoom", spec := "aigRoom", unfollowed := true, recurses := true, plainKeys := false, apart := false, narrowed := true }
def AigRoomUptoSaid : Prop := aigRoomUptoRow.holds Try.pinned (OpenSpec.upto aigRoomSpec)

/-- 'salvorlaw20.AigWrong', WHERE WHAT IT READS IS OF BULK AT MOST 1048576: true; the input reads as it did. -/
def aigWrongUptoRow : OpenClaim := { program := "ytnajonchjlplmaa", sum := "6fe2e847429bfd6be4f3f03f63d36eb9b820ba5baf3a4d24b978b4ce5f62dbfd", func := "salvor/salvorlaw20.AigWrong", spec := "aigWrong", unfollowed := true, recurses := true, plainKeys := false, apart := false, narrowed := true }
def AigWrongUptoSaid : Prop := aigWrongUptoRow.holds Try.pinned (OpenSpec.upto aigWrongSpec)

/-- 'salvorlaw20.AigDoes', WHERE WHAT IT READS IS OF BULK AT MOST 1048576: true; the input reads as it did. -/
def aigDoesUptoRow : OpenClaim := { program := "ytnajonchjlplmaa", sum := "6fe2e847429bfd6be4f3f03f63d36eb9b820ba5baf3a4d24b978b4ce5f62dbfd", func := "salvor/salvorlaw20.AigDoes", spec := "aigDoes", unfollowed := true, recurses := true, plainKeys := false, apart := false, narrowed := true }
def AigDoesUptoSaid : Prop := aigDoesUptoRow.holds Try.pinned (OpenSpec.upto aigDoesSpec)

/-- 'salvorlaw20.AigSmall', WHERE WHAT IT READS IS OF BULK AT MOST 1048576: true; the input reads as it did. -/
def aigSmallUptoRow : OpenClaim := { program := "ytnajonchjlplmaa", sum := "6fe2e847429bfd6be4f3f03f63d36eb9b820ba5baf3a4d24b978b4ce5f62dbfd", func := "salvor/salvorlaw20.AigSmall", spec := "aigSmall", unfollowed := true, recurses := true, plainKeys := false, apart := false, narrowed := true }
def AigSmallUptoSaid : Prop := aigSmallUptoRow.holds Try.pinned (OpenSpec.upto aigSmallSpec)

/-- 'salvorlaw20.AigCut', WHERE WHAT IT READS IS OF BULK AT MOST 1048576: true; the input reads as it did. -/
def aigCutUptoRow : OpenClaim := { program := "ytnajonchjlplmaa", sum := "6fe2e847429bfd6be4f3f03f63d36eb9b820ba5baf3a4d24b978b4ce5f62dbfd", func := "salvor/salvorlaw20.AigCut", spec := "aigCut", unfollowed := true, recurses := true, plainKeys := false, apart := false, narrowed := true }
def AigCutUptoSaid : Prop := aigCutUptoRow.holds Try.pinned (OpenSpec.upto aigCutSpec)

/-- 'salvorlaw20.AigCone', WHERE WHAT IT READS IS OF BULK AT MOST 1048576: true; the input reads as it did. -/
def aigConeUptoRow : OpenClaim := { program := "ytnajonchjlplmaa", sum := "6fe2e847429bfd6be4f3f03f63d36eb9b820ba5baf3a4d24b978b4ce5f62dbfd", func := "salvor/salvorlaw20.AigCone", spec := "aigCone", unfollowed := true, recurses := true, plainKeys := false, apart := false, narrowed := true }
def AigConeUptoSaid : Prop := aigConeUptoRow.holds Try.pinned (OpenSpec.upto aigConeSpec)

end Rows
end Go.Proofs.Ytnajonchjlplmaa
