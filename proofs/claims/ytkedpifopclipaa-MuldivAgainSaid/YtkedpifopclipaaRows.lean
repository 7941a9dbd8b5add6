/-
  No cell of these rows narrows 'for every input' (looked for: loops, veiled, ifaces, maps, wideKeys, modest, calm, conditions, laid).
  DERIVED. THE GIVEN ROWS OF THIS SEAT. 10 by the template 'for every input the law returns true; each argument reads behind the call as it read before'; 0 by the template 'total and deterministic' (their statements: YtkedpifopclipaaTotals.lean).
  GIVEN WITH THE SEED: the statements are not yours to turn. If you find one false, say at which input.
  Laid BY PROGRAM, IN A SANDBOX (cutbox-rows.mjs): the forced cells as the released guide's own fill.sh prints them over the translation 1d5e0de762d11ec6… (all of the seat's roots in one cut). By AI agents, Wed Nov 11 2026. No macro, syntax, notation, axiom, sorry.
-/
import Derived.Test.YtkedpifopclipaaChecked
import GoSem.Claim
import GoSem.ClaimJoined
import GoSem.ClaimMapViews
import Derived.JoinedTies
import Derived.KernelRfl
namespace Go.Proofs.Ytkedpifopclipaa
/- THE CELL 'sum', in the pinned program and in every row, IS THE sha256 OF THE DUMP (.gsa) THAT YtkedpifopclipaaProg.lean LOADS. Nothing in Lean hashes anything: it is a label: what it is worth is what the hold of that sum in a sandbox is worth. -/
noncomputable def Try.pinned : Pinned := { name := "ytkedpifopclipaa", sum := "1d5e0de762d11ec63fda3292c79dc510962297fa2de8bf50c99e35a732c0b0fb", checked := Try.checked }
namespace Rows
def none {H : Type} : Left H := { results := [], args := [] }

/-- 'salvorlaw27.TseitinWrites': WHATEVER THE INPUT: true; the input reads as it did. -/
def tseitinWritesSpec : ChangeSpec := { name := "tseitinWrites", fn := fun _ => fun
  | [d1, d2, d3, d4, d5] => { results := [.lit (.bool true)], args := [d1, d2, d3, d4, d5] }
  | _ => none }
def tseitinWritesRow : OpenClaim := { program := "ytkedpifopclipaa", sum := "1d5e0de762d11ec63fda3292c79dc510962297fa2de8bf50c99e35a732c0b0fb", func := "salvor/salvorlaw27.TseitinWrites", spec := "tseitinWrites", unfollowed := true, recurses := true, plainKeys := false, apart := false }
def TseitinWritesSaid : Prop := tseitinWritesRow.holds Try.pinned (OpenSpec.ofChange tseitinWritesSpec)

/-- ITS FALSE NEIGHBOUR: 'it returns false'. Refute it at one input. -/
def tseitinWritesWrong : ChangeSpec := { name := "tseitinWrites", fn := fun _ => fun
  | [d1, d2, d3, d4, d5] => { results := [.lit (.bool false)], args := [d1, d2, d3, d4, d5] }
  | _ => none }
def TseitinWritesWrongFalsely : Prop := tseitinWritesRow.holds Try.pinned (OpenSpec.ofChange tseitinWritesWrong)

/-- 'salvorlaw27.TseitinSizes': WHATEVER THE INPUT: true; the input reads as it did. -/
def tseitinSizesSpec : ChangeSpec := { name := "tseitinSizes", fn := fun _ => fun
  | [d1, d2] => { results := [.lit (.bool true)], args := [d1, d2] }
  | _ => none }
def tseitinSizesRow : OpenClaim := { program := "ytkedpifopclipaa", sum := "1d5e0de762d11ec63fda3292c79dc510962297fa2de8bf50c99e35a732c0b0fb", func := "salvor/salvorlaw27.TseitinSizes", spec := "tseitinSizes", unfollowed := true, recurses := true, plainKeys := false, apart := false }
def TseitinSizesSaid : Prop := tseitinSizesRow.holds Try.pinned (OpenSpec.ofChange tseitinSizesSpec)

/-- ITS FALSE NEIGHBOUR: 'it returns false'. Refute it at one input. -/
def tseitinSizesWrong : ChangeSpec := { name := "tseitinSizes", fn := fun _ => fun
  | [d1, d2] => { results := [.lit (.bool false)], args := [d1, d2] }
  | _ => none }
def TseitinSizesWrongFalsely : Prop := tseitinSizesRow.holds Try.pinned (OpenSpec.ofChange tseitinSizesWrong)

/-- 'salvorlaw27.TseitinReads': WHATEVER THE INPUT: true; the input reads as it did. -/
def tseitinReadsSpec : ChangeSpec := { name := "tseitinReads", fn := fun _ => fun
  | [d1, d2, d3, d4] => { results := [.lit (.bool true)], args := [d1, d2, d3, d4] }
  | _ => none }
def tseitinReadsRow : OpenClaim := { program := "ytkedpifopclipaa", sum := "1d5e0de762d11ec63fda3292c79dc510962297fa2de8bf50c99e35a732c0b0fb", func := "salvor/salvorlaw27.TseitinReads", spec := "tseitinReads", unfollowed := true, recurses := true, plainKeys := false, apart := false }
def TseitinReadsSaid : Prop := tseitinReadsRow.holds Try.pinned (OpenSpec.ofChange tseitinReadsSpec)

/-- ITS FALSE NEIGHBOUR: 'it returns false'. Refute it at one input. -/
def tseitinReadsWrong : ChangeSpec := { name := "tseitinReads", fn := fun _ => fun
  | [d1, d2, d3, d4] => { results := [.lit (.bool false)], args := [d1, d2, d3, d4] }
  | _ => none }
def TseitinReadsWrongFalsely : Prop := tseitinReadsRow.holds Try.pinned (OpenSpec.ofChange tseitinReadsWrong)

/-- 'salvorlaw27.TseitinWrong': WHATEVER THE INPUT: true; the input reads as it did. -/
def tseitinWrongSpec : ChangeSpec := { name := "tseitinWrong", fn := fun _ => fun
  | [d1, d2, d3] => { results := [.lit (.bool true)], args := [d1, d2, d3] }
  | _ => none }
def tseitinWrongRow : OpenClaim := { program := "ytkedpifopclipaa", sum := "1d5e0de762d11ec63fda3292c79dc510962297fa2de8bf50c99e35a732c0b0fb", func := "salvor/salvorlaw27.TseitinWrong", spec := "tseitinWrong", unfollowed := true, recurses := true, plainKeys := false, apart := false }
def TseitinWrongSaid : Prop := tseitinWrongRow.holds Try.pinned (OpenSpec.ofChange tseitinWrongSpec)

/-- ITS FALSE NEIGHBOUR: 'it returns false'. Refute it at one input. -/
def tseitinWrongWrong : ChangeSpec := { name := "tseitinWrong", fn := fun _ => fun
  | [d1, d2, d3] => { results := [.lit (.bool false)], args := [d1, d2, d3] }
  | _ => none }
def TseitinWrongWrongFalsely : Prop := tseitinWrongRow.holds Try.pinned (OpenSpec.ofChange tseitinWrongWrong)

/-- 'salvorlaw27.TseitinModels': WHATEVER THE INPUT: true; the input reads as it did. -/
def tseitinModelsSpec : ChangeSpec := { name := "tseitinModels", fn := fun _ => fun
  | [d1, d2] => { results := [.lit (.bool true)], args := [d1, d2] }
  | _ => none }
def tseitinModelsRow : OpenClaim := { program := "ytkedpifopclipaa", sum := "1d5e0de762d11ec63fda3292c79dc510962297fa2de8bf50c99e35a732c0b0fb", func := "salvor/salvorlaw27.TseitinModels", spec := "tseitinModels", unfollowed := true, recurses := true, plainKeys := false, apart := false }
def TseitinModelsSaid : Prop := tseitinModelsRow.holds Try.pinned (OpenSpec.ofChange tseitinModelsSpec)

/-- ITS FALSE NEIGHBOUR: 'it returns false'. Refute it at one input. -/
def tseitinModelsWrong : ChangeSpec := { name := "tseitinModels", fn := fun _ => fun
  | [d1, d2] => { results := [.lit (.bool false)], args := [d1, d2] }
  | _ => none }
def TseitinModelsWrongFalsely : Prop := tseitinModelsRow.holds Try.pinned (OpenSpec.ofChange tseitinModelsWrong)

/-- 'salvorlaw27.TseitinRoots': WHATEVER THE INPUT: true; the input reads as it did. -/
def tseitinRootsSpec : ChangeSpec := { name := "tseitinRoots", fn := fun _ => fun
  | [d1, d2, d3] => { results := [.lit (.bool true)], args := [d1, d2, d3] }
  | _ => none }
def tseitinRootsRow : OpenClaim := { program := "ytkedpifopclipaa", sum := "1d5e0de762d11ec63fda3292c79dc510962297fa2de8bf50c99e35a732c0b0fb", func := "salvor/salvorlaw27.TseitinRoots", spec := "tseitinRoots", unfollowed := true, recurses := true, plainKeys := false, apart := false }
def TseitinRootsSaid : Prop := tseitinRootsRow.holds Try.pinned (OpenSpec.ofChange tseitinRootsSpec)

/-- ITS FALSE NEIGHBOUR: 'it returns false'. Refute it at one input. -/
def tseitinRootsWrong : ChangeSpec := { name := "tseitinRoots", fn := fun _ => fun
  | [d1, d2, d3] => { results := [.lit (.bool false)], args := [d1, d2, d3] }
  | _ => none }
def TseitinRootsWrongFalsely : Prop := tseitinRootsRow.holds Try.pinned (OpenSpec.ofChange tseitinRootsWrong)

/-- 'salvorlaw27.TseitinCount': WHATEVER THE INPUT: true; the input reads as it did. -/
def tseitinCountSpec : ChangeSpec := { name := "tseitinCount", fn := fun _ => fun
  | [d1, d2] => { results := [.lit (.bool true)], args := [d1, d2] }
  | _ => none }
def tseitinCountRow : OpenClaim := { program := "ytkedpifopclipaa", sum := "1d5e0de762d11ec63fda3292c79dc510962297fa2de8bf50c99e35a732c0b0fb", func := "salvor/salvorlaw27.TseitinCount", spec := "tseitinCount", unfollowed := true, recurses := true, plainKeys := false, apart := false }
def TseitinCountSaid : Prop := tseitinCountRow.holds Try.pinned (OpenSpec.ofChange tseitinCountSpec)

/-- ITS FALSE NEIGHBOUR: 'it returns false'. Refute it at one input. -/
def tseitinCountWrong : ChangeSpec := { name := "tseitinCount", fn := fun _ => fun
  | [d1, d2] => { results := [.lit (.bool false)], args := [d1, d2] }
  | _ => none }
def TseitinCountWrongFalsely : Prop := tseitinCountRow.holds Try.pinned (OpenSpec.ofChange tseitinCountWrong)

/-- 'salvorlaw24.MuldivWrong': WHATEVER THE INPUT: true; the input reads as it did. -/
def muldivWrongSpec : ChangeSpec := { name := "muldivWrong", fn := fun _ => fun
  | [d1, d2] => { results := [.lit (.bool true)], args := [d1, d2] }
  | _ => none }
def muldivWrongRow : OpenClaim := { program := "ytkedpifopclipaa", sum := "1d5e0de762d11ec63fda3292c79dc510962297fa2de8bf50c99e35a732c0b0fb", func := "salvor/salvorlaw24.MuldivWrong", spec := "muldivWrong", unfollowed := true, recurses := true, plainKeys := false, apart := false }
def MuldivWrongSaid : Prop := muldivWrongRow.holds Try.pinned (OpenSpec.ofChange muldivWrongSpec)

/-- ITS FALSE NEIGHBOUR: 'it returns false'. Refute it at one input. -/
def muldivWrongWrong : ChangeSpec := { name := "muldivWrong", fn := fun _ => fun
  | [d1, d2] => { results := [.lit (.bool false)], args := [d1, d2] }
  | _ => none }
def MuldivWrongWrongFalsely : Prop := muldivWrongRow.holds Try.pinned (OpenSpec.ofChange muldivWrongWrong)

/-- 'salvorlaw24.MuldivAgain': WHATEVER THE INPUT: true; the input reads as it did. -/
def muldivAgainSpec : ChangeSpec := { name := "muldivAgain", fn := fun _ => fun
  | [d1, d2] => { results := [.lit (.bool true)], args := [d1, d2] }
  | _ => none }
def muldivAgainRow : OpenClaim := { program := "ytkedpifopclipaa", sum := "1d5e0de762d11ec63fda3292c79dc510962297fa2de8bf50c99e35a732c0b0fb", func := "salvor/salvorlaw24.MuldivAgain", spec := "muldivAgain", unfollowed := true, recurses := true, plainKeys := false, apart := false }
def MuldivAgainSaid : Prop := muldivAgainRow.holds Try.pinned (OpenSpec.ofChange muldivAgainSpec)

/-- ITS FALSE NEIGHBOUR: 'it returns false'. Refute it at one input. -/
def muldivAgainWrong : ChangeSpec := { name := "muldivAgain", fn := fun _ => fun
  | [d1, d2] => { results := [.lit (.bool false)], args := [d1, d2] }
  | _ => none }
def MuldivAgainWrongFalsely : Prop := muldivAgainRow.holds Try.pinned (OpenSpec.ofChange muldivAgainWrong)

/-- 'salvorlaw24.MuldivLaws': WHATEVER THE INPUT: true; the input reads as it did. -/
def muldivLawsSpec : ChangeSpec := { name := "muldivLaws", fn := fun _ => fun
  | [d] => { results := [.lit (.bool true)], args := [d] }
  | _ => none }
def muldivLawsRow : OpenClaim := { program := "ytkedpifopclipaa", sum := "1d5e0de762d11ec63fda3292c79dc510962297fa2de8bf50c99e35a732c0b0fb", func := "salvor/salvorlaw24.MuldivLaws", spec := "muldivLaws", unfollowed := true, recurses := true, plainKeys := false, apart := false }
def MuldivLawsSaid : Prop := muldivLawsRow.holds Try.pinned (OpenSpec.ofChange muldivLawsSpec)

/-- ITS FALSE NEIGHBOUR: 'it returns false'. Refute it at one input. -/
def muldivLawsWrong : ChangeSpec := { name := "muldivLaws", fn := fun _ => fun
  | [d] => { results := [.lit (.bool false)], args := [d] }
  | _ => none }
def MuldivLawsWrongFalsely : Prop := muldivLawsRow.holds Try.pinned (OpenSpec.ofChange muldivLawsWrong)

/- THE SECOND FORM. 'bulk': how many values and letters a reading holds, each counted each time it is reached (what is shared counts as often as it is met; a slice's spare places count too). A statement '..UptoSaid' is the law's where the arguments, and the package variables that the reading takes, are together of bulk at most 1048576: NARROWER than '..Said'. Prove '..Said' where nothing that the law and all that it calls make is longer than what came in: it says more and counts as full. Else prove '..UptoSaid'. A law counts once. -/
mutual
def uptoBulk {H : Type} : DataW H → Nat
  | .lit (.string bytes) => bytes.length + 1
  | .lit _ => 1
  | .nil => 1
  | .ptr d => uptoBulk d + 1
  | .slice elems spare => uptoBulkAll elems + uptoBulkAll spare + 1
  | .agg parts => uptoBulkAll parts + 1
  | .iface _ d => uptoBulk d + 1
  | .map entries => uptoBulkEntries entries + 1
  | .held _ => 1
def uptoBulkAll {H : Type} : List (DataW H) → Nat
  | [] => 0
  | d :: r => uptoBulk d + uptoBulkAll r
def uptoBulkEntries {H : Type} : List (Lit × DataW H) → Nat
  | [] => 0
  | x :: r => uptoBulkEntry x + uptoBulkEntries r
def uptoBulkEntry {H : Type} : Lit × DataW H → Nat
  | (.string bytes, d) => bytes.length + uptoBulk d + 1
  | (_, d) => uptoBulk d + 1
 end
def uptoSmall : (H : Type) → List (DataW H) → Bool := fun _ ds => decide (uptoBulkAll ds ≤ 1048576)
def OpenSpec.upto (s : _root_.Go.ChangeSpec) : _root_.Go.OpenSpec := { _root_.Go.OpenSpec.ofChange s with cond := some uptoSmall }

/-- 'salvorlaw27.TseitinWrites', WHERE WHAT IT READS IS OF BULK AT MOST 1048576: true; the input reads as it did. -/
def tseitinWritesUptoRow : OpenClaim := { program := "ytkedpifopclipaa", sum := "1d5e0de762d11ec63fda3292c79dc510962297fa2de8bf50c99e35a732c0b0fb", func := "salvor/salvorlaw27.TseitinWrites", spec := "tseitinWrites", unfollowed := true, recurses := true, plainKeys := false, apart := false, narrowed := true }
def TseitinWritesUptoSaid : Prop := tseitinWritesUptoRow.holds Try.pinned (OpenSpec.upto tseitinWritesSpec)

/-- 'salvorlaw27.TseitinSizes', WHERE WHAT IT READS IS OF BULK AT MOST 1048576: true; the input reads as it did. -/
def tseitinSizesUptoRow : OpenClaim := { program := "ytkedpifopclipaa", sum := "1d5e0de762d11ec63fda3292c79dc510962297fa2de8bf50c99e35a732c0b0fb", func := "salvor/salvorlaw27.TseitinSizes", spec := "tseitinSizes", unfollowed := true, recurses := true, plainKeys := false, apart := false, narrowed := true }
def TseitinSizesUptoSaid : Prop := tseitinSizesUptoRow.holds Try.pinned (OpenSpec.upto tseitinSizesSpec)

/-- 'salvorlaw27.TseitinReads', WHERE WHAT IT READS IS OF BULK AT MOST 1048576: true; the input reads as it did. -/
def tseitinReadsUptoRow : OpenClaim := { program := "ytkedpifopclipaa", sum := "1d5e0de762d11ec63fda3292c79dc510962297fa2de8bf50c99e35a732c0b0fb", func := "salvor/salvorlaw27.TseitinReads", spec := "tseitinReads", unfollowed := true, recurses := true, plainKeys := false, apart := false, narrowed := true }
def TseitinReadsUptoSaid : Prop := tseitinReadsUptoRow.holds Try.pinned (OpenSpec.upto tseitinReadsSpec)

/-- 'salvorlaw27.TseitinWrong', WHERE WHAT IT READS IS OF BULK AT MOST 1048576: true; the input reads as it did. -/
def tseitinWrongUptoRow : OpenClaim := { program := "ytkedpifopclipaa", sum := "1d5e0de762d11ec63fda3292c79dc510962297fa2de8bf50c99e35a732c0b0fb", func := "salvor/salvorlaw27.TseitinWrong", spec := "tseitinWrong", unfollowed := true, recurses := true, plainKeys := false, apart := false, narrowed := true }
def TseitinWrongUptoSaid : Prop := tseitinWrongUptoRow.holds Try.pinned (OpenSpec.upto tseitinWrongSpec)

/-- 'salvorlaw27.TseitinModels', WHERE WHAT IT READS IS OF BULK AT MOST 1048576: true; the input reads as it did. -/
def tseitinModelsUptoRow : OpenClaim := { program := "ytkedpifopclipaa", sum := "1d5e0de762d11ec63fda3292c79dc510962297fa2de8bf50c99e35a732c0b0fb", func := "salvor/salvorlaw27.TseitinModels", spec := "tseitinModels", unfollowed := true, recurses := true, plainKeys := false, apart := false, narrowed := true }
def TseitinModelsUptoSaid : Prop := tseitinModelsUptoRow.holds Try.pinned (OpenSpec.upto tseitinModelsSpec)

/-- 'salvorlaw27.TseitinRoots', WHERE WHAT IT READS IS OF BULK AT MOST 1048576: true; the input reads as it did. -/
def tseitinRootsUptoRow : OpenClaim := { program := "ytkedpifopclipaa", sum := "1d5e0de762d11ec63fda3292c79dc510962297fa2de8bf50c99e35a732c0b0fb", func := "salvor/salvorlaw27.TseitinRoots", spec := "tseitinRoots", unfollowed := true, recurses := true, plainKeys := false, apart := false, narrowed := true }
def TseitinRootsUptoSaid : Prop := tseitinRootsUptoRow.holds Try.pinned (OpenSpec.upto tseitinRootsSpec)

/-- 'salvorlaw27.TseitinCount', WHERE WHAT IT READS IS OF BULK AT MOST 1048576: true; the input reads as it did. -/
def tseitinCountUptoRow : OpenClaim := { program := "ytkedpifopclipaa", sum := "1d5e0de762d11ec63fda3292c79dc510962297fa2de8bf50c99e35a732c0b0fb", func := "salvor/salvorlaw27.TseitinCount", spec := "tseitinCount", unfollowed := true, recurses := true, plainKeys := false, apart := false, narrowed := true }
def TseitinCountUptoSaid : Prop := tseitinCountUptoRow.holds Try.pinned (OpenSpec.upto tseitinCountSpec)

/-- 'salvorlaw24.MuldivWrong', WHERE WHAT IT READS IS OF BULK AT MOST 1048576: true; the input reads as it did. -/
def muldivWrongUptoRow : OpenClaim := { program := "ytkedpifopclipaa", sum := "1d5e0de762d11ec63fda3292c79dc510962297fa2de8bf50c99e35a732c0b0fb", func := "salvor/salvorlaw24.MuldivWrong", spec := "muldivWrong", unfollowed := true, recurses := true, plainKeys := false, apart := false, narrowed := true }
def MuldivWrongUptoSaid : Prop := muldivWrongUptoRow.holds Try.pinned (OpenSpec.upto muldivWrongSpec)

/-- 'salvorlaw24.MuldivAgain', WHERE WHAT IT READS IS OF BULK AT MOST 1048576: true; the input reads as it did. -/
def muldivAgainUptoRow : OpenClaim := { program := "ytkedpifopclipaa", sum := "1d5e0de762d11ec63fda3292c79dc510962297fa2de8bf50c99e35a732c0b0fb", func := "salvor/salvorlaw24.MuldivAgain", spec := "muldivAgain", unfollowed := true, recurses := true, plainKeys := false, apart := false, narrowed := true }
def MuldivAgainUptoSaid : Prop := muldivAgainUptoRow.holds Try.pinned (OpenSpec.upto muldivAgainSpec)

/-- 'salvorlaw24.MuldivLaws', WHERE WHAT IT READS IS OF BULK AT MOST 1048576: true; the input reads as it did. -/
def muldivLawsUptoRow : OpenClaim := { program := "ytkedpifopclipaa", sum := "1d5e0de762d11ec63fda3292c79dc510962297fa2de8bf50c99e35a732c0b0fb", func := "salvor/salvorlaw24.MuldivLaws", spec := "muldivLaws", unfollowed := true, recurses := true, plainKeys := false, apart := false, narrowed := true }
def MuldivLawsUptoSaid : Prop := muldivLawsUptoRow.holds Try.pinned (OpenSpec.upto muldivLawsSpec)

end Rows
end Go.Proofs.Ytkedpifopclipaa
