/-
  No cell of these rows narrows 'for every input' (looked for: loops, veiled, ifaces, maps, wideKeys, modest, calm, conditions, laid).
  DERIVED. THE GIVEN ROWS OF THIS SEAT. 3 by the template 'for every input the law returns true; each argument reads behind the call as it read before'; 0 by the template 'total and deterministic' (their statements: YtchledddgmbndaaGreatTotals.lean).
  GIVEN WITH THE SEED: the statements are not yours to turn. If you find one false, say at which input.
  Laid BY PROGRAM, IN A SANDBOX (cutbox-rows.mjs): the forced cells as the released guide's own fill.sh prints them over the translation 4853074e8c36e5e6… (all of the seat's roots in one cut). By AI agents, Wed Nov 11 2026. No macro, syntax, notation, axiom, sorry.
-/
import Derived.Test.YtchledddgmbndaaGreatChecked
import GoSem.Claim
import GoSem.ClaimJoined
import GoSem.ClaimMapViews
import Derived.JoinedTies
import Derived.KernelRfl
namespace Go.Proofs.YtchledddgmbndaaGreat
/- THE CELL 'sum', in the pinned program and in every row, IS THE sha256 OF THE DUMP (.gsa) THAT YtchledddgmbndaaGreatProg.lean LOADS. Nothing in Lean hashes anything: it is a label: what it is worth is what the hold of that sum in a sandbox is worth. -/
noncomputable def Tryz.pinned : Pinned := { name := "ytchledddgmbndaagreat", sum := "4853074e8c36e5e6e4219c48024480d4762d65d6e4eec4837a594cf7e3a1a0cd", checked := Tryz.checked }
namespace Rows
def none {H : Type} : Left H := { results := [], args := [] }

/-- 'salvorlaw23.SumsMakes': WHATEVER THE INPUT: true; the input reads as it did. -/
def sumsMakesSpec : ChangeSpec := { name := "sumsMakes", fn := fun _ => fun
  | [d1, d2] => { results := [.lit (.bool true)], args := [d1, d2] }
  | _ => none }
def sumsMakesRow : OpenClaim := { program := "ytchledddgmbndaagreat", sum := "4853074e8c36e5e6e4219c48024480d4762d65d6e4eec4837a594cf7e3a1a0cd", func := "salvor/salvorlaw23.SumsMakes", spec := "sumsMakes", unfollowed := true, recurses := true, plainKeys := false, apart := false }
def SumsMakesSaid : Prop := sumsMakesRow.holds Tryz.pinned (OpenSpec.ofChange sumsMakesSpec)

/-- ITS FALSE NEIGHBOUR: 'it returns false'. Refute it at one input. -/
def sumsMakesWrong : ChangeSpec := { name := "sumsMakes", fn := fun _ => fun
  | [d1, d2] => { results := [.lit (.bool false)], args := [d1, d2] }
  | _ => none }
def SumsMakesWrongFalsely : Prop := sumsMakesRow.holds Tryz.pinned (OpenSpec.ofChange sumsMakesWrong)

/-- 'salvorlaw23.SumsSmall': WHATEVER THE INPUT: true; the input reads as it did. -/
def sumsSmallSpec : ChangeSpec := { name := "sumsSmall", fn := fun _ => fun
  | [] => { results := [.lit (.bool true)], args := [] }
  | _ => none }
def sumsSmallRow : OpenClaim := { program := "ytchledddgmbndaagreat", sum := "4853074e8c36e5e6e4219c48024480d4762d65d6e4eec4837a594cf7e3a1a0cd", func := "salvor/salvorlaw23.SumsSmall", spec := "sumsSmall", unfollowed := true, recurses := true, plainKeys := false, apart := false }
def SumsSmallSaid : Prop := sumsSmallRow.holds Tryz.pinned (OpenSpec.ofChange sumsSmallSpec)

/-- ITS FALSE NEIGHBOUR: 'it returns false'. Refute it at one input. -/
def sumsSmallWrong : ChangeSpec := { name := "sumsSmall", fn := fun _ => fun
  | [] => { results := [.lit (.bool false)], args := [] }
  | _ => none }
def SumsSmallWrongFalsely : Prop := sumsSmallRow.holds Tryz.pinned (OpenSpec.ofChange sumsSmallWrong)

/-- 'salvorlaw23.SumsConsts': WHATEVER THE INPUT: true; the input reads as it did. -/
def sumsConstsSpec : ChangeSpec := { name := "sumsConsts", fn := fun _ => fun
  | [d1, d2, d3] => { results := [.lit (.bool true)], args := [d1, d2, d3] }
  | _ => none }
def sumsConstsRow : OpenClaim := { program := "ytchledddgmbndaagreat", sum := "4853074e8c36e5e6e4219c48024480d4762d65d6e4eec4837a594cf7e3a1a0cd", func := "salvor/salvorlaw23.SumsConsts", spec := "sumsConsts", unfollowed := true, recurses := true, plainKeys := false, apart := false }
def SumsConstsSaid : Prop := sumsConstsRow.holds Tryz.pinned (OpenSpec.ofChange sumsConstsSpec)

/-- ITS FALSE NEIGHBOUR: 'it returns false'. Refute it at one input. -/
def sumsConstsWrong : ChangeSpec := { name := "sumsConsts", fn := fun _ => fun
  | [d1, d2, d3] => { results := [.lit (.bool false)], args := [d1, d2, d3] }
  | _ => none }
def SumsConstsWrongFalsely : Prop := sumsConstsRow.holds Tryz.pinned (OpenSpec.ofChange sumsConstsWrong)

/- THE SECOND FORM. 'bulk': how many values and letters a reading holds, each counted each time it is reached (what is shared counts as often as it is met; a slice's spare places count too). A statement '..UptoSaid' is the law's where the arguments, and the package variables that the reading takes, are together of bulk at most 1048576: NARROWER than '..Said'. Prove '..Said' where nothing that the law and all that it calls make is longer than what came in: it says more and counts as full. Else prove '..UptoSaid'. A law counts once. -/
mutual
def uptoBulk {H : Type} : DataW H → Nat
  | .lit (.string bytes) => bytes.length + 1
  | .lit _ => 1
  | .nil => 1
  | .ptr d => uptoBulk d + 1
  | .slice elems spare => uptoBulkAll elems + uptoBulkAll spare + 1
  | .agg parts => uptoBulkAll parts + 1
  | .iface _ d => uptoBulk d + 1
  | .map entries => uptoBulkEntries entries + 1
  | .held _ => 1
def uptoBulkAll {H : Type} : List (DataW H) → Nat
  | [] => 0
  | d :: r => uptoBulk d + uptoBulkAll r
def uptoBulkEntries {H : Type} : List (Lit × DataW H) → Nat
  | [] => 0
  | x :: r => uptoBulkEntry x + uptoBulkEntries r
def uptoBulkEntry {H : Type} : Lit × DataW H → Nat
  | (.string bytes, d) => bytes.length + uptoBulk d + 1
  | (_, d) => uptoBulk d + 1
 end
def uptoSmall : (H : Type) → List (DataW H) → Bool := fun _ ds => decide (uptoBulkAll ds ≤ 1048576)
def OpenSpec.upto (s : _root_.Go.ChangeSpec) : _root_.Go.OpenSpec := { _root_.Go.OpenSpec.ofChange s with cond := some uptoSmall }

/-- 'salvorlaw23.SumsMakes', WHERE WHAT IT READS IS OF BULK AT MOST 1048576: true; the input reads as it did. -/
def sumsMakesUptoRow : OpenClaim := { program := "ytchledddgmbndaagreat", sum := "4853074e8c36e5e6e4219c48024480d4762d65d6e4eec4837a594cf7e3a1a0cd", func := "salvor/salvorlaw23.SumsMakes", spec := "sumsMakes", unfollowed := true, recurses := true, plainKeys := false, apart := false, narrowed := true }
def SumsMakesUptoSaid : Prop := sumsMakesUptoRow.holds Tryz.pinned (OpenSpec.upto sumsMakesSpec)

/-- 'salvorlaw23.SumsSmall', WHERE WHAT IT READS IS OF BULK AT MOST 1048576: true; the input reads as it did. -/
def sumsSmallUptoRow : OpenClaim := { program := "ytchledddgmbndaagreat", sum := "4853074e8c36e5e6e4219c48024480d4762d65d6e4eec4837a594cf7e3a1a0cd", func := "salvor/salvorlaw23.SumsSmall", spec := "sumsSmall", unfollowed := true, recurses := true, plainKeys := false, apart := false, narrowed := true }
def SumsSmallUptoSaid : Prop := sumsSmallUptoRow.holds Tryz.pinned (OpenSpec.upto sumsSmallSpec)

/-- 'salvorlaw23.SumsConsts', WHERE WHAT IT READS IS OF BULK AT MOST 1048576: true; the input reads as it did. -/
def sumsConstsUptoRow : OpenClaim := { program := "ytchledddgmbndaagreat", sum := "4853074e8c36e5e6e4219c48024480d4762d65d6e4eec4837a594cf7e3a1a0cd", func := "salvor/salvorlaw23.SumsConsts", spec := "sumsConsts", unfollowed := true, recurses := true, plainKeys := false, apart := false, narrowed := true }
def SumsConstsUptoSaid : Prop := sumsConstsUptoRow.holds Tryz.pinned (OpenSpec.upto sumsConstsSpec)

end Rows
end Go.Proofs.YtchledddgmbndaaGreat
