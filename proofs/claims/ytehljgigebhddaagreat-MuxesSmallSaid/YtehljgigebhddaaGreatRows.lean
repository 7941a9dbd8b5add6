/-
  No cell of these rows narrows 'for every input' (looked for: loops, veiled, ifaces, maps, wideKeys, modest, calm, conditions, laid).
  DERIVED. THE GIVEN ROWS OF THIS SEAT. 9 by the template 'for every input the law returns true; each argument reads behind the call as it read before'; 0 by the template 'total and deterministic' (their statements: YtehljgigebhddaaGreatTotals.lean).
  GIVEN WITH THE SEED: the statements are not yours to turn. If you find one false, say at which input.
  Laid BY PROGRAM, IN A SANDBOX (cutbox-rows.mjs): the forced cells as the released guide's own fill.sh prints them over the translation f5435a5d0ab76c6d… (all of the seat's roots in one cut). By AI agents, Wed Nov 11 2026. No macro, syntax, notation, axiom, sorry.
-/
import Derived.Test.YtehljgigebhddaaGreatChecked
import GoSem.Claim
import GoSem.ClaimJoined
import GoSem.ClaimMapViews
import Derived.JoinedTies
import Derived.KernelRfl
namespace Go.Proofs.YtehljgigebhddaaGreat
/- THE CELL 'sum', in the pinned program and in every row, IS THE sha256 OF THE DUMP (.gsa) THAT YtehljgigebhddaaGreatProg.lean LOADS. Nothing in Lean hashes anything: it is a label: what it is worth is what the hold of that sum in a sandbox is worth. -/
noncomputable def Tryz.pinned : Pinned := { name := "ytehljgigebhddaagreat", sum := "f5435a5d0ab76c6de5a4a0a7e190857f7cd82fa21836c06d8887a42d17801df0", checked := Tryz.checked }
namespace Rows
def none {H : Type} : Left H := { results := [], args := [] }

/-- 'salvorlaw26.MuxesMakes': WHATEVER THE INPUT: true; the input reads as it did. -/
def muxesMakesSpec : ChangeSpec := { name := "muxesMakes", fn := fun _ => fun
  | [d1, d2] => { results := [.lit (.bool true)], args := [d1, d2] }
  | _ => none }
def muxesMakesRow : OpenClaim := { program := "ytehljgigebhddaagreat", sum := "f5435a5d0ab76c6de5a4a0a7e190857f7cd82fa21836c06d8887a42d17801df0", func := "salvor/salvorlaw26.MuxesMakes", spec := "muxesMakes", unfollowed := true, recurses := true, plainKeys := false, apart := false }
def MuxesMakesSaid : Prop := muxesMakesRow.holds Tryz.pinned (OpenSpec.ofChange muxesMakesSpec)

/-- ITS FALSE NEIGHBOUR: 'it returns false'. Refute it at one input. -/
def muxesMakesWrong : ChangeSpec := { name := "muxesMakes", fn := fun _ => fun
  | [d1, d2] => { results := [.lit (.bool false)], args := [d1, d2] }
  | _ => none }
def MuxesMakesWrongFalsely : Prop := muxesMakesRow.holds Tryz.pinned (OpenSpec.ofChange muxesMakesWrong)

/-- 'salvorlaw26.MuxesSmall': WHATEVER THE INPUT: true; the input reads as it did. -/
def muxesSmallSpec : ChangeSpec := { name := "muxesSmall", fn := fun _ => fun
  | [] => { results := [.lit (.bool true)], args := [] }
  | _ => none }
def muxesSmallRow : OpenClaim := { program := "ytehljgigebhddaagreat", sum := "f5435a5d0ab76c6de5a4a0a7e190857f7cd82fa21836c06d8887a42d17801df0", func := "salvor/salvorlaw26.MuxesSmall", spec := "muxesSmall", unfollowed := true, recurses := true, plainKeys := false, apart := false }
def MuxesSmallSaid : Prop := muxesSmallRow.holds Tryz.pinned (OpenSpec.ofChange muxesSmallSpec)

/-- ITS FALSE NEIGHBOUR: 'it returns false'. Refute it at one input. -/
def muxesSmallWrong : ChangeSpec := { name := "muxesSmall", fn := fun _ => fun
  | [] => { results := [.lit (.bool false)], args := [] }
  | _ => none }
def MuxesSmallWrongFalsely : Prop := muxesSmallRow.holds Tryz.pinned (OpenSpec.ofChange muxesSmallWrong)

/-- 'salvorlaw24.MuldivMakes': WHATEVER THE INPUT: true; the input reads as it did. -/
def muldivMakesSpec : ChangeSpec := { name := "muldivMakes", fn := fun _ => fun
  | [d1, d2] => { results := [.lit (.bool true)], args := [d1, d2] }
  | _ => none }
def muldivMakesRow : OpenClaim := { program := "ytehljgigebhddaagreat", sum := "f5435a5d0ab76c6de5a4a0a7e190857f7cd82fa21836c06d8887a42d17801df0", func := "salvor/salvorlaw24.MuldivMakes", spec := "muldivMakes", unfollowed := true, recurses := true, plainKeys := false, apart := false }
def MuldivMakesSaid : Prop := muldivMakesRow.holds Tryz.pinned (OpenSpec.ofChange muldivMakesSpec)

/-- ITS FALSE NEIGHBOUR: 'it returns false'. Refute it at one input. -/
def muldivMakesWrong : ChangeSpec := { name := "muldivMakes", fn := fun _ => fun
  | [d1, d2] => { results := [.lit (.bool false)], args := [d1, d2] }
  | _ => none }
def MuldivMakesWrongFalsely : Prop := muldivMakesRow.holds Tryz.pinned (OpenSpec.ofChange muldivMakesWrong)

/-- 'salvorlaw24.MuldivSmall': WHATEVER THE INPUT: true; the input reads as it did. -/
def muldivSmallSpec : ChangeSpec := { name := "muldivSmall", fn := fun _ => fun
  | [] => { results := [.lit (.bool true)], args := [] }
  | _ => none }
def muldivSmallRow : OpenClaim := { program := "ytehljgigebhddaagreat", sum := "f5435a5d0ab76c6de5a4a0a7e190857f7cd82fa21836c06d8887a42d17801df0", func := "salvor/salvorlaw24.MuldivSmall", spec := "muldivSmall", unfollowed := true, recurses := true, plainKeys := false, apart := false }
def MuldivSmallSaid : Prop := muldivSmallRow.holds Tryz.pinned (OpenSpec.ofChange muldivSmallSpec)

/-- ITS FALSE NEIGHBOUR: 'it returns false'. Refute it at one input. -/
def muldivSmallWrong : ChangeSpec := { name := "muldivSmall", fn := fun _ => fun
  | [] => { results := [.lit (.bool false)], args := [] }
  | _ => none }
def MuldivSmallWrongFalsely : Prop := muldivSmallRow.holds Tryz.pinned (OpenSpec.ofChange muldivSmallWrong)

/-- 'salvorlaw40.SymdiskSets': WHATEVER THE INPUT: true; the input reads as it did. -/
def symdiskSetsSpec : ChangeSpec := { name := "symdiskSets", fn := fun _ => fun
  | [d1, d2, d3, d4] => { results := [.lit (.bool true)], args := [d1, d2, d3, d4] }
  | _ => none }
def symdiskSetsRow : OpenClaim := { program := "ytehljgigebhddaagreat", sum := "f5435a5d0ab76c6de5a4a0a7e190857f7cd82fa21836c06d8887a42d17801df0", func := "salvor/salvorlaw40.SymdiskSets", spec := "symdiskSets", unfollowed := true, recurses := true, plainKeys := false, apart := false }
def SymdiskSetsSaid : Prop := symdiskSetsRow.holds Tryz.pinned (OpenSpec.ofChange symdiskSetsSpec)

/-- ITS FALSE NEIGHBOUR: 'it returns false'. Refute it at one input. -/
def symdiskSetsWrong : ChangeSpec := { name := "symdiskSets", fn := fun _ => fun
  | [d1, d2, d3, d4] => { results := [.lit (.bool false)], args := [d1, d2, d3, d4] }
  | _ => none }
def SymdiskSetsWrongFalsely : Prop := symdiskSetsRow.holds Tryz.pinned (OpenSpec.ofChange symdiskSetsWrong)

/-- 'salvorlaw40.SymdiskIs': WHATEVER THE INPUT: true; the input reads as it did. -/
def symdiskIsSpec : ChangeSpec := { name := "symdiskIs", fn := fun _ => fun
  | [d1, d2, d3, d4] => { results := [.lit (.bool true)], args := [d1, d2, d3, d4] }
  | _ => none }
def symdiskIsRow : OpenClaim := { program := "ytehljgigebhddaagreat", sum := "f5435a5d0ab76c6de5a4a0a7e190857f7cd82fa21836c06d8887a42d17801df0", func := "salvor/salvorlaw40.SymdiskIs", spec := "symdiskIs", unfollowed := true, recurses := true, plainKeys := false, apart := false }
def SymdiskIsSaid : Prop := symdiskIsRow.holds Tryz.pinned (OpenSpec.ofChange symdiskIsSpec)

/-- ITS FALSE NEIGHBOUR: 'it returns false'. Refute it at one input. -/
def symdiskIsWrong : ChangeSpec := { name := "symdiskIs", fn := fun _ => fun
  | [d1, d2, d3, d4] => { results := [.lit (.bool false)], args := [d1, d2, d3, d4] }
  | _ => none }
def SymdiskIsWrongFalsely : Prop := symdiskIsRow.holds Tryz.pinned (OpenSpec.ofChange symdiskIsWrong)

/-- 'salvorlaw40.SymdiskCopies': WHATEVER THE INPUT: true; the input reads as it did. -/
def symdiskCopiesSpec : ChangeSpec := { name := "symdiskCopies", fn := fun _ => fun
  | [d1, d2, d3, d4] => { results := [.lit (.bool true)], args := [d1, d2, d3, d4] }
  | _ => none }
def symdiskCopiesRow : OpenClaim := { program := "ytehljgigebhddaagreat", sum := "f5435a5d0ab76c6de5a4a0a7e190857f7cd82fa21836c06d8887a42d17801df0", func := "salvor/salvorlaw40.SymdiskCopies", spec := "symdiskCopies", unfollowed := true, recurses := true, plainKeys := false, apart := false }
def SymdiskCopiesSaid : Prop := symdiskCopiesRow.holds Tryz.pinned (OpenSpec.ofChange symdiskCopiesSpec)

/-- ITS FALSE NEIGHBOUR: 'it returns false'. Refute it at one input. -/
def symdiskCopiesWrong : ChangeSpec := { name := "symdiskCopies", fn := fun _ => fun
  | [d1, d2, d3, d4] => { results := [.lit (.bool false)], args := [d1, d2, d3, d4] }
  | _ => none }
def SymdiskCopiesWrongFalsely : Prop := symdiskCopiesRow.holds Tryz.pinned (OpenSpec.ofChange symdiskCopiesWrong)

/-- 'salvorlaw40.SymdiskDoes': WHATEVER THE INPUT: true; the input reads as it did. -/
def symdiskDoesSpec : ChangeSpec := { name := "symdiskDoes", fn := fun _ => fun
  | [d1, d2, d3] => { results := [.lit (.bool true)], args := [d1, d2, d3] }
  | _ => none }
def symdiskDoesRow : OpenClaim := { program := "ytehljgigebhddaagreat", sum := "f5435a5d0ab76c6de5a4a0a7e190857f7cd82fa21836c06d8887a42d17801df0", func := "salvor/salvorlaw40.SymdiskDoes", spec := "symdiskDoes", unfollowed := true, recurses := true, plainKeys := false, apart := false }
def SymdiskDoesSaid : Prop := symdiskDoesRow.holds Tryz.pinned (OpenSpec.ofChange symdiskDoesSpec)

/-- ITS FALSE NEIGHBOUR: 'it returns false'. Refute it at one input. -/
def symdiskDoesWrong : ChangeSpec := { name := "symdiskDoes", fn := fun _ => fun
  | [d1, d2, d3] => { results := [.lit (.bool false)], args := [d1, d2, d3] }
  | _ => none }
def SymdiskDoesWrongFalsely : Prop := symdiskDoesRow.holds Tryz.pinned (OpenSpec.ofChange symdiskDoesWrong)

/-- 'salvorlaw40.SymdiskFlush': WHATEVER THE INPUT: true; the input reads as it did. -/
def symdiskFlushSpec : ChangeSpec := { name := "symdiskFlush", fn := fun _ => fun
  | [d1, d2, d3, d4] => { results := [.lit (.bool true)], args := [d1, d2, d3, d4] }
  | _ => none }
def symdiskFlushRow : OpenClaim := { program := "ytehljgigebhddaagreat", sum := "f5435a5d0ab76c6de5a4a0a7e190857f7cd82fa21836c06d8887a42d17801df0", func := "salvor/salvorlaw40.SymdiskFlush", spec := "symdiskFlush", unfollowed := true, recurses := true, plainKeys := false, apart := false }
def SymdiskFlushSaid : Prop := symdiskFlushRow.holds Tryz.pinned (OpenSpec.ofChange symdiskFlushSpec)

/-- ITS FALSE NEIGHBOUR: 'it returns false'. Refute it at one input. -/
def symdiskFlushWrong : ChangeSpec := { name := "symdiskFlush", fn := fun _ => fun
  | [d1, d2, d3, d4] => { results := [.lit (.bool false)], args := [d1, d2, d3, d4] }
  | _ => none }
def SymdiskFlushWrongFalsely : Prop := symdiskFlushRow.holds Tryz.pinned (OpenSpec.ofChange symdiskFlushWrong)

/- THE SECOND FORM. 'bulk': how many values and letters a reading holds, each counted each time it is reached (what is shared counts as often as it is met; a slice's spare places count too). A statement '..UptoSaid' is the law's where the arguments, and the package variables that the reading takes, are together of bulk at most 1048576: NARROWER than '..Said'. Prove '..Said' where nothing that the law and all that it calls make is longer than what came in: it says more and counts as full. Else prove '..UptoSaid'. A law counts once. -/
mutual
def uptoBulk {H : Type} : DataW H → Nat
  | .lit (.string bytes) => bytes.length + 1
  | .lit _ => 1
  | .nil => 1
  | .ptr d => uptoBulk d + 1
  | .slice elems spare => uptoBulkAll elems + uptoBulkAll spare + 1
  | .agg parts => uptoBulkAll parts + 1
  | .iface _ d => uptoBulk d + 1
  | .map entries => uptoBulkEntries entries + 1
  | .held _ => 1
def uptoBulkAll {H : Type} : List (DataW H) → Nat
  | [] => 0
  | d :: r => uptoBulk d + uptoBulkAll r
def uptoBulkEntries {H : Type} : List (Lit × DataW H) → Nat
  | [] => 0
  | x :: r => uptoBulkEntry x + uptoBulkEntries r
def uptoBulkEntry {H : Type} : Lit × DataW H → Nat
  | (.string bytes, d) => bytes.length + uptoBulk d + 1
  | (_, d) => uptoBulk d + 1
 end
def uptoSmall : (H : Type) → List (DataW H) → Bool := fun _ ds => decide (uptoBulkAll ds ≤ 1048576)
def OpenSpec.upto (s : _root_.Go.ChangeSpec) : _root_.Go.OpenSpec := { _root_.Go.OpenSpec.ofChange s with cond := some uptoSmall }

/-- 'salvorlaw26.MuxesMakes', WHERE WHAT IT READS IS OF BULK AT MOST 1048576: true; the input reads as it did. -/
def muxesMakesUptoRow : OpenClaim := { program := "ytehljgigebhddaagreat", sum := "f5435a5d0ab76c6de5a4a0a7e190857f7cd82fa21836c06d8887a42d17801df0", func := "salvor/salvorlaw26.MuxesMakes", spec := "muxesMakes", unfollowed := true, recurses := true, plainKeys := false, apart := false, narrowed := true }
def MuxesMakesUptoSaid : Prop := muxesMakesUptoRow.holds Tryz.pinned (OpenSpec.upto muxesMakesSpec)

/-- 'salvorlaw26.MuxesSmall', WHERE WHAT IT READS IS OF BULK AT MOST 1048576: true; the input reads as it did. -/
def muxesSmallUptoRow : OpenClaim := { program := "ytehljgigebhddaagreat", sum := "f5435a5d0ab76c6de5a4a0a7e190857f7cd82fa21836c06d8887a42d17801df0", func := "salvor/salvorlaw26.MuxesSmall", spec := "muxesSmall", unfollowed := true, recurses := true, plainKeys := false, apart := false, narrowed := true }
def MuxesSmallUptoSaid : Prop := muxesSmallUptoRow.holds Tryz.pinned (OpenSpec.upto muxesSmallSpec)

/-- 'salvorlaw24.MuldivMakes', WHERE WHAT IT READS IS OF BULK AT MOST 1048576: true; the input reads as it did. -/
def muldivMakesUptoRow : OpenClaim := { program := "ytehljgigebhddaagreat", sum := "f5435a5d0ab76c6de5a4a0a7e190857f7cd82fa21836c06d8887a42d17801df0", func := "salvor/salvorlaw24.MuldivMakes", spec := "muldivMakes", unfollowed := true, recurses := true, plainKeys := false, apart := false, narrowed := true }
def MuldivMakesUptoSaid : Prop := muldivMakesUptoRow.holds Tryz.pinned (OpenSpec.upto muldivMakesSpec)

/-- 'salvorlaw24.MuldivSmall', WHERE WHAT IT READS IS OF BULK AT MOST 1048576: true; the input reads as it did. -/
def muldivSmallUptoRow : OpenClaim := { program := "ytehljgigebhddaagreat", sum := "f5435a5d0ab76c6de5a4a0a7e190857f7cd82fa21836c06d8887a42d17801df0", func := "salvor/salvorlaw24.MuldivSmall", spec := "muldivSmall", unfollowed := true, recurses := true, plainKeys := false, apart := false, narrowed := true }
def MuldivSmallUptoSaid : Prop := muldivSmallUptoRow.holds Tryz.pinned (OpenSpec.upto muldivSmallSpec)

/-- 'salvorlaw40.SymdiskSets', WHERE WHAT IT READS IS OF BULK AT MOST 1048576: true; the input reads as it did. -/
def symdiskSetsUptoRow : OpenClaim := { program := "ytehljgigebhddaagreat", sum := "f5435a5d0ab76c6de5a4a0a7e190857f7cd82fa21836c06d8887a42d17801df0", func := "salvor/salvorlaw40.SymdiskSets", spec := "symdiskSets", unfollowed := true, recurses := true, plainKeys := false, apart := false, narrowed := true }
def SymdiskSetsUptoSaid : Prop := symdiskSetsUptoRow.holds Tryz.pinned (OpenSpec.upto symdiskSetsSpec)

/-- 'salvorlaw40.SymdiskIs', WHERE WHAT IT READS IS OF BULK AT MOST 1048576: true; the input reads as it did. -/
def symdiskIsUptoRow : OpenClaim := { program := "ytehljgigebhddaagreat", sum := "f5435a5d0ab76c6de5a4a0a7e190857f7cd82fa21836c06d8887a42d17801df0", func := "salvor/salvorlaw40.SymdiskIs", spec := "symdiskIs", unfollowed := true, recurses := true, plainKeys := false, apart := false, narrowed := true }
def SymdiskIsUptoSaid : Prop := symdiskIsUptoRow.holds Tryz.pinned (OpenSpec.upto symdiskIsSpec)

/-- 'salvorlaw40.SymdiskCopies', WHERE WHAT IT READS IS OF BULK AT MOST 1048576: true; the input reads as it did. -/
def symdiskCopiesUptoRow : OpenClaim := { program := "ytehljgigebhddaagreat", sum := "f5435a5d0ab76c6de5a4a0a7e190857f7cd82fa21836c06d8887a42d17801df0", func := "salvor/salvorlaw40.SymdiskCopies", spec := "symdiskCopies", unfollowed := true, recurses := true, plainKeys := false, apart := false, narrowed := true }
def SymdiskCopiesUptoSaid : Prop := symdiskCopiesUptoRow.holds Tryz.pinned (OpenSpec.upto symdiskCopiesSpec)

/-- 'salvorlaw40.SymdiskDoes', WHERE WHAT IT READS IS OF BULK AT MOST 1048576: true; the input reads as it did. -/
def symdiskDoesUptoRow : OpenClaim := { program := "ytehljgigebhddaagreat", sum := "f5435a5d0ab76c6de5a4a0a7e190857f7cd82fa21836c06d8887a42d17801df0", func := "salvor/salvorlaw40.SymdiskDoes", spec := "symdiskDoes", unfollowed := true, recurses := true, plainKeys := false, apart := false, narrowed := true }
def SymdiskDoesUptoSaid : Prop := symdiskDoesUptoRow.holds Tryz.pinned (OpenSpec.upto symdiskDoesSpec)

/-- 'salvorlaw40.SymdiskFlush', WHERE WHAT IT READS IS OF BULK AT MOST 1048576: true; the input reads as it did. -/
def symdiskFlushUptoRow : OpenClaim := { program := "ytehljgigebhddaagreat", sum := "f5435a5d0ab76c6de5a4a0a7e190857f7cd82fa21836c06d8887a42d17801df0", func := "salvor/salvorlaw40.SymdiskFlush", spec := "symdiskFlush", unfollowed := true, recurses := true, plainKeys := false, apart := false, narrowed := true }
def SymdiskFlushUptoSaid : Prop := symdiskFlushUptoRow.holds Tryz.pinned (OpenSpec.upto symdiskFlushSpec)

end Rows
end Go.Proofs.YtehljgigebhddaaGreat
