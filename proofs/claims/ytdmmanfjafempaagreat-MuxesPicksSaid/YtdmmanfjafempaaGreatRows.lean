/-
  No cell of these rows narrows 'for every input' (looked for: loops, veiled, ifaces, maps, wideKeys, modest, calm, conditions, laid).
  DERIVED. THE GIVEN ROWS OF THIS SEAT. 4 by the template 'for every input the law returns true; each argument reads behind the call as it read before'; 0 by the template 'total and deterministic' (their statements: YtdmmanfjafempaaGreatTotals.lean).
  GIVEN WITH THE SEED: the statements are not yours to turn. If you find one false, say at which input.
  Laid BY PROGRAM, IN A SANDBOX (cutbox-rows.mjs): the forced cells as the released guide's own fill.sh prints them over the translation 2d290e101a1e4bb6… (all of the seat's roots in one cut). By AI agents, Wed Nov 11 2026. No macro, syntax, notation, axiom, sorry.
-/
import Derived.Test.YtdmmanfjafempaaGreatChecked
import GoSem.Claim
import GoSem.ClaimJoined
import GoSem.ClaimMapViews
import Derived.JoinedTies
import Derived.KernelRfl
namespace Go.Proofs.YtdmmanfjafempaaGreat
/- THE CELL 'sum', in the pinned program and in every row, IS THE sha256 OF THE DUMP (.gsa) THAT YtdmmanfjafempaaGreatProg.lean LOADS. Nothing in Lean hashes anything: it is a label: what it is worth is what the hold of that sum in a sandbox is worth. -/
noncomputable def Tryz.pinned : Pinned := { name := "ytdmmanfjafempaagreat", sum := "2d290e101a1e4bb6aaeb317a8c6f71c4caa6d877c3ceb7a438424e22e96ae92c", checked := Tryz.checked }
namespace Rows
def none {H : Type} : Left H := { results := [], args := [] }

/-- 'salvorlaw26.MuxesMakes': WHATEVER THE INPUT: true; the input reads as it did. -/
def muxesMakesSpec : ChangeSpec := { name := "muxesMakes", fn := fun _ => fun
  | [d1, d2] => { results := [.lit (.bool true)], args := [d1, d2] }
  | _ => none }
def muxesMakesRow : OpenClaim := { program := "ytdmmanfjafempaagreat", sum := "2d290e101a1e4bb6aaeb317a8c6f71c4caa6d877c3ceb7a438424e22e96ae92c", func := "salvor/salvorlaw26.MuxesMakes", spec := "muxesMakes", unfollowed := true, recurses := true, plainKeys := false, apart := false }
def MuxesMakesSaid : Prop := muxesMakesRow.holds Tryz.pinned (OpenSpec.ofChange muxesMakesSpec)

/-- ITS FALSE NEIGHBOUR: 'it returns false'. Refute it at one input. -/
def muxesMakesWrong : ChangeSpec := { name := "muxesMakes", fn := fun _ => fun
  | [d1, d2] => { results := [.lit (.bool false)], args := [d1, d2] }
  | _ => none }
def MuxesMakesWrongFalsely : Prop := muxesMakesRow.holds Tryz.pinned (OpenSpec.ofChange muxesMakesWrong)

/-- 'salvorlaw26.MuxesSmall': WHATEVER THE INPUT: true; the input reads as it did. -/
def muxesSmallSpec : ChangeSpec := { name := "muxesSmall", fn := fun _ => fun
  | [] => { results := [.lit (.bool true)], args := [] }
  | _ => none }
def muxesSmallRow : OpenClaim := { program := "ytdmmanfjafempaagreat", sum := "2d290e101a1e4bb6aaeb317a8c6f71c4caa6d877c3ceb7a438424e22e96ae92c", func := "salvor/salvorlaw26.MuxesSmall", spec := "muxesSmall", unfollowed := true, recurses := true, plainKeys := false, apart := false }
def MuxesSmallSaid : Prop := muxesSmallRow.holds Tryz.pinned (OpenSpec.ofChange muxesSmallSpec)

/-- ITS FALSE NEIGHBOUR: 'it returns false'. Refute it at one input. -/
def muxesSmallWrong : ChangeSpec := { name := "muxesSmall", fn := fun _ => fun
  | [] => { results := [.lit (.bool false)], args := [] }
  | _ => none }
def MuxesSmallWrongFalsely : Prop := muxesSmallRow.holds Tryz.pinned (OpenSpec.ofChange muxesSmallWrong)

/-- 'salvorlaw26.MuxesPicks': WHATEVER THE INPUT: true; the input reads as it did. -/
def muxesPicksSpec : ChangeSpec := { name := "muxesPicks", fn := fun _ => fun
  | [d1, d2, d3] => { results := [.lit (.bool true)], args := [d1, d2, d3] }
  | _ => none }
def muxesPicksRow : OpenClaim := { program := "ytdmmanfjafempaagreat", sum := "2d290e101a1e4bb6aaeb317a8c6f71c4caa6d877c3ceb7a438424e22e96ae92c", func := "salvor/salvorlaw26.MuxesPicks", spec := "muxesPicks", unfollowed := true, recurses := true, plainKeys := false, apart := false }
def MuxesPicksSaid : Prop := muxesPicksRow.holds Tryz.pinned (OpenSpec.ofChange muxesPicksSpec)

/-- ITS FALSE NEIGHBOUR: 'it returns false'. Refute it at one input. -/
def muxesPicksWrong : ChangeSpec := { name := "muxesPicks", fn := fun _ => fun
  | [d1, d2, d3] => { results := [.lit (.bool false)], args := [d1, d2, d3] }
  | _ => none }
def MuxesPicksWrongFalsely : Prop := muxesPicksRow.holds Tryz.pinned (OpenSpec.ofChange muxesPicksWrong)

/-- 'salvorlaw26.MuxesIs': WHATEVER THE INPUT: true; the input reads as it did. -/
def muxesIsSpec : ChangeSpec := { name := "muxesIs", fn := fun _ => fun
  | [d1, d2, d3, d4] => { results := [.lit (.bool true)], args := [d1, d2, d3, d4] }
  | _ => none }
def muxesIsRow : OpenClaim := { program := "ytdmmanfjafempaagreat", sum := "2d290e101a1e4bb6aaeb317a8c6f71c4caa6d877c3ceb7a438424e22e96ae92c", func := "salvor/salvorlaw26.MuxesIs", spec := "muxesIs", unfollowed := true, recurses := true, plainKeys := false, apart := false }
def MuxesIsSaid : Prop := muxesIsRow.holds Tryz.pinned (OpenSpec.ofChange muxesIsSpec)

/-- ITS FALSE NEIGHBOUR: 'it returns false'. Refute it at one input. -/
def muxesIsWrong : ChangeSpec := { name := "muxesIs", fn := fun _ => fun
  | [d1, d2, d3, d4] => { results := [.lit (.bool false)], args := [d1, d2, d3, d4] }
  | _ => none }
def MuxesIsWrongFalsely : Prop := muxesIsRow.holds Tryz.pinned (OpenSpec.ofChange muxesIsWrong)

/- THE SECOND FORM. 'bulk': how many values and letters a reading holds, each counted each time it is reached (what is shared counts as often as it is met; a slice's spare places count too). A statement '..UptoSaid' is the law's where the arguments, and the package variables that the reading takes, are together of bulk at most 1048576: NARROWER than '..Said'. Prove '..Said' where nothing that the law and all that it calls make is longer than what came in: it says more and counts as full. Else prove '..UptoSaid'. A law counts once. -/
mutual
def uptoBulk {H : Type} : DataW H → Nat
  | .lit (.string bytes) => bytes.length + 1
  | .lit _ => 1
  | .nil => 1
  | .ptr d => uptoBulk d + 1
  | .slice elems spare => uptoBulkAll elems + uptoBulkAll spare + 1
  | .agg parts => uptoBulkAll parts + 1
  | .iface _ d => uptoBulk d + 1
  | .map entries => uptoBulkEntries entries + 1
  | .held _ => 1
def uptoBulkAll {H : Type} : List (DataW H) → Nat
  | [] => 0
  | d :: r => uptoBulk d + uptoBulkAll r
def uptoBulkEntries {H : Type} : List (Lit × DataW H) → Nat
  | [] => 0
  | x :: r => uptoBulkEntry x + uptoBulkEntries r
def uptoBulkEntry {H : Type} : Lit × DataW H → Nat
  | (.string bytes, d) => bytes.length + uptoBulk d + 1
  | (_, d) => uptoBulk d + 1
 end
def uptoSmall : (H : Type) → List (DataW H) → Bool := fun _ ds => decide (uptoBulkAll ds ≤ 1048576)
def OpenSpec.upto (s : _root_.Go.ChangeSpec) : _root_.Go.OpenSpec := { _root_.Go.OpenSpec.ofChange s with cond := some uptoSmall }

/-- 'salvorlaw26.MuxesMakes', WHERE WHAT IT READS IS OF BULK AT MOST 1048576: true; the input reads as it did. -/
def muxesMakesUptoRow : OpenClaim := { program := "ytdmmanfjafempaagreat", sum := "2d290e101a1e4bb6aaeb317a8c6f71c4caa6d877c3ceb7a438424e22e96ae92c", func := "salvor/salvorlaw26.MuxesMakes", spec := "muxesMakes", unfollowed := true, recurses := true, plainKeys := false, apart := false, narrowed := true }
def MuxesMakesUptoSaid : Prop := muxesMakesUptoRow.holds Tryz.pinned (OpenSpec.upto muxesMakesSpec)

/-- 'salvorlaw26.MuxesSmall', WHERE WHAT IT READS IS OF BULK AT MOST 1048576: true; the input reads as it did. -/
def muxesSmallUptoRow : OpenClaim := { program := "ytdmmanfjafempaagreat", sum := "2d290e101a1e4bb6aaeb317a8c6f71c4caa6d877c3ceb7a438424e22e96ae92c", func := "salvor/salvorlaw26.MuxesSmall", spec := "muxesSmall", unfollowed := true, recurses := true, plainKeys := false, apart := false, narrowed := true }
def MuxesSmallUptoSaid : Prop := muxesSmallUptoRow.holds Tryz.pinned (OpenSpec.upto muxesSmallSpec)

/-- 'salvorlaw26.MuxesPicks', WHERE WHAT IT READS IS OF BULK AT MOST 1048576: true; the input reads as it did. -/
def muxesPicksUptoRow : OpenClaim := { program := "ytdmmanfjafempaagreat", sum := "2d290e101a1e4bb6aaeb317a8c6f71c4caa6d877c3ceb7a438424e22e96ae92c", func := "salvor/salvorlaw26.MuxesPicks", spec := "muxesPicks", unfollowed := true, recurses := true, plainKeys := false, apart := false, narrowed := true }
def MuxesPicksUptoSaid : Prop := muxesPicksUptoRow.holds Tryz.pinned (OpenSpec.upto muxesPicksSpec)

/-- 'salvorlaw26.MuxesIs', WHERE WHAT IT READS IS OF BULK AT MOST 1048576: true; the input reads as it did. -/
def muxesIsUptoRow : OpenClaim := { program := "ytdmmanfjafempaagreat", sum := "2d290e101a1e4bb6aaeb317a8c6f71c4caa6d877c3ceb7a438424e22e96ae92c", func := "salvor/salvorlaw26.MuxesIs", spec := "muxesIs", unfollowed := true, recurses := true, plainKeys := false, apart := false, narrowed := true }
def MuxesIsUptoSaid : Prop := muxesIsUptoRow.holds Tryz.pinned (OpenSpec.upto muxesIsSpec)

end Rows
end Go.Proofs.YtdmmanfjafempaaGreat
