/-
  Walks over Input: an input is made. Conditions: the graph is one in memory.
  Walks over New and Inputs. Conditions: numbers; a graph in memory.
  Walks over Inputs and the library's Clone. Conditions: a graph in memory.
  The cone, plainly: what is marked, and what comes.
  Drawn regions of quiet operations, behind a fence: from the plain walk.
  A scope without a goto, behind a fence.
  A range over a function whose iterator keeps a state of its own in cells of one element type T (a slice that it makes): the contract, and the caller's law. For a body that goes on in every round.
  Walks over the cone's iterator. Conditions: a graph in memory, references of it.
  Walks over what Cone calls. Conditions: a graph in memory.
  Walks over the library's Reverse over ints. Conditions: a block of ints.
  Walks over Cone: refused. Conditions: a graph in memory.
  Walks over Cone. Conditions: a graph in memory, references of it.
  Walks over the library's Equal over numbers. Conditions: two slices that are read.
  What the package's functions do to a graph in memory, each in one form (GIn before, GTo behind). Conditions: a graph in memory.
  A drawn region where two effects may come up now: each of them first.
  Slices that are read, a world under a name, the lesser of two numbers. Conditions: none beyond the hypotheses.
  What references are, for an assignment of the inputs: the meaning of the graph of ands, and that what is made means what its name says. No program in sight. Conditions: none beyond the hypotheses.
  Walks over the reference's graphs: a graph as a value (RG), Not, Right, New, Put. Conditions: a graph that can be read.
  Walks over the reference's And. Conditions: a graph that can be read, references of it.
  Walks over the reference's Or, Mux, Xor, All, Any. Conditions: a graph that can be read, references of it.
  Walks over the library's Index, Contains, IndexFunc, ContainsFunc and IsSorted over numbers. Conditions: slices that are read.
  Walks over the reference's Xor, Cut, Inputs, Depths, and over the law's refs. Conditions: a graph that can be read; a slice that can be read.
  Walks over the reference's Depths, All, Any, and over the law's refs. Conditions: a graph that can be read; a slice that can be read.
  The reference's cone, plainly, and the walk over it. Conditions: a graph that can be read, a slice of references of it.
  Parts of the walk over told: the reference's Not of any number, what a graph tells of a number. Conditions: a graph in memory.
  What an act does, by the graph and by the reference: plainly the same; ContainsFunc over numbers with a function that makes memory. Conditions: references of the graph.
  Walks over the maker of sums: put, xor, mux; the law of a step on the plain side. Conditions: a graph in memory, references of it.
  A range over a function whose iterator only reads: the contract, and the caller's law, said with the blocks that may change. The body may go on or return.
  Walks over pairs of sums: the iterator over two words side by side. Conditions: two slices of the same length.
  Walks over right and check of sums. Conditions: a graph in memory, words of any integers.
  What is known between two rounds of a loop that makes a word: a frame of blocks, the maker's state beside the reference's. Conditions: none beyond the hypotheses.
  Walks over each of sums: bit by bit. Conditions: a graph in memory, two words of it.
  Walks over sum of sums: a carry goes along. Conditions: a graph in memory, two words of it.
  Walks over Ne of sums. Conditions: a graph in memory, two words of it.
  Walks over Lt of sums. Conditions: a graph in memory, two words of it.
  Walks over each, And, Or, Xor of sums. Conditions: a graph in memory, words of any integers.
  A graph in memory with words that are held beside it: what is known along a law's walk. Conditions: none beyond the hypotheses.
  Walk over Pair of chapter 23's law: a graph with two words of new inputs. Conditions: none.
  Walks over the small functions of chapter 23's laws: Refs, Ints, Clone of truths, and the reference's Right, Const, Cast. Conditions: numbers in range.
  From a law's arguments to what the walks say: numbers, slices of numbers and of truths. Conditions: those of the given row.
  Words of many assignments at once, plainly: what the nodes of a graph are for the words of its inputs, bit by bit. No program in sight. Conditions: none beyond the hypotheses.
  Walks over small functions of the laws: words, value, pick. Conditions: slices that are read.
  Counting the bits of a word, plainly: the lowest bit that is 1 goes with each step. No program in sight. Conditions: none beyond the hypotheses.
  Walk over sim: Bits. Conditions: a graph in memory, references of any integers, values that can be read.
  Walk over made of chapter 23's law: what each operation makes of two words. Conditions: a graph in memory, words that are held.
  Walks over sim: one, table. Conditions: a graph of at most 16 inputs in memory, what tells a word.
  Walks over sim: tabled, Table. Conditions: a graph in memory, any reference.
  Walk over sim: Count. Conditions: a graph in memory, any reference.
  Walk over sim: first. Conditions: a graph of at most 16 inputs in memory, what tells a word.
  The laws' graphs, plainly: built step by step. No program in sight. Conditions: none beyond the hypotheses.
  The words of the nodes, plainly, and their bits. No program in sight. Conditions: none beyond the hypotheses.
  The cone that AigCone looks through, plainly: in which order, what is marked when, how many. No program in sight. Conditions: none beyond the hypotheses.
  Walks over slices.BinarySearch of ints, sim's Nodes and Support. Conditions: a rising slice; a graph in memory.
  Walks over few, index, ref and made of chapter 21's laws. Conditions: a slice of nodes of any integers.
  From a law's arguments to what the walks say: nodes of chapter 27. Conditions: those of the given row.
  Walk over slices.Equal of words; the functions of sim as steps of a walk that holds slices. Conditions: slices that can be read.
  Walk over slices.Clone of words; words fitted to as many as inputs; what the nodes are for words of the inputs, node by node. Conditions: a slice that can be read.
  The support of references, plainly: what does not lie in it does not matter. No program in sight. Conditions: a graph in order.
  Formulas of circuits, plainly: the map of a graph and of roots, its literals, the clauses. No program in sight. Conditions: none beyond the hypotheses.
  Walk over slices.BinarySearch of ints, of any slice: its index too. Conditions: a slice that can be read.
  Walks over lits (Right, Var, Negated, Of) and tseitin (rising, Lit, Ref). Conditions: numbers of 64 bits; a map that can be read.
  A map from numbers to values that are known, one after the other. Conditions: the two facts on the types of map and key.
-/
import Derived.Test.YtkedpifopclipaaQA
import Derived.Laws.Cover3
import Derived.OrdersIn
import Derived.ControlIn
import Derived.Scope
import Derived.WalkMore
import Derived.RangeFuncFrom
import Derived.RangeFuncNested
import Derived.RangeFuncBound
import Derived.RangeFuncCalls
import Derived.RangeFuncLeaves
import Derived.Shelf.Abstract
import Derived.Shelf.RegionOpen
import Derived.WalkKit
import Derived.OwnWalkIn
import Derived.TacticsInMore
import Derived.LoopNIn
import Derived.LoopIn
import Derived.Laws.ResultCell
import Derived.Deep.Cut
import Derived.Test.YtkedpifopclipaaRows
import Derived.ProofKit
import Derived.OpenShut
import Derived.ChangeOld
import Derived.Below
import Derived.Carry
import Derived.Deep.Slices
import Derived.Deep.Fields
import Derived.Laws.Bits64b
import Derived.Deep.DeepCutAuto
import Derived.MapKept
namespace Go.Proofs.Ytkedpifopclipaa
open Go.RowKit Go.Mem Go.Aig

theorem inputsFrom_input (x : Nd) (hk : x.k = 2) : ∀ (ns : List Nd) (n : Nat), inputsFrom (ns ++ [x]) n = inputsFrom ns n ++ [2 * (n + ns.length)]
  | [], n => by simp [inputsFrom, hk]
  | y :: ns, n => by
    have e : 2 * (n + 1 + ns.length) = 2 * (n + (ns.length + 1)) := by omega
    simp only [List.cons_append, inputsFrom, inputsFrom_input x hk ns, List.length_cons, e]
    split <;> simp
theorem inputs_input {ns : List Nd} {x : Nd} (hk : x.k = 2) : inputs (ns ++ [x]) = inputs ns ++ [2 * ns.length] := by
  have := inputsFrom_input x hk ns 0
  simpa [inputs] using this
def doInput (G : Gra) : Res := put G ⟨2, 0, 0, 0⟩
theorem inputsFrom_le : ∀ (ns : List Nd) (n : Nat), (inputsFrom ns n).length ≤ ns.length
  | [], n => by simp [inputsFrom]
  | x :: ns, n => by
    have := inputsFrom_le ns (n + 1)
    unfold inputsFrom
    split <;> simp <;> omega
theorem inputs_le (ns : List Nd) : (inputs ns).length ≤ ns.length := inputsFrom_le ns 0
section
variable {w : World} {g : Nat} {G : Gra} {nb ncap : Nat} {iv : Value} {mb : Nat}

set_option maxRecDepth 100000 in
set_option maxHeartbeats 2000000 in
theorem Input_is (h : GM w g G nb ncap iv mb) :
    Calls Try.prog 78 #[.pointer (some ⟨g, 0, none⟩)] w fun e w' => e = .returned (.tuple #[.int .i64 (doInput G).2.1, .int .i64 (doInput G).2.2]) ∧ GTo w g (doInput G).1 (fp g nb mb iv) w' := by
  have HN := none_no h
  have hil := inputs_le G.nodes
  unfold doInput put
  by_cases hf : G.most ≤ G.nodes.length
  · rw [if_pos hf]
    have HP := put_no_of h 2 0 0 0 ⟨2, 0, 0, 0⟩ rfl rfl rfl rfl hf
    have H := Lib.hid h; clear h
    clear hf hil
    go_enter Try.func78, Try.ntmps78
    go_wp2_with fail
    refine HN.mono ?_
    rintro e w' ⟨rfl, rfl⟩
    go_wp2_with fail
    refine HP.mono ?_
    rintro e w1 ⟨rfl, hc⟩
    have HC := Lib.hid hc; clear hc
    go_wp2_with fail
    go_ret2
    exact ⟨rfl, GTo.same ⟨_, _, _, _, H.out, rfl⟩ HC.out⟩
  · rw [if_neg hf]
    have HP := put_yes_of h 2 0 0 0 ⟨2, 0, 0, 0⟩ rfl rfl rfl rfl (by omega)
    have hm := h.ok.most
    have H := Lib.hid h; clear h
    have hlb : G.nodes.length < 65536 := by omega
    have HF := Lib.hid hf; clear hf
    go_enter Try.func78, Try.ntmps78
    go_wp2_with fail
    refine HN.mono ?_
    rintro e w' ⟨rfl, rfl⟩
    go_wp2_with fail
    refine HP.mono ?_
    rintro e w1 ⟨rfl, nb', ncap', hs⟩
    have s3 : w1.cell? ⟨g, 3, none⟩ = some iv := hs.st.cell rfl
    have f3 : w1.frozen? ⟨g, 3, none⟩ = false := hs.st.frozen
    have hg1 : g < w1.heap.size := hs.st.lt
    have hch1 : Ch [g, nb] w w1 := hs.ch
    have hsz1 := hch1.size
    have hl0 := H.out.lt
    have hWA : Ch [] w1 (w1.alloc (.cells #[.int .i64 (2 * (G.nodes.length : Int))] 45)) := (Ch.refl _ _).alloc _
    have hI : row (w1.alloc (.cells #[.int .i64 (2 * (G.nodes.length : Int))] 45)) 45 1 iv (inputs G.nodes).length (refsCells (inputs G.nodes)) := by
      refine (H.out.ins.ch hch1 (fun k hk => ?_)).ch hWA (by simp)
      have h1 := H.out.gi; have h2 := H.out.ni
      simp only [List.mem_cons, List.not_mem_nil, or_false, not_or]
      exact ⟨by rintro rfl; exact h1 hk, by rintro rfl; exact h2 hk⟩
    have hB : blk (w1.alloc (.cells #[.int .i64 (2 * (G.nodes.length : Int))] 45)) w1.heap.size [.int .i64 (2 * (G.nodes.length : Int))] := blk.new _ _ _
    have HI := Lib.hid hI; clear hI
    have HB := Lib.hid hB; clear hB
    have HS := Lib.hid hs; clear hs
    have HWA := Lib.hid hWA; clear hWA
    have HC1 := Lib.hid hch1; clear hch1
    go_wp2_with (at_builtin; go_loud (refine wpList_append_row slRefs rfl _ _ rfl (v := iv) (n := (inputs G.nodes).length) (xs := refsCells (inputs G.nodes)) rfl HI.out (ad := ⟨w1.heap.size, 0, none⟩) (m := 1) (c := 1) (news := [.int .i64 (2 * (G.nodes.length : Int))]) rfl rfl (news_blk HB.out) (by simp [Value.oneCell']) (by omega) (by omega) ?_; intro v' w2 hown hC2 hfresh; obtain ⟨ib, icap, hv⟩ := row.parts hown (by omega); have k3 : w2.cell? ⟨g, 3, none⟩ = some iv := (hC2.cell (p := ⟨g, 3, none⟩) (by simp; omega) (by have := H.out.gi; simpa [eq_comm] using this)).trans (by go_simp); have k3f : w2.frozen? ⟨g, 3, none⟩ = false := (hC2.frozen (p := ⟨g, 3, none⟩) (by simp; omega) (by have := H.out.gi; simpa [eq_comm] using this)).trans (by go_simp); have HOWN := Lib.hid hown; clear hown; have HC2 := Lib.hid hC2; clear hC2; have HFR := Lib.hid hfresh; clear hfresh; have HV := Lib.hid hv; rw [hv]; clear hv))
    go_ret2
    have hz2 := HC2.out.size
    simp at hz2
    have hown := HOWN.out
    rw [HV.out] at hown
    have hfr : ib < w1.heap.size → iv.ownBlock = some ib := fun hlt => by
      rcases HFR.out ib (by rw [HV.out]; rfl) with e | e
      · exact e
      · simp at e; omega
    have hgi := H.out.gi
    have hni := H.out.ni
    have hmi := H.out.mi
    have hivl := H.out.lt.2.2.2
    have hm1 : mb < w1.heap.size := by omega
    have hnb' : nb' < w1.heap.size := (HS.out.nodes.lt nb' rfl).2
    have e1 : ib ≠ g := fun e => by subst e; exact hgi (hfr hg1)
    have e2 : ib ≠ mb := fun e => by subst e; exact hmi (hfr hm1)
    have e3 : ib ≠ nb' := fun e => by
      subst e
      have := hfr hnb'
      rcases HS.out.fresh with e | e
      · exact hni (e ▸ this)
      · have := hivl _ this; omega
    have hgn : g ≠ nb' := by
      rcases HS.out.fresh with e | e
      · rw [e]; exact H.out.gn
      · omega
    have hmn : mb ≠ nb' := by
      rcases HS.out.fresh with e | e
      · rw [e]; exact H.out.mn
      · omega
    have hgiv : g ∉ iv.ownBlock.toList := by simpa [eq_comm] using hgi
    have hmiv : mb ∉ iv.ownBlock.toList := by simpa [eq_comm] using hmi
    have hniv : nb' ∉ iv.ownBlock.toList := by
      simp only [Option.mem_toList]
      intro hk
      rcases HS.out.fresh with e | e
      · exact hni (e ▸ hk)
      · have := hivl _ hk; omega
    have hCall : Ch iv.ownBlock.toList w1 w2 := (HWA.out.mono (by simp)).trans HC2.out (fun k hk => .inl hk)
    have hIS := inputs_input (ns := G.nodes) (x := ⟨2, 0, 0, 0⟩) rfl
    have hset : Ch [g] w2 (w2.setCell ⟨g, 3, none⟩ (.slice (some ⟨ib, 0, none⟩) ((inputs G.nodes).length + 1) icap)) := (Ch.refl _ _).setCell (by simp) _
    refine ⟨ret_ii (by simp) rfl, GTo.of (nb' := nb') (ncap' := ncap') (iv' := .slice (some ⟨ib, 0, none⟩) ((inputs G.nodes).length + 1) icap) ?_ ?_ HS.out.fresh ?_⟩
    · refine ⟨?_, ?_, ?_, ?_, H.out.gm, hgn, hmn, ?_, ?_, ?_, ?_⟩
      · have := (HS.out.st.ch hCall hgiv).set (i := 3) (.slice (some ⟨ib, 0, none⟩) ((inputs G.nodes).length + 1) icap)
        simpa using this
      · have := (HS.out.nodes.ch hCall (fun k hk => by cases hk; exact hniv)).ch hset (fun k hk => by cases hk; simp [hgn.symm])
        simpa using this
      · obtain ⟨es, clock, h1, h2⟩ := H.out.mp
        refine ⟨es, clock, ?_, h2.other (by simp)⟩
        have g1 := HC1.out.block mb (by omega) (by simp [H.out.gm.symm, H.out.mn])
        have g2 := hCall.block mb hm1 hmiv
        have g3 := hset.block mb (by omega) (by simp [H.out.gm.symm])
        exact g3.trans (g2.trans (g1.trans h1))
      · show row _ _ 1 _ (inputs (G.nodes ++ [⟨2, 0, 0, 0⟩])).length (refsCells (inputs (G.nodes ++ [⟨2, 0, 0, 0⟩])))
        rw [hIS]
        have := hown.ch hset (fun k hk => by cases hk; simp [e1])
        simpa [refsCells] using this
      · simp [Value.ownBlock, e1]
      · simp [Value.ownBlock, e3]
      · simp [Value.ownBlock, e2]
      · exact ⟨H.out.ok.wf.input, by have := HF.out; simp; omega, H.out.ok.most⟩
    · refine ((HC1.out.mono (F' := fp g nb mb iv) ?_).trans ((hCall.mono (F' := g :: iv.ownBlock.toList) (fun k hk => .inl (by simp at hk ⊢; simp [hk]))).trans hset (fun k hk => .inl (by simp at hk ⊢; simp [hk]))) ?_)
      · intro k hk; left; simp [fp] at hk ⊢; rcases hk with e | e <;> simp [e]
      · intro k hk; left; simp [fp] at hk ⊢; rcases hk with e | e <;> simp [e]
    · intro k hk
      simp only [Value.ownBlock, Option.some.injEq] at hk
      subst hk
      rcases HFR.out ib (by rw [HV.out]; rfl) with e | e
      · exact .inl e
      · simp at e; exact .inr (by omega)
end
end Go.Proofs.Ytkedpifopclipaa
namespace Go.Proofs.Ytkedpifopclipaa
open Go.RowKit Go.Mem Go.Aig

def newG (n : Nat) : Gra := ⟨n, [⟨1, 0, 0, 0⟩]⟩
theorem newG_ok {n : Nat} (h1 : 1 ≤ n) (h2 : n ≤ 65536) : Ok (newG n) := by
  refine ⟨?_, by simpa [newG] using h1, h2⟩
  have key : ∀ (m : Nat) (x : Nd), (newG n).nodes[m]? = some x → m = 0 ∧ x = ⟨1, 0, 0, 0⟩ := fun m x h => by
    have := (List.getElem?_eq_some_iff.1 h).1
    have h0 : m = 0 := by simp [newG] at this; omega
    subst h0
    simp [newG] at h
    exact ⟨rfl, h.symm⟩
  refine ⟨rfl, fun m x h hm => ?_, fun m k x y hx hy _ _ _ _ => ?_, fun m x h => ?_⟩
  · have := key m x h; omega
  · rw [(key m x hx).1, (key k y hy).1]
  · obtain ⟨rfl, rfl⟩ := key m x h; exact Nat.le_refl _
section
variable {w : World}
set_option maxRecDepth 100000 in
set_option maxHeartbeats 1000000 in
theorem New_yes (n : Nat) (h1 : 1 ≤ n) (h2 : n ≤ 65536) :
    Calls Try.prog 54 #[.int .i64 n] w fun e w' => ∃ g F, e = .returned (.tuple #[.pointer (some ⟨g, 0, none⟩), .int .i64 0]) ∧ GIn w' g (newG n) F ∧ (∀ k ∈ F, w.heap.size ≤ k) ∧ Ch [] w w' := by
  have d1 : decide ((n : Int) < 1) = false := decide_eq_false (by omega)
  have d2 : decide ((65536 : Int) < n) = false := decide_eq_false (by omega)
  have hmm := @run_makeMap Try.prog
  go_enter Try.func54, Try.ntmps54
  go_wp2_with fail
  go_ret2

  have c1 : Ch [] w (w.alloc (.cells #[.int .u8 1, .int .i64 0, .int .i64 0, .int .i64 0] 181)) := (Ch.refl _ _).alloc _
  have c2 := c1.alloc (.map #[] 0)
  have c3 := c2.alloc (.cells #[.int .i64 n, .slice (some ⟨w.heap.size, 0, none⟩) 1 1, .map (some (w.heap.size + 1)), .slice none 0 0] 161)
  have k2 : Ch [] (w.alloc (.cells #[.int .u8 1, .int .i64 0, .int .i64 0, .int .i64 0] 181)) _ := ((Ch.refl [] _).alloc (.map #[] 0)).alloc (.cells #[.int .i64 n, .slice (some ⟨w.heap.size, 0, none⟩) 1 1, .map (some (w.heap.size + 1)), .slice none 0 0] 161)
  refine ⟨w.heap.size + 2, fp (w.heap.size + 2) w.heap.size (w.heap.size + 1) (.slice none 0 0), rfl, ⟨w.heap.size, 1, .slice none 0 0, w.heap.size + 1, ?_, rfl⟩, by simp [fp], c3⟩
  refine ⟨blk.new' _ _ (by simp), ⟨rfl, .inr ⟨w.heap.size, 1, _, rfl, by omega, (k2.block _ (by simp) (by simp)).trans (heap_alloc_new w _), by simp [newG], by unfold maxLen; omega, rfl, rfl⟩⟩, ⟨#[], 0, (((Ch.refl [] _).alloc _).block _ (by simp) (by simp)).trans (by have := heap_alloc_new (w.alloc (.cells #[.int .u8 1, .int .i64 0, .int .i64 0, .int .i64 0] 181)) (.map #[] 0); simpa using this), ?_⟩, ⟨rfl, .inl ⟨rfl, rfl⟩⟩, by omega, by omega, by omega, by simp, by simp, by simp, newG_ok h1 h2⟩
  refine ⟨by simp, fun m x hx hk => ?_, by simp⟩
  have h1 := (List.getElem?_eq_some_iff.1 hx).1
  have h0 : m = 0 := by simp [newG] at h1; omega
  subst h0
  simp [newG] at hx
  subst hx
  simp at hk
end
end Go.Proofs.Ytkedpifopclipaa
namespace Go.Proofs.Ytkedpifopclipaa
open Go.RowKit Go.Mem Go.Aig
theorem eqSliceNil (w : World) (a : Option Addr) (n c : Nat) : (binOp .eql 28 (.slice a n c) (.slice none 0 0)).run Try.prog w = .ok (.bool a.isNone) w := by
  have h : Try.prog.underlying 28 = some (.slice 45) := Try.underlying28
  simp only [binOp]
  simp [run_equal_slice_nil w _ _ a n c h]
attribute [go_sem] eqSliceNil
section
variable {w : World}
variable {g : Nat} {G : Gra} {nb ncap : Nat} {iv : Value} {mb : Nat}
end
end Go.Proofs.Ytkedpifopclipaa
namespace Go.Aig
def setMark (met : List Bool) (r : Nat) : List Bool := met.set (r / 2) true
def met0 (len : Nat) (l : List Nat) : List Bool := l.foldl setMark (List.replicate len false)
def stepMet (ns : List Nd) (met : List Bool) (n : Nat) : List Bool := match ns[n]? with
  | some x => if x.k = 3 then setMark (setMark met x.l) x.r else met
  | none => met
def coneFrom (ns : List Nd) : Nat → List Bool → List Nat
  | 0, _ => []
  | n + 1, met => if met.getD n false = true then n :: coneFrom ns n (stepMet ns met n) else coneFrom ns n met
def coneDown (ns : List Nd) (l : List Nat) : List Nat := coneFrom ns ns.length (met0 ns.length l)
def cone (ns : List Nd) (l : List Nat) : List Nat := (coneDown ns l).reverse
theorem setMark_len (met : List Bool) (r : Nat) : (setMark met r).length = met.length := by simp [setMark]
theorem stepMet_len (ns : List Nd) (met : List Bool) (n : Nat) : (stepMet ns met n).length = met.length := by
  unfold stepMet; (repeat' split) <;> simp [setMark_len]
theorem foldl_mark_len : ∀ (l : List Nat) (met : List Bool), (l.foldl setMark met).length = met.length
  | [], met => rfl
  | r :: l, met => by rw [List.foldl_cons, foldl_mark_len l, setMark_len]
theorem met0_len (len : Nat) (l : List Nat) : (met0 len l).length = len := by rw [met0, foldl_mark_len]; simp
theorem foldl_take_succ {l : List Nat} {k r : Nat} (h : l[k]? = some r) (met : List Bool) : (l.take (k + 1)).foldl setMark met = setMark ((l.take k).foldl setMark met) r := by
  rw [List.take_add_one, h]; simp
theorem coneFrom_lt (ns : List Nd) : ∀ (n : Nat) (met : List Bool), ∀ r ∈ coneFrom ns n met, r < n
  | 0, _, r, h => by cases h
  | n + 1, met, r, h => by
    unfold coneFrom at h
    split at h
    · rcases List.mem_cons.1 h with rfl | h
      · omega
      · have := coneFrom_lt ns n _ r h; omega
    · have := coneFrom_lt ns n _ r h; omega
theorem coneFrom_len (ns : List Nd) : ∀ (n : Nat) (met : List Bool), (coneFrom ns n met).length ≤ n
  | 0, _ => by simp [coneFrom]
  | n + 1, met => by
    unfold coneFrom
    split
    · have := coneFrom_len ns n (stepMet ns met n); simp; omega
    · have := coneFrom_len ns n met; omega
end Go.Aig
namespace Go.Ord
open Go
/-- an operation that is neither a call nor a defer, and of the common kinds -/
def quietOp (o : Oper) : Bool := match o.op with
  | .move _ | .assign _ | .pick .. | .load .. | .store .. | .fieldAddr .. | .binOp .. | .unOp .. | .indexAddr .. | .alloc .. | .slice .. | .field .. | .convert .. => true
  | _ => false
theorem quiet_run {P : Program} {o : Oper} (hq : quietOp o = true) {ρ : Operand → Value} {w w' : World} {x : Next} (h : (execOp ρ o).run P w = .ok x w') : (∃ v, x = .value v) ∨ x = .skip := by
  have hv : ∀ {α : Type} (s : Sem α) (f : α → Value), (do let a ← s; pure (Next.value (f a)) : Sem Next).run P w = .ok x w' → (∃ v, x = .value v) ∨ x = .skip := fun s f h => by
    rw [Sem.run_bind] at h
    cases hs : s.run P w with
    | ok a w1 => rw [hs] at h; simp at h; exact .inl ⟨_, h.1.symm⟩
    | halt z w1 => rw [hs] at h; simp [Result.andThen] at h
  have hu : ∀ (s : Sem Unit), (do s; pure Next.skip : Sem Next).run P w = .ok x w' → (∃ v, x = .value v) ∨ x = .skip := fun s h => by
    rw [Sem.run_bind] at h
    cases hs : s.run P w with
    | ok a w1 => rw [hs] at h; simp at h; exact .inr h.1.symm
    | halt z w1 => rw [hs] at h; simp [Result.andThen] at h
  unfold execOp at h
  cases ho : o.op <;> simp only [quietOp, ho] at hq h <;>
    first
      | exact absurd hq (by decide)
      | exact hv _ _ h
      | exact hu _ h
      | (simp at h; exact .inl ⟨_, h.1.symm⟩)
      | skip
theorem quiet_in {F : Fence} {n : Nat} {P : Program} {o : Oper} (hq : quietOp o = true) {a : Act} {w : World} {K : Act → World → Prop} {Q : Exit → Act → World → Prop} (h : o.wp P a w K Q) : o.wpIn F n P a w K Q := by
  have hd : ∀ c, o.op ≠ .defer c := fun c e => by simp [quietOp, e] at hq
  refine ⟨fun f hf => ?_, ?_⟩
  · unfold Oper.about at hf
    cases ho : o.op <;> simp only [quietOp, ho] at hq hf <;> first | (exact absurd hq (by decide)) | (exact absurd hf (by simp))
  · rw [Oper.semAt_eq _ _ _ hd]
    unfold Oper.wp at h
    cases hr : (execOp a.eval o).run P w with
    | ok x w' =>
      rw [hr] at h
      rcases quiet_run hq hr with ⟨v, rfl⟩ | rfl
      · exact h
      · exact h
    | halt x w' =>
      rw [hr] at h
      cases x <;> exact h
theorem any_in {F : Fence} {n : Nat} {P : Program} {ops : Array Oper} {Q : Exit → Act → World → Prop} {md : Region.Mode} (hnl : ¬ LetsOut Q) (hq : ∀ o ∈ ops.toList, quietOp o = true) : ∀ (m : Nat) (listed : Array Bool) (a : Act) (w : World), wpAny P md ops Q m listed a w → wpAnyIn F n P md ops Q m listed a w := by
  intro m
  induction m with
  | zero => intro listed a w h; exact h
  | succ m ih =>
    intro listed a w h
    refine ⟨h.1, fun i hi => ?_⟩
    have h2 := h.2 i hi
    refine wpOpIn_mono (fun a w => ih _ a w) ?_
    unfold wpOp at h2
    unfold wpOpIn
    cases ho : ops[i]? with
    | none => simpa [ho] using h2
    | some o =>
      have hqo : quietOp o = true := hq o (by
        have := Array.mem_of_getElem? ho
        exact Array.mem_def.1 this)
      simp only [ho] at h2 ⊢
      split
      · rename_i hw; simp only [hw, if_true] at h2; exact quiet_in hqo (h2.resolve_right fun h => hnl h.2)
      · rename_i hw
        simp only [hw] at h2
        refine ⟨fun f hf => ?_, h2⟩
        unfold Oper.about at hf
        cases ho2 : o.op <;> simp only [quietOp, ho2] at hqo hf <;> first | (exact absurd hqo (by decide)) | (exact absurd hf (by simp))
section
variable {F : Fence} {n : Nat} {P : Program} {l : List Oper} {Q' : Exit → Act → World → Prop}
theorem St.doorIn {id : Nat} {a : Act} {w : World} (C : World → Prop) (ks : List Kd) (A : List Nat) (R : List Nat) (hm : P.follows .mixedOrders = true) (hqq : l.all quietOp = true) (hs : stat l.toArray ks A = true) (hR : List.range l.length = R)
    (h : St P l ks A C (Q' .normal) R a w.drew) : (Code.region id l.toArray true).wpIn F n P Q' a w := by
  refine wpIn_mono (Q := only (Q' .normal)) ?_ (fun e a w ⟨he, hq⟩ => he ▸ hq)
  refine wpIn_region_any hm ?_
  subst hR
  have h2 := h List.nodup_range (fun k o e hk _ _ _ => List.mem_range.2 (by have := lt_size hk; simpa using this)) (by simp) (stat_spec hs)
  have := wpAny_of_all (P := P) (C := C) (stat_spec hs) (Q' .normal) l.length (List.range l.length) (Array.replicate l.length false) a w.drew List.nodup_range (by simp) (by simp) (by simp)
    (fun k hk => by simp at hk; simp [hk]) (by simpa using h2)
  have h3 := any_in (F := F) (n := n) (only_lets _) (fun o ho => List.all_eq_true.1 hqq o (by simpa using ho)) _ _ _ _ this
  simpa using h3
end
end Go.Ord
namespace Go
section
variable {F : Fence} {n : Nat} {P : Program} {Q : Exit → Act → World → Prop} {a : Act} {w : World}
theorem stepR_scope' {b : Frame} {k : List Item} {cs : List Frame} {c : Code} : step P (lone (b.atR a (.code (.scope c) :: k)) cs w) = .next (lone (b.atR a (.code c :: .inScope c :: k)) cs w) :=
  step_lone_go (by simp [stepG, stepG.exec, Frame.atR])
theorem stepR_inScope' {b : Frame} {k : List Item} {cs : List Frame} {c : Code} : step P (lone (b.atR a (.inScope c :: k)) cs w) = .next (lone (b.atR a k) cs w) :=
  step_lone_go (by simp [stepG, stepG.exec, Frame.atR])
theorem wpIn_scope_straight' {c : Code} (h : c.wpIn F n P (Exit.noGoto Q) a w) : (Code.scope c).wpIn F n P Q a w := by
  intro b k cs hro hb hr
  have h0 : (lone (b.atR a (.code (.scope c) :: k)) cs w).fenced P F := fenced_calm hb hr rfl
  obtain ⟨e, a₁, w₁, hq, harr⟩ := h b (.inScope c :: k) cs hro hb hr
  cases e with
  | normal => exact ⟨.normal, a₁, w₁, hq, .head h0 stepR_scope' (StepsIn.trans harr (.one (fenced_calm hb hr rfl) stepR_inScope'))⟩
  | exit id =>
    have hx : exitTo id (.inScope c :: k) = exitTo id k := by simp [exitTo]
    exact ⟨.exit id, a₁, w₁, hq, fun k' hk => .head h0 stepR_scope' (harr.1 k' (by rw [hx]; exact hk)),
      fun hr' hk => let ⟨k₁, h1, h2⟩ := harr.2 hr' (by rw [hx]; exact hk); ⟨k₁, h1, .head h0 stepR_scope' h2⟩⟩
  | goto l => exact hq.elim
  | ret => exact ⟨_, a₁, w₁, hq, .of_steps (.one h0 stepR_scope') harr⟩
  | panic ch => exact ⟨_, a₁, w₁, hq, .of_steps (.one h0 stepR_scope') harr⟩
  | outgrown => exact ⟨_, a₁, w₁, hq, .of_steps (.one h0 stepR_scope') harr⟩
end
end Go
namespace Go
open Go.RowKit
/-- what an iterator may do between two rounds: new blocks, and stores into cells of type T from B on -/
structure Still (T : TypeId) (B : Nat) (W W' : World) : Prop where
  os : W'.os = W.os
  tape : W'.tape = W.tape
  output : W'.output = W.output
  size : W.heap.size ≤ W'.heap.size
  keep : ∀ (k : Nat) (o : Obj), W.heap[k]? = some o → (k < B ∨ ∀ xs fz, o ≠ .cells xs T fz) → W'.heap[k]? = some o
/-- what the caller's word must bear: also turns of blocks that are no cells, from B on -/
structure StillI (T : TypeId) (B : Nat) (W W' : World) : Prop where
  os : W'.os = W.os
  tape : W'.tape = W.tape
  output : W'.output = W.output
  size : W.heap.size ≤ W'.heap.size
  keep : ∀ (k : Nat) (o : Obj), W.heap[k]? = some o → (k < B ∨ ∃ xs U fz, o = .cells xs U fz ∧ U ≠ T) → W'.heap[k]? = some o
def othersStay (W W' : World) : Prop := ∀ (k : Nat) (o : Obj), W.heap[k]? = some o → o.isCells = false → W'.heap[k]? = some o

section
variable {F : Fence} {n : Nat} {P : Program} {T : TypeId}
def SeqB {α : Type} (F : Fence) (n : Nat) (P : Program) (T : TypeId) (g : Nat) (lb : Array Value) (encs : α → Array Value) (Kp : World → World → Prop) (xs : List α) (w : World) : Prop :=
  ∀ (l : Nat) (J : List α → World → Prop) (W : World), Below w.heap.size w W → (∀ s A B, J s A → Still T W.heap.size A B → J s B) →
    (∀ pre x W1, J pre W1 → (pre ++ [x]) <+: xs → YieldAt F (n - 1) P l (encs x) W1 fun e W' => e = .returned (.bool true) ∧ J (pre ++ [x]) W' ∧ Kp W1 W') →
    J [] W →
    CallsIn F n P g (#[.func (.yield l) #[] #[]] ++ lb) W fun e W' => (∃ v, e = .returned v) ∧ J xs W'

theorem Still.toI {B C : Nat} {A W : World} (h : Still T B A W) (hC : C ≤ B) : StillI T C A W := ⟨h.os, h.tape, h.output, h.size, fun k o hk ho => h.keep k o hk (by
  rcases ho with h1 | ⟨xs, U, fz, rfl, hU⟩
  · exact .inl (by omega)
  · exact .inr (fun ys gz e => by cases e; exact hU rfl))⟩
theorem Still.alloc {B : Nat} {W : World} (o : Obj) : Still T B W (W.alloc o) := ⟨rfl, rfl, rfl, by simp, fun k u hk _ => (Below.heap_alloc W o k (Array.getElem?_eq_some_iff.1 hk).1).trans hk⟩
theorem Still.trans {B : Nat} {A W V : World} (h : Still T B A W) (h' : Still T B W V) : Still T B A V := ⟨h'.os.trans h.os, h'.tape.trans h.tape, h'.output.trans h.output, Nat.le_trans h.size h'.size, fun k o hk ho => h'.keep k o (h.keep k o hk ho) ho⟩
theorem Still.drew {B : Nat} {A W : World} (h : Still T B A W) : Still T B A W.drew := ⟨h.os, h.tape, h.output, h.size, h.keep⟩
theorem StillI.put {B l : Nat} {W : World} {o : Obj} (o' : Obj) (hB : B ≤ l) (hl : W.heap[l]? = some o) (ho : o.isCells = false) : StillI T B W (W.putObj l o') := ⟨rfl, rfl, rfl, by simp, fun k u hk hu => by
  by_cases hkl : k = l
  · subst hkl
    rw [hl] at hk; cases hk
    rcases hu with h1 | ⟨xs, U, fz, rfl, _⟩
    · omega
    · cases ho
  · exact (World.putObj_heap_other hkl).trans hk⟩
theorem StillI.alloc {B : Nat} {W : World} (o : Obj) : StillI T B W (W.alloc o) := ⟨rfl, rfl, rfl, by simp, fun k u hk _ => (Below.heap_alloc W o k (Array.getElem?_eq_some_iff.1 hk).1).trans hk⟩

theorem wpIn_rangeFunc_B {α : Type} {g : Operand} {ps : Array Tmp} {assign body : Code} {Q : Exit → Act → World → Prop} {a : Act} {w : World}
    (hro : F.round = none) (h1 : 1 ≤ n) {gf : Nat} {lb : Array Value} (hg : a.eval g = .func (.func gf) #[] lb) (hFg : F.fn gf) (eg : ∀ args w, (callFunc gf args).run P w = .ok (.enter gf args) w)
    {encs : α → Array Value} {Kp : World → World → Prop} {xs : List α} {w0 : World} (hseq : SeqB F (n - 1) P T gf lb encs Kp xs w0)
    (hKt : ∀ {A B C : World}, Kp A B → Kp B C → Kp A C) (hKb : ∀ (W : World) (l : Nat) (o o' : Obj), w.heap.size ≤ l → W.heap[l]? = some o → o.isCells = false → Kp W (W.putObj l o')) (hb0 : Below w0.heap.size w0 w) (hps : ∀ x, (encs x).size = ps.size)
    (I : List α → World → Prop) (hI : ∀ s A B, I s A → StillI T w.heap.size A B → I s B) (h0 : I [] w) (a₁ : α → Act)
    (hassign : ∀ (l : Nat) (x : α) (W : World) (K : Act → World → Prop), K (a₁ x) W →
      assign.wpIn (F.inRound l) (n - 1 - 1) P (Exit.then K (fun _ _ _ => False)) { tmps := (ps.zip (encs x)).foldl (fun t (p, v) => t.setIfInBounds p v) a.tmps, defers := [] } W)
    (hbody : ∀ (l : Nat) (pre : List α) (x : α) (W : World), I pre W → (pre ++ [x]) <+: xs → body.wpIn (F.inRound l) (n - 1 - 1) P (fun e _ W' => e = .normal ∧ othersStay W W' ∧ Kp W W' ∧ I (pre ++ [x]) W') (a₁ x) W)
    (hdone : ∀ (D : Nat) (W : World), w.heap.size ≤ D → I xs W → W.heap[D]? = some (.deferred (some [])) → Q .normal { a with defers := { target := .collected D, args := #[] } :: a.defers } W) :
    (Code.rangeFunc g ps assign body).wpIn F n P Q a w := by
  refine wpIn_rangeFunc fun fn hfn => ?_
  rw [hro]
  let rec0 : LoopState → Loop := fun st => { state := st, pending := none, fn, tmps := a.tmps, params := ps, assign, body, defers := w.heap.size }
  obtain ⟨W1, hW1⟩ : ∃ W1, (w.alloc (.deferred (some []))).alloc (.loop (rec0 .ready)) = W1 := ⟨_, rfl⟩
  have hz1 : W1.heap.size = w.heap.size + 2 := by rw [← hW1]; simp
  have hL1 : W1.heap[w.heap.size + 1]? = some (.loop (rec0 .ready)) := by
    rw [← hW1]; have := World.alloc_heap_new (w.alloc (.deferred (some []))) (.loop (rec0 .ready)); rwa [World.size_alloc] at this
  have hK1 : W1.heap[w.heap.size]? = some (.deferred (some [])) := by
    rw [← hW1]; exact (Below.heap_alloc _ _ _ (by simp)).trans (World.alloc_heap_new w _)
  have hI1 : I [] W1 := by rw [← hW1]; exact hI _ _ _ (hI _ _ _ h0 (StillI.alloc _)) (StillI.alloc _)
  have hb1 : Below w0.heap.size w0 W1 := by
    rw [← hW1]; exact hb0.trans ((((Below.refl _ w).alloc (Nat.le_refl _) _).alloc (by simp) _).mono hb0.size)
  refine ⟨w.heap.size + 1, [{ target := .collected w.heap.size, args := #[] }], W1, { target := .fn (.func gf) lb, args := #[.func (.yield (w.heap.size + 1)) #[] #[]] }, W1, gf,
    #[.func (.yield (w.heap.size + 1)) #[] #[]] ++ lb, W1, ?_, ?_, ?_, ?_, fun _ => h1, ?_⟩
  · rw [← hW1]; exact run_enterLoop_outer _ _ _ _ _
  · simp only [resolve, hg]
    simp [go_sem]
  · intro f' hf'; simp [Target.leads] at hf'; subst hf'; exact hFg
  · simp [invoke, go_sem, eg]
  · refine (hseq (w.heap.size + 1) (fun pre W => I pre W ∧ W.heap[w.heap.size + 1]? = some (.loop (rec0 .ready)) ∧ W.heap[w.heap.size]? = some (.deferred (some []))) W1 hb1
      (fun s A B hs hst => ⟨hI s A B hs.1 (hst.toI (by omega)), hst.keep _ _ hs.2.1 (.inr (fun _ _ e => by cases e)), hst.keep _ _ hs.2.2 (.inr (fun _ _ e => by cases e))⟩) ?_ ⟨hI1, hL1, hK1⟩).mono ?_
    · rintro pre x W ⟨hi, hl, hk⟩ hpre
      have hlt : w.heap.size + 1 < W.heap.size := (Array.getElem?_eq_some_iff.1 hl).1
      refine ⟨fn, _, assign, body, run_yield (P := P) (args := encs x) hl (hps x), roundIn_of_wpIn hfn (hassign _ x W _ ⟨_, run_beginRound hl rfl, ?_⟩)⟩
      have hl2 : (W.putObj (w.heap.size + 1) (.loop (rec0 .busy))).heap[w.heap.size + 1]? = some (.loop (rec0 .busy)) := World.putObj_heap_same hlt
      have hk2 : (W.putObj (w.heap.size + 1) (.loop (rec0 .busy))).heap[w.heap.size]? = some (.deferred (some [])) := (World.putObj_heap_other (by omega)).trans hk
      refine wpIn_mono (hbody _ pre x _ (hI _ _ _ hi (StillI.put (.loop (rec0 .busy)) (by omega) hl rfl)) hpre) ?_
      rintro e a3 W3 ⟨rfl, hk3, hkp3, hi3⟩
      have hl3 := hk3 _ _ hl2 rfl
      refine ⟨_, _, run_endRound (P := P) none hl3, rfl, ⟨hI _ _ _ hi3 (StillI.put _ (by omega) hl3 rfl), World.putObj_heap_same (Array.getElem?_eq_some_iff.1 hl3).1, (World.putObj_heap_other (by omega)).trans (hk3 _ _ hk2 rfl)⟩, ?_⟩
      exact hKt (hKt (hKb _ _ _ _ (by omega) hl rfl) hkp3) (hKb _ _ _ _ (by omega) hl3 rfl)
    · rintro e W2 ⟨⟨v, rfl⟩, hi, hl, hk⟩
      exact ⟨none, _, run_endLoop (P := P) hl (by simp [rec0]), hdone _ _ (Nat.le_refl _) (hI _ _ _ hi (StillI.put _ (by omega) hl rfl)) ((World.putObj_heap_other (by omega)).trans hk)⟩
end
end Go
namespace Go.Proofs.Ytkedpifopclipaa
open Go.RowKit Go.Mem Go.Aig Go.Shelf
attribute [local go_sem] Oper.semAt_some

/-- what a round of a loop over the cone keeps: what lies below n₀, and each slice of truths -/
structure Kb (n₀ bo : Nat) (W W' : World) : Prop where
  os : W'.os = W.os
  tape : W'.tape = W.tape
  output : W'.output = W.output
  size : W.heap.size ≤ W'.heap.size
  block : ∀ k, k < n₀ → k ≠ bo → W'.heap[k]? = W.heap[k]?
  bools : ∀ (b : Nat) (xs : Array Value), W.heap[b]? = some (Obj.cells xs 4 (0, 0)) → W'.heap[b]? = some (Obj.cells xs 4 (0, 0))
theorem Kb.trans {n₀ bo : Nat} {A B C : World} (h : Kb n₀ bo A B) (h' : Kb n₀ bo B C) : Kb n₀ bo A C := ⟨h'.os.trans h.os, h'.tape.trans h.tape, h'.output.trans h.output, Nat.le_trans h.size h'.size, fun k h1 h2 => (h'.block k h1 h2).trans (h.block k h1 h2), fun b xs hb => h'.bools b xs (h.bools b xs hb)⟩
theorem Ch.kb {bo : Nat} {w A B : World} (h : Ch [bo] w A) (hk : Kb w.heap.size bo A B) : Ch [bo] w B := ⟨hk.os.trans h.os, hk.tape.trans h.tape, hk.output.trans h.output, Nat.le_trans h.size hk.size, fun k hk1 hk2 => (hk.block k hk1 (by simpa using hk2)).trans (h.block k hk1 hk2)⟩
def bools (l : List Bool) : List Value := l.map .bool
theorem infoBool : (Try.prog.info? 4).map (fun i => (i.zero, i.size, i.bytes)) = some (some (.bool false), 1, 1) := by kernel_rfl
theorem run_make_bools (w : World) (n : Nat) (hn : n ≤ 65536) : (Instr.makeSlice 56 (.int .i64 n) (.int .i64 n)).run Try.prog w = .ok (.slice (some ⟨w.heap.size, 0, none⟩) n n) (w.alloc (.cells (bools (List.replicate n false)).toArray 4)) := by
  obtain ⟨i, hi, hz, hs, hb⟩ := info_parts infoBool
  have := run_make (P := Try.prog) w 56 4 i (.bool false) Try.underlying56 hi hz .i64 .i64 n n (by omega) (by omega) (by rw [hb]; omega) (by omega)
  rw [this, hs]
  have e : madeCells (Value.bool false).cells ((n : Int).toNat * 1) = (bools (List.replicate n false)).toArray := by
    apply Array.ext'
    have h := toList_madeCells_one (Value.bool false) ((n : Int).toNat * 1)
    simpa [bools, Value.cells] using h
  rw [e]; simp
def bblk (w : World) (b : Nat) (met : List Bool) : Prop := w.heap[b]? = some (Obj.cells (bools met).toArray 4 (0, 0))
theorem bblk.blk {w : World} {b : Nat} {met : List Bool} (h : bblk w b met) : blk w b (bools met) := ⟨_, h⟩
theorem bblk.set {w : World} {b i : Nat} {met : List Bool} (h : bblk w b met) (v : Bool) : bblk (w.setCell ⟨b, i, none⟩ (.bool v)) b (met.set i v) := by
  unfold bblk at *
  simp only [World.setCell, Array.getElem?_modify]
  rw [if_pos trivial, h]
  simp [bools, List.map_set]
theorem bblk.cell {w : World} {b i : Nat} {met : List Bool} (h : bblk w b met) (hi : i < met.length) : w.cell? ⟨b, i, none⟩ = some (.bool (met.getD i false)) := by
  refine h.blk.cell ?_
  simp [bools, hi]
theorem bblk.still {w : World} {b B : Nat} {met : List Bool} (h : bblk w b met) (hB : B ≤ b) (i : Nat) (v : Value) : Still 4 B w (w.setCell ⟨b, i, none⟩ v) := ⟨rfl, rfl, rfl, by simp, fun k o hk ho => by
  by_cases hkb : k = b
  · subst hkb
    rw [h] at hk; cases hk
    rcases ho with h1 | h1
    · omega
    · exact (h1 _ _ rfl).elim
  · exact (Below.heap_setCell w _ v k hkb).trans hk⟩
theorem bblk.kb {n₀ bo : Nat} {A B : World} {b : Nat} {met : List Bool} (h : bblk A b met) (hk : Kb n₀ bo A B) : bblk B b met := hk.bools _ _ h
section
variable {w : World} {g : Nat} {G : Gra} {nb ncap : Nat} {iv : Value} {mb : Nat}
set_option maxRecDepth 100000 in
set_option maxHeartbeats 2000000 in
theorem cone1_stops (bo : Nat) (F : Fence) (n : Nat) (hf : F.fn 164) (hro : F.round = none) (hn : 1 ≤ n) (h : GM w g G nb ncap iv mb) {x y : Nat} (bx : w.cell? ⟨x, 0, none⟩ = some (.pointer (some ⟨g, 0, none⟩))) (hxl : x < w.heap.size) {a : Option Addr} {l : List Nat} (cap : Nat) (by' : w.cell? ⟨y, 0, none⟩ = some (.slice a l.length cap)) (hyl : y < w.heap.size)
    (hS : Sl w a (l.map fun (r : Nat) => (r : Int))) (hap : ∀ p, a = some p → p.block < w.heap.size ∧ p.block ≠ bo) (hr : ∀ r ∈ l, r < 2 * G.nodes.length) (hgo : g ≠ bo) (hno : nb ≠ bo) (hxo : x ≠ bo) :
    SeqB F n Try.prog 4 164 #[.pointer (some ⟨x, 0, none⟩), .pointer (some ⟨y, 0, none⟩)] (fun (k : Nat) => #[.int .i64 k]) (Kb w.heap.size bo) (coneDown G.nodes l) w := by
  intro lp J W hW hJ hY h0
  have hc : Ch [] w W := ⟨hW.os, hW.tape, hW.output, hW.size, fun k hk _ => hW.block k hk⟩
  have hg := h.ch hc (by simp)
  have ⟨c0, c1, c2, c3⟩ := hg.c
  have hl0 := hg.lt.1
  have hln := h.lt.1
  have hpos := h.ok.wf.pos
  have hsz : G.nodes.length ≤ 65536 := by have := h.ok.room; have := h.ok.most; omega
  have bx1 := (hc.cell (p := ⟨x, 0, none⟩) hxl (by simp)).trans bx
  have by1 := (hc.cell (p := ⟨y, 0, none⟩) hyl (by simp)).trans by'
  have hxW : x < W.heap.size := Nat.lt_of_lt_of_le hxl hW.size
  have hyW : y < W.heap.size := Nat.lt_of_lt_of_le hyl hW.size
  have hmk := run_make_bools W G.nodes.length hsz
  have hbd := hS.bd
  rw [List.length_map] at hbd
  show CallsIn F n Try.prog 164 #[.func (.yield lp) #[] #[], .pointer (some ⟨x, 0, none⟩), .pointer (some ⟨y, 0, none⟩)] W _
  have H := Lib.hid hg; clear hg
  have HY := Lib.hid hY; clear hY
  have H0 := Lib.hid h0; clear h0
  have HJ := Lib.hid hJ; clear hJ
  have HC := Lib.hid hc; clear hc
  have HW := Lib.hid hW; clear hW
  have HR := Lib.hid hr; clear hr
  have HS := Lib.hid hS; clear hS
  refine callsIn_of_wp Try.func164 rfl hf ?_ hro
  simp only [Try.ntmps164, List.size_toArray, List.length_cons, List.length_nil, Nat.reduceAdd, Nat.reduceSub, Array.replicate_succ, Array.replicate_zero, List.push_toArray, List.append_toArray, List.nil_append, List.cons_append]
  refine wpIn_scope_straight' ?_
  gi_wp2
  have hst : bblk (W.alloc (Obj.cells (bools (List.replicate G.nodes.length false)).toArray 4)) W.heap.size (((l.take 0).foldl setMark (List.replicate G.nodes.length false))) := heap_alloc_new W _
  have HST := Lib.hid hst; clear hst
  gi_loopw [17] (fun i wr => ∃ k : Nat, k ≤ l.length ∧ i = .int .i64 k ∧ Ch [bo] w wr ∧ bblk wr W.heap.size ((l.take k).foldl setMark (List.replicate G.nodes.length false)) ∧ J [] wr) (fun i _ => l.length - (intOf i).toNat)
  case atStart => exact ⟨0, Nat.zero_le _, rfl, (HC.out.mono (F' := [bo]) (by simp)).alloc _, HST.out, HJ.out _ _ _ H0.out (Still.alloc _)⟩
  case round =>
    obtain ⟨k, hk, rfl, hb, hm, hj⟩ := hrel
    have HB := Lib.hid hb; clear hb
    have HM := Lib.hid hm; clear hm
    have HJ1 := Lib.hid hj; clear hj
    by_cases hlt : k < l.length
    · have hxk : l[k]? = some l[k] := List.getElem?_eq_getElem hlt
      have hrk := HR.out _ (List.getElem_mem hlt)
      generalize l[k] = r at *
      obtain ⟨b, o, rfl, hcell⟩ := HS.out.cells k (r : Int) (by simp [hxk])
      have d0 : wr.cell? ⟨b, o + k, none⟩ = some (.int .i64 r) := (World.cell?_of_block (HB.out.block b (hap _ rfl).1 (by simpa using (hap _ rfl).2))).trans hcell
      have hlen : ((l.take k).foldl setMark (List.replicate G.nodes.length false)).length = G.nodes.length := by rw [foldl_mark_len]; simp
      have m0 := HM.out.cell (i := r / 2) (by rw [hlen]; omega)
      have m1 : wr.frozen? ⟨W.heap.size, r / 2, none⟩ = false := HM.out.blk.frozen
      clear hlen hcell
      gi_wp2
      go_roundw
      case rel => exact ⟨k + 1, by omega, by go_num, HB.out.setCell (.inr HW.out.size) _, by rw [foldl_take_succ hxk]; exact HM.out.set true, HJ.out _ _ _ HJ1.out (HM.out.still (Nat.le_refl _) _ _)⟩
      case measure => simp [intOf]; omega
    · have hkl : l.take k = l := List.take_of_length_le (by omega)
      have hm := HM.out
      rw [hkl] at hm
      have HM0 := Lib.hid (show bblk wr W.heap.size (met0 G.nodes.length l) from hm); clear hm HM hkl
      have hd1 : ((G.nodes.length : Int) - 1) = ((G.nodes.length - 1 : Nat) : Int) := by omega
      gi_wp2
      refine wpIn_label ?_
      gi_wp2
      clear c0 c1 c2 c3 bx1 by1 hmk
      gi_loopw [7] (fun i wr => ∃ k : Nat, k ≤ G.nodes.length ∧ i = .int .i64 ((k : Int) - 1) ∧ Ch [bo] w wr ∧ ∃ met, bblk wr W.heap.size met ∧ met.length = G.nodes.length ∧ ∃ pre, pre ++ coneFrom G.nodes k met = coneDown G.nodes l ∧ J pre wr) (fun i _ => (intOf i + 1).toNat)
      case atStart => exact ⟨G.nodes.length, Nat.le_refl _, by go_num, HB.out, _, HM0.out, met0_len _ _, [], rfl, HJ1.out⟩
      case round =>
        obtain ⟨k2, hk2, rfl, hb2, met, hm2, hml, pre, hpre, hj2⟩ := hrel
        have HB2 := Lib.hid hb2; clear hb2
        have HM2 := Lib.hid hm2; clear hm2
        have HJ2 := Lib.hid hj2; clear hj2
        have HP := Lib.hid hpre; clear hpre
        cases k2 with
        | zero =>
          gi_wp2
          rw [Exit.noGoto_normal]
          go_end0
          have hp := HP.out
          rw [show coneFrom G.nodes 0 met = [] from rfl, List.append_nil] at hp
          exact ⟨⟨_, rfl⟩, hp ▸ HJ2.out⟩
        | succ j =>
          have ej : (((j + 1 : Nat) : Int) - 1) = (j : Int) := by omega
          rw [ej]
          have hj1 : j < G.nodes.length := by omega
          have m0 := HM2.out.cell (i := j) (by omega)
          have hd2 : decide ((0 : Int) ≤ j) = true := decide_eq_true (by omega)
          cases hmj : met.getD j false
          · rw [hmj] at m0
            have hcf : coneFrom G.nodes (j + 1) met = coneFrom G.nodes j met := by
              show (if met.getD j false = true then _ else _) = _
              rw [hmj]; try rfl
            have HCF := Lib.hid hcf; clear hcf
            gi_wp2
            go_roundw
            case rel => exact ⟨j, by omega, by go_num, HB2.out, met, HM2.out, hml, pre, by rw [← HCF.out]; exact HP.out, HJ2.out⟩
            case measure => simp [intOf]; try omega
          · rw [hmj] at m0
            have hxg : G.nodes[j]? = some G.nodes[j] := List.getElem?_eq_getElem hj1
            generalize hxe : G.nodes[j] = x0 at hxg
            clear hxe
            have hcf : coneFrom G.nodes (j + 1) met = j :: coneFrom G.nodes j (stepMet G.nodes met j) := by
              show (if met.getD j false = true then _ else _) = _
              rw [hmj]; try rfl
            have hpx : pre ++ [j] <+: coneDown G.nodes l := ⟨coneFrom G.nodes j (stepMet G.nodes met j), by rw [← HP.out, hcf]; simp⟩
            have HCF := Lib.hid hcf; clear hcf
            have HPX := Lib.hid hpx; clear hpx
            have cc : ∀ (p : Addr) (v : Value), w.cell? p = some v → p.block < w.heap.size → p.block ≠ bo → wr.cell? p = some v := fun p v hv hp hq => (World.cell?_of_block (HB2.out.block p.block hp (by simpa using hq))).trans hv
            have ⟨q0, q1, q2, q3⟩ := h.c
            have c1 := cc _ _ q1 hln hgo
            have bx1 := cc _ _ bx hxl hxo
            have ⟨n0, n1, n2, n3⟩ := h.node hxg
            have hnb := h.lt.2.1
            have n0 := cc _ _ n0 hnb hno
            have n1 := cc _ _ n1 hnb hno
            have n2 := cc _ _ n2 hnb hno
            have n3 := cc _ _ n3 hnb hno
            clear q0 q1 q2 q3 cc
            have ⟨xk, xl, xr, xd⟩ := dep_bd h.ok.1 hxg hsz
            have hMl : W.heap.size < wr.heap.size := HM2.out.blk.lt
            by_cases hk3 : x0.k = 3
            · have hb3 : ((x0.k : Int) == 3) = true := beqI (by omega)
              have hoth := h.ok.1.other j x0 hxg (by
                rcases Nat.eq_zero_or_pos j with hj0 | hj0
                · subst hj0
                  rw [h.ok.1.const] at hxg; cases hxg
                  simp at hk3
                · exact hj0)
              have ⟨o0, o1, o2, o3, o4, o5⟩ := hoth.resolve_left (by rintro rfl; simp at hk3)
              clear hoth o0 o5
              have hstep : stepMet G.nodes met j = (met.set (x0.l / 2) true).set (x0.r / 2) true := by unfold stepMet; rw [hxg]; simp [hk3, setMark]
              have ml := HM2.out.cell (i := x0.l / 2) (by omega)
              have mr := HM2.out.cell (i := x0.r / 2) (by omega)
              have fl : wr.frozen? ⟨W.heap.size, x0.l / 2, none⟩ = false := HM2.out.blk.frozen
              have fr : wr.frozen? ⟨W.heap.size, x0.r / 2, none⟩ = false := HM2.out.blk.frozen
              have hmS := (HM2.out.set (i := x0.l / 2) true).set (i := x0.r / 2) true
              have hmA : bblk ((((wr.setCell ⟨W.heap.size, x0.l / 2, none⟩ (.bool true)).setCell ⟨W.heap.size, x0.r / 2, none⟩ (.bool true)).alloc (.cells #[.int .u8 x0.k, .int .i64 x0.l, .int .i64 x0.r, .int .i64 x0.d] 181)).drew) W.heap.size ((met.set (x0.l / 2) true).set (x0.r / 2) true) := (Below.heap_alloc _ _ _ hmS.blk.lt).trans hmS
              have hst : Still 4 W.heap.size wr ((((wr.setCell ⟨W.heap.size, x0.l / 2, none⟩ (.bool true)).setCell ⟨W.heap.size, x0.r / 2, none⟩ (.bool true)).alloc (.cells #[.int .u8 x0.k, .int .i64 x0.l, .int .i64 x0.r, .int .i64 x0.d] 181)).drew) := (((HM2.out.still (Nat.le_refl _) _ _).trans ((HM2.out.set (i := x0.l / 2) true).still (Nat.le_refl _) _ _)).trans (Still.alloc _)).drew
              obtain ⟨fn, tmps, assign, body, hy, hR⟩ := HY.out pre j _ (HJ.out _ _ _ HJ2.out hst) HPX.out
              have HMS := Lib.hid hmA; clear hmS hmA
              have HSTL := Lib.hid hst; clear hst
              have HX3 := Lib.hid hk3; clear hk3
              have o3' : ¬ x0.r / 2 = x0.l / 2 := fun e => o3 e.symm
              gi_wp2
              refine Ord.St.doorIn (fun w' => w'.cell? ⟨wr.heap.size, 2, none⟩ = some (.int .i64 x0.r)) [.fl, .fl, .fl, .rd, .fl, .fl, .fl, .fl, .ho, .fl, .fl, .ef, .fl, .ef] [0, 0, 2, 6, 14, 0, 0, 64, 192, 448, 31, 1055, 4095, 8191] [0, 1, 2, 3, 4, 5, 6, 7, 8, 9, 10, 11, 12, 13] mixed (by kernel_rfl) (by kernel_rfl) rfl ?_
              refine Ord.St.fl2 (T' := ?_) 0 [1, 2, 3, 4, 5, 6, 7, 8, 9, 10, 11, 12, 13] _ _ rfl (by kernel_rfl) rfl rfl rfl rfl (fun K w' hk => ?_) ?_
              rotate_left
              · go_step; exact hk
              refine Ord.St.fl2 (T' := ?_) 1 [2, 3, 4, 5, 6, 7, 8, 9, 10, 11, 12, 13] _ _ rfl (by kernel_rfl) rfl rfl rfl rfl (fun K w' hk => ?_) ?_
              rotate_left
              · go_step; exact hk
              refine Ord.St.fl2 (T' := ?_) 2 [3, 4, 5, 6, 7, 8, 9, 10, 11, 12, 13] _ _ rfl (by kernel_rfl) rfl rfl rfl rfl (fun K w' hk => ?_) ?_
              rotate_left
              · go_step; exact hk
              refine Ord.St.rd2 (T' := ?_) 3 [4, 5, 6, 7, 8, 9, 10, 11, 12, 13] _ _ rfl (by kernel_rfl) rfl rfl rfl rfl (fun K hk => ?_) ?_
              rotate_left
              · go_step; exact hk
              refine Ord.St.fl2 (T' := ?_) 4 [5, 6, 7, 8, 9, 10, 11, 12, 13] _ _ rfl (by kernel_rfl) rfl rfl rfl rfl (fun K w' hk => ?_) ?_
              rotate_left
              · go_step; exact hk
              refine Ord.St.fl2 (T' := ?_) 5 [6, 7, 8, 9, 10, 11, 12, 13] _ _ rfl (by kernel_rfl) rfl rfl rfl rfl (fun K w' hk => ?_) ?_
              rotate_left
              · go_step; exact hk
              refine Ord.St.fl2 (T' := ?_) 6 [7, 8, 9, 10, 11, 12, 13] _ _ rfl (by kernel_rfl) rfl rfl rfl rfl (fun K w' hk => ?_) ?_
              rotate_left
              · go_step; exact hk
              refine Ord.St.fl2 (T' := ?_) 7 [8, 9, 10, 11, 12, 13] _ _ rfl (by kernel_rfl) rfl rfl rfl rfl (fun K w' hk => ?_) ?_
              rotate_left
              · go_step; exact hk
              refine Ord.St.ho2 (T' := ?_) 8 [9, 10, 11, 12, 13] _ _ rfl (by kernel_rfl) rfl rfl rfl rfl ?_ (fun K w' hw' hk => ?_) ?_
              rotate_left
              · (go_simp)
              · skip; go_step; exact hk
              refine Ord.St.fl2 (T' := ?_) 9 [10, 11, 12, 13] _ _ rfl (by kernel_rfl) rfl rfl rfl rfl (fun K w' hk => ?_) ?_
              rotate_left
              · go_step; exact hk
              refine Ord.St.fl2 (T' := ?_) 10 [11, 12, 13] _ _ rfl (by kernel_rfl) rfl rfl rfl rfl (fun K w' hk => ?_) ?_
              rotate_left
              · go_step; exact hk
              refine Ord.St.efC 11 [12, 13] _ rfl (by kernel_rfl) (fun K hK => ?_)
              go_wp2_with fail
              refine ⟨rfl, hK _ _ ?_ ?_⟩
              · (go_simp)
              clear hK K
              refine Ord.St.fl2 (T' := ?_) 12 [13] _ _ rfl (by kernel_rfl) rfl rfl rfl rfl (fun K w' hk => ?_) ?_
              rotate_left
              · go_step; exact hk
              refine Ord.St.ef 13 [] _ rfl (by kernel_rfl) (fun K hK => ?_)
              go_wp2_with fail
              refine ⟨rfl, hK _ _ ?_⟩; clear hK K
              refine Ord.St.nil ?_
              gi_wp2
              refine hR.mono ?_
              rintro e W2 ⟨rfl, hJ', hk⟩
              have HJ3 := Lib.hid hJ'; clear hJ'
              have HK := Lib.hid hk; clear hk
              gi_wp2
              go_roundw
              case rel => exact ⟨j, by omega, by go_num, Ch.kb ((((HB2.out.setCell (.inr HW.out.size) _).setCell (.inr HW.out.size) _).alloc _).drew) HK.out, _, bblk.kb HMS.out HK.out, by simp [hml], pre ++ [j], by rw [← HP.out, HCF.out, hstep]; simp, HJ3.out⟩
              case measure => simp [intOf]; try omega
            · have hb3 : ((x0.k : Int) == 3) = false := beqN (by omega)
              have hstep : stepMet G.nodes met j = met := by unfold stepMet; rw [hxg]; simp [hk3]
              obtain ⟨fn, tmps, assign, body, hy, hR⟩ := HY.out pre j (wr.alloc (.cells #[.int .u8 x0.k, .int .i64 x0.l, .int .i64 x0.r, .int .i64 x0.d] 181)) (HJ.out _ _ _ HJ2.out (Still.alloc _)) HPX.out
              have hmA : bblk (wr.alloc (.cells #[.int .u8 x0.k, .int .i64 x0.l, .int .i64 x0.r, .int .i64 x0.d] 181)) W.heap.size met := (Below.heap_alloc wr _ _ hMl).trans HM2.out
              have HMA := Lib.hid hmA; clear hmA
              gi_wp2
              refine hR.mono ?_
              rintro e W2 ⟨rfl, hJ', hk⟩
              have HJ3 := Lib.hid hJ'; clear hJ'
              have HK := Lib.hid hk; clear hk
              gi_wp2
              go_roundw
              case rel => exact ⟨j, by omega, by go_num, Ch.kb (HB2.out.alloc _) HK.out, met, HMA.out.kb HK.out, hml, pre ++ [j], by rw [← HP.out, HCF.out, hstep]; simp, HJ3.out⟩
              case measure => simp [intOf]; try omega
end
end Go.Proofs.Ytkedpifopclipaa
namespace Go.Proofs.Ytkedpifopclipaa
open Go.RowKit Go.Mem Go.Aig
theorem fnvCone1 : Fnv 85 := fnv_of Try.func85 (by simp [Try.f85]) (by simp [Try.f85])
section
variable {w : World} {g : Nat} {G : Gra} {nb ncap : Nat} {iv : Value} {mb : Nat}
set_option maxRecDepth 100000 in
set_option maxHeartbeats 1000000 in
theorem Cone1_is (h : GM w g G nb ncap iv mb) {bx : Nat} (hb : w.cell? ⟨bx, 0, none⟩ = some (.pointer (some ⟨g, 0, none⟩))) (r : Int) (hr : r ≤ 9223372036854775807) :
    Calls Try.prog 85 (#[.int .i64 r] ++ #[.pointer (some ⟨bx, 0, none⟩)]) w fun e w' => e = .returned (.bool (!right G.nodes r)) ∧ w = w' := by
  show Calls Try.prog 85 #[.int .i64 r, .pointer (some ⟨bx, 0, none⟩)] w _
  have HR := Right_is h r hr
  clear h
  generalize right G.nodes r = q at *
  go_enter Try.func85, Try.ntmps85
  go_wp2_with fail
  refine HR.mono ?_
  rintro e w' ⟨rfl, rfl⟩
  go_wp2_with fail
  go_ret
  exact ⟨ret_bool rfl, rfl⟩
set_option maxRecDepth 100000 in
set_option maxHeartbeats 1000000 in
theorem cone_is (g : Nat) (a : Option Addr) (n cap : Nat) :
    Calls Try.prog 87 #[.pointer (some ⟨g, 0, none⟩), .slice a n cap] w fun e w' => e = .returned (.func (.func 164) #[] #[.pointer (some ⟨w.heap.size, 0, none⟩), .pointer (some ⟨w.heap.size + 1, 0, none⟩)]) ∧ w' = (w.alloc (.cells #[.pointer (some ⟨g, 0, none⟩)] 27)).alloc (.cells #[.slice a n cap] 28) := by
  go_enter Try.func87, Try.ntmps87
  go_wp2_with fail
  go_ret
  exact ⟨rfl, rfl⟩
end
end Go.Proofs.Ytkedpifopclipaa
namespace Go.Proofs.Ytkedpifopclipaa
open Go.RowKit Go.Mem Go.Aig
/-- after i swaps -/
def swapped (l : List Nat) (i : Nat) (L : List Nat) : Prop := L.length = l.length ∧ ∀ p, p < l.length → L[p]? = if p < i ∨ l.length - i ≤ p then l[l.length - 1 - p]? else l[p]?
theorem swapped_zero (l : List Nat) : swapped l 0 l := ⟨rfl, fun p hp => by rw [if_neg (by omega)]⟩
theorem swapped_done {l L : List Nat} {i : Nat} (h : swapped l i L) (hi : l.length ≤ 2 * i + 1) : L = l.reverse := by
  apply List.ext_getElem?
  intro p
  by_cases hp : p < l.length
  · rw [h.2 p hp, List.getElem?_reverse hp]
    split
    · rfl
    · have : l.length - 1 - p = p := by omega
      rw [this]
  · rw [List.getElem?_eq_none (by rw [h.1]; omega), List.getElem?_eq_none (by simp; omega)]
theorem swapped_step {l L : List Nat} {i x y : Nat} (h : swapped l i L) (hi : 2 * i + 1 < l.length) (hx : L[i]? = some x) (hy : L[l.length - 1 - i]? = some y) :
    swapped l (i + 1) ((L.set i y).set (l.length - 1 - i) x) := by
  refine ⟨by simp [h.1], fun p hp => ?_⟩
  have e1 := h.2 i (by omega)
  rw [if_neg (by omega), hx] at e1
  have e2 := h.2 (l.length - 1 - i) (by omega)
  rw [if_neg (by omega), hy] at e2
  by_cases h1 : p = l.length - 1 - i
  · subst h1
    rw [List.getElem?_set_self (by simp [h.1]; omega), if_pos (by omega)]
    rw [show l.length - 1 - (l.length - 1 - i) = i from by omega]; exact e1
  · rw [List.getElem?_set_ne (by omega)]
    by_cases h2 : p = i
    · subst h2
      rw [List.getElem?_set_self (by rw [h.1]; omega), if_pos (by omega)]; exact e2
    · rw [List.getElem?_set_ne (by omega), h.2 p hp]
      by_cases h3 : p < i ∨ l.length - i ≤ p
      · rw [if_pos h3, if_pos (by omega)]
      · rw [if_neg h3, if_neg (by omega)]
section
variable {w : World}
theorem row.set {e : TypeId} {b n cap i : Nat} {xs : List Value} (h : row w e 1 (.slice (some ⟨b, 0, none⟩) n cap) n xs) (v : Value) : row (w.setCell ⟨b, i, none⟩ v) e 1 (.slice (some ⟨b, 0, none⟩) n cap) n (xs.set i v) := by
  refine ⟨by rw [List.length_set]; exact h.1, ?_⟩
  rcases h.2 with ⟨e1, _⟩ | ⟨g, cap', cur, e1, h0, hg, hle, hm, hs, ht⟩
  · cases e1
  · cases e1
    refine .inr ⟨b, cap, cur.setIfInBounds i v, rfl, h0, ?_, hle, hm, by simpa using hs, ?_⟩
    · simp only [World.setCell, Array.getElem?_modify]
      rw [if_pos trivial, hg]
      simp
    · rw [Array.toList_setIfInBounds, List.take_set, ht]
set_option maxRecDepth 100000 in
set_option maxHeartbeats 1000000 in
theorem Rev_some {b n cap : Nat} {l : List Nat} (h : row w 3 1 (.slice (some ⟨b, 0, none⟩) n cap) n (refsCells l)) (hn : n ≤ 1000000) :
    Calls Try.prog 88 #[.slice (some ⟨b, 0, none⟩) n cap] w fun e w' => (∃ v, e = .returned v) ∧ row w' 3 1 (.slice (some ⟨b, 0, none⟩) n cap) n (refsCells l.reverse) ∧ Ch [b] w w' := by
  have hl : l.length = n := by have := h.1; simpa [refsCells] using this
  have H := Lib.hid h; clear h
  go_enter Try.func88, Try.ntmps88
  go_wp2_with fail
  go_loopw [2, 3] (fun i j wr => ∃ k : Nat, 2 * k ≤ n + 1 ∧ i = .int .i64 k ∧ j = .int .i64 ((n : Int) - 1 - k) ∧ (∃ L, swapped l k L ∧ row wr 3 1 (.slice (some ⟨b, 0, none⟩) n cap) n (refsCells L)) ∧ Ch [b] w wr) (fun i _ _ => n - (intOf i).toNat)
  case atStart => exact ⟨0, by omega, rfl, by go_num, ⟨l, swapped_zero l, H.out⟩, Ch.refl _ _⟩
  case round =>
    obtain ⟨k, hk, rfl, rfl, ⟨L, hL, hrow⟩, hc⟩ := hrel
    have HL := Lib.hid hL; clear hL
    have HR := Lib.hid hrow; clear hrow
    have HC := Lib.hid hc; clear hc
    by_cases hlt : 2 * k + 1 < n
    · have ej : (n : Int) - 1 - k = ((n - 1 - k : Nat) : Int) := by omega
      rw [ej]
      have hLl : L.length = n := by rw [HL.out.1, hl]
      have hx : L[k]? = some L[k] := List.getElem?_eq_getElem (by omega)
      have hy : L[n - 1 - k]? = some L[n - 1 - k] := List.getElem?_eq_getElem (by omega)
      generalize L[k] = x at hx
      generalize L[n - 1 - k] = y at hy
      have c1 : wr.cell? ⟨b, k, none⟩ = some (.int .i64 x) := by
        have := HR.out.cells (g := b) rfl k (.int .i64 x) (by simp [refsCells, hx])
        rw [Addr.add_lit] at this; simpa using this
      have c2 : wr.cell? ⟨b, n - 1 - k, none⟩ = some (.int .i64 y) := by
        have := HR.out.cells (g := b) rfl (n - 1 - k) (.int .i64 y) (by simp [refsCells, hy])
        rw [Addr.add_lit] at this; simpa using this
      have f0 : ∀ i, wr.frozen? ⟨b, i, none⟩ = false := fun i => by
        rcases HR.out.2 with ⟨e1, _⟩ | ⟨g, cap', cur, e1, h0, hg, _⟩
        · cases e1
        · cases e1; simp [World.frozen?, hg]
      have f1 := f0 k
      have f2 := f0 (n - 1 - k)
      have hne : ¬ n - 1 - k = k := by omega
      have hne' : ¬ k = n - 1 - k := by omega
      have hd : decide ((k : Int) < ((n - 1 - k : Nat) : Int)) = true := decide_eq_true (by omega)
      have hst := swapped_step HL.out (by omega) hx (by rw [hl]; exact hy)
      have HST := Lib.hid hst; clear hst
      clear f0
      go_wp2_with fail
      refine Ord.St.door (fun _ => True) [.fl, .fl, .fl, .fl, .fl, .fl, .fl, .rd, .fl, .fl, .fl, .rd, .fl, .ef, .fl, .ef] [0, 0, 0, 0, 0, 0, 48, 112, 0, 0, 768, 1792, 4083, 8179, 16383, 32767] [0, 1, 2, 3, 4, 5, 6, 7, 8, 9, 10, 11, 12, 13, 14, 15] mixed (by kernel_rfl) rfl ?_
      refine Ord.St.fl2 (T' := ?_) 0 [1, 2, 3, 4, 5, 6, 7, 8, 9, 10, 11, 12, 13, 14, 15] _ _ rfl (by kernel_rfl) rfl rfl rfl rfl (fun K w' hk => ?_) ?_
      rotate_left
      · go_step; exact hk
      refine Ord.St.fl2 (T' := ?_) 1 [2, 3, 4, 5, 6, 7, 8, 9, 10, 11, 12, 13, 14, 15] _ _ rfl (by kernel_rfl) rfl rfl rfl rfl (fun K w' hk => ?_) ?_
      rotate_left
      · go_step; exact hk
      refine Ord.St.fl2 (T' := ?_) 2 [3, 4, 5, 6, 7, 8, 9, 10, 11, 12, 13, 14, 15] _ _ rfl (by kernel_rfl) rfl rfl rfl rfl (fun K w' hk => ?_) ?_
      rotate_left
      · go_step; exact hk
      refine Ord.St.fl2 (T' := ?_) 3 [4, 5, 6, 7, 8, 9, 10, 11, 12, 13, 14, 15] _ _ rfl (by kernel_rfl) rfl rfl rfl rfl (fun K w' hk => ?_) ?_
      rotate_left
      · go_step; exact hk
      refine Ord.St.fl2 (T' := ?_) 4 [5, 6, 7, 8, 9, 10, 11, 12, 13, 14, 15] _ _ rfl (by kernel_rfl) rfl rfl rfl rfl (fun K w' hk => ?_) ?_
      rotate_left
      · go_step; exact hk
      refine Ord.St.fl2 (T' := ?_) 5 [6, 7, 8, 9, 10, 11, 12, 13, 14, 15] _ _ rfl (by kernel_rfl) rfl rfl rfl rfl (fun K w' hk => ?_) ?_
      rotate_left
      · go_step; exact hk
      refine Ord.St.fl2 (T' := ?_) 6 [7, 8, 9, 10, 11, 12, 13, 14, 15] _ _ rfl (by kernel_rfl) rfl rfl rfl rfl (fun K w' hk => ?_) ?_
      rotate_left
      · go_step; exact hk
      refine Ord.St.rd2 (T' := ?_) 7 [8, 9, 10, 11, 12, 13, 14, 15] _ _ rfl (by kernel_rfl) rfl rfl rfl rfl (fun K hk => ?_) ?_
      rotate_left
      · go_step; exact hk
      refine Ord.St.fl2 (T' := ?_) 8 [9, 10, 11, 12, 13, 14, 15] _ _ rfl (by kernel_rfl) rfl rfl rfl rfl (fun K w' hk => ?_) ?_
      rotate_left
      · go_step; exact hk
      refine Ord.St.fl2 (T' := ?_) 9 [10, 11, 12, 13, 14, 15] _ _ rfl (by kernel_rfl) rfl rfl rfl rfl (fun K w' hk => ?_) ?_
      rotate_left
      · go_step; exact hk
      refine Ord.St.fl2 (T' := ?_) 10 [11, 12, 13, 14, 15] _ _ rfl (by kernel_rfl) rfl rfl rfl rfl (fun K w' hk => ?_) ?_
      rotate_left
      · go_step; exact hk
      refine Ord.St.rd2 (T' := ?_) 11 [12, 13, 14, 15] _ _ rfl (by kernel_rfl) rfl rfl rfl rfl (fun K hk => ?_) ?_
      rotate_left
      · go_step; exact hk
      refine Ord.St.fl2 (T' := ?_) 12 [13, 14, 15] _ _ rfl (by kernel_rfl) rfl rfl rfl rfl (fun K w' hk => ?_) ?_
      rotate_left
      · go_step; exact hk
      refine Ord.St.ef 13 [14, 15] _ rfl (by kernel_rfl) (fun K hK => ?_)
      go_wp2_with fail
      refine ⟨rfl, hK _ _ ?_⟩; clear hK K
      refine Ord.St.fl2 (T' := ?_) 14 [15] _ _ rfl (by kernel_rfl) rfl rfl rfl rfl (fun K w' hk => ?_) ?_
      rotate_left
      · go_step; exact hk
      refine Ord.St.ef 15 [] _ rfl (by kernel_rfl) (fun K hK => ?_)
      go_wp2_with fail
      refine ⟨rfl, hK _ _ ?_⟩; clear hK K
      refine Ord.St.nil ?_
      go_wp2_with fail
      go_roundw
      case rel =>
        refine ⟨k + 1, by omega, by go_num, by go_num, ⟨_, HST.out, ?_⟩, ((HC.out.setCell (by simp) _).setCell (by simp) _).drew⟩
        rw [hl]
        have := row.set (i := n - 1 - k) (row.set (i := k) HR.out (.int .i64 y)) (.int .i64 x)
        simp only [refsCells, List.map_set] at this ⊢
        exact this
      case measure => simp [intOf]; omega
    · have hd : decide ((k : Int) < (n : Int) - 1 - k) = false := decide_eq_false (by omega)
      go_wp2_with fail
      go_end0
      rw [← swapped_done HL.out (by omega)]
      exact ⟨⟨_, rfl⟩, HR.out, HC.out⟩
set_option maxRecDepth 100000 in
set_option maxHeartbeats 1000000 in
theorem Rev_nil : Calls Try.prog 88 #[.slice none 0 0] w fun e w' => (∃ v, e = .returned v) ∧ w = w' := by
  go_enter Try.func88, Try.ntmps88
  go_wp2_with fail
  refine wp_loop_rounds 1 ?_
  rw [rounds_succ]
  go_wp2_with fail
  go_end0
  exact ⟨⟨_, rfl⟩, rfl⟩
theorem Rev_is {v : Value} {n : Nat} {l : List Nat} (h : row w 3 1 v n (refsCells l)) (hn : n ≤ 1000000) :
    Calls Try.prog 88 #[v] w fun e w' => (∃ v, e = .returned v) ∧ row w' 3 1 v n (refsCells l.reverse) ∧ Ch v.ownBlock.toList w w' := by
  rcases h.2 with ⟨rfl, rfl⟩ | ⟨g, cap, cur, rfl, _⟩
  · refine Rev_nil.mono ?_
    rintro e w' ⟨he, rfl⟩
    have h1 : l = [] := by have := h.1; simpa [refsCells] using this
    subst h1
    exact ⟨he, h, Ch.refl _ _⟩
  · refine (Rev_some h hn).mono ?_
    rintro e w' ⟨he, hr, hc⟩
    exact ⟨he, hr, by simpa using hc⟩
end
end Go.Proofs.Ytkedpifopclipaa
namespace Go.Proofs.Ytkedpifopclipaa
open Go.RowKit Go.Mem Go.Aig
section
variable {w : World} {g : Nat} {G : Gra} {nb ncap : Nat} {iv : Value} {mb : Nat}
set_option maxRecDepth 100000 in
set_option maxHeartbeats 2000000 in
theorem Cone_no (h : GM w g G nb ncap iv mb) {a : Option Addr} {l : List Int} (cap : Nat) (hl : Sl w a l) (hlb : ∀ x ∈ l, x ≤ 9223372036854775807) (halt : ∀ p, a = some p → p.block < w.heap.size)
    (hany : (l.any fun x => !right G.nodes x) = true) :
    Calls Try.prog 18 #[.pointer (some ⟨g, 0, none⟩), .slice a l.length cap] w fun e w' => e = .returned (.tuple #[.slice none 0 0, .int .i64 200]) ∧ Ch [] w w' := by
  have hW1 : Ch [] w (w.alloc (.cells #[.pointer (some ⟨g, 0, none⟩)] 27)) := (Ch.refl _ _).alloc _
  have H1 := h.ch hW1 (by simp)
  have b1 : (w.alloc (.cells #[.pointer (some ⟨g, 0, none⟩)] 27)).cell? ⟨w.heap.size, 0, none⟩ = some (.pointer (some ⟨g, 0, none⟩)) := by go_simp
  have HN := none_no H1
  have hl1 : Sl (w.alloc (.cells #[.pointer (some ⟨g, 0, none⟩)] 27)) a l := ⟨fun i x hx => by
    obtain ⟨b, o, hao, hc⟩ := hl.cells i x hx
    exact ⟨b, o, hao, (hW1.cell (p := ⟨b, o + i, none⟩) (halt ⟨b, o, none⟩ hao) (by simp)).trans hc⟩, hl.bd⟩
  have HC := CFref_is cap 85 #[.pointer (some ⟨w.heap.size, 0, none⟩)] (fun x => !right G.nodes x) hl1 (fun x hx => Cone1_is H1 b1 x (hlb x hx)) fnvCone1
  rw [hany] at HC
  have HH1 := Lib.hid H1; clear H1
  clear hl1 b1 hl h hany
  have HW1 := Lib.hid hW1; clear hW1
  go_enter Try.func18, Try.ntmps18
  go_wp2_with fail
  refine HN.mono ?_
  rintro e w' ⟨rfl, rfl⟩
  go_wp2_with fail
  refine HC.mono ?_
  rintro e w' ⟨rfl, rfl⟩
  go_wp2_with fail
  go_ret2
  exact ⟨rfl, HW1.out⟩
end
end Go.Proofs.Ytkedpifopclipaa
namespace Go.Proofs.Ytkedpifopclipaa
open Go.RowKit Go.Mem Go.Aig Go.Shelf
attribute [local go_sem] Oper.semAt_some
theorem fnvcone1 : Fnv 164 := fnv_of Try.func164 (by simp [Try.f164]) (by simp [Try.f164])
theorem infoInt : (Try.prog.info? 3).map (fun i => (i.zero, i.size, i.bytes)) = some (some (.int .i64 0), 1, 8) := by kernel_rfl
section
variable {w : World} {g : Nat} {G : Gra} {nb ncap : Nat} {iv : Value} {mb : Nat}
set_option maxRecDepth 100000 in
set_option maxHeartbeats 2000000 in
theorem Cone_yes (h : GM w g G nb ncap iv mb) {a : Option Addr} {l : List Nat} (cap : Nat) (hl : Sl w a (l.map fun (r : Nat) => (r : Int))) (halt : ∀ p, a = some p → p.block < w.heap.size)
    (hr : ∀ r ∈ l, r < 2 * G.nodes.length) :
    Calls Try.prog 18 #[.pointer (some ⟨g, 0, none⟩), .slice a l.length cap] w fun e w' => ∃ v, e = .returned (.tuple #[v, .int .i64 0]) ∧ row w' 3 1 v (cone G.nodes l).length (refsCells (cone G.nodes l)) ∧ (∀ k, v.ownBlock = some k → w.heap.size ≤ k) ∧ Ch [] w w' := by
  have hW1 : Ch [] w (w.alloc (.cells #[.pointer (some ⟨g, 0, none⟩)] 27)) := (Ch.refl _ _).alloc _
  have H1 := h.ch hW1 (by simp)
  have b1 : (w.alloc (.cells #[.pointer (some ⟨g, 0, none⟩)] 27)).cell? ⟨w.heap.size, 0, none⟩ = some (.pointer (some ⟨g, 0, none⟩)) := by go_simp
  have HN := none_no H1
  have hsz : G.nodes.length ≤ 65536 := by have := h.ok.room; have := h.ok.most; omega
  have hl1 : Sl (w.alloc (.cells #[.pointer (some ⟨g, 0, none⟩)] 27)) a (l.map fun (r : Nat) => (r : Int)) := ⟨fun i x hx => by
    obtain ⟨b, o, hao, hc⟩ := hl.cells i x hx
    exact ⟨b, o, hao, (hW1.cell (p := ⟨b, o + i, none⟩) (halt ⟨b, o, none⟩ hao) (by simp)).trans hc⟩, hl.bd⟩
  have hright : ((l.map fun (r : Nat) => (r : Int)).any fun x => !right G.nodes x) = false := by
    simp [right]
    intro x hx
    have := hr x hx; omega
  have HC := CFref_is cap 85 #[.pointer (some ⟨w.heap.size, 0, none⟩)] (fun x => !right G.nodes x) hl1 (fun x hx => Cone1_is H1 b1 x (by
    obtain ⟨r, hm, rfl⟩ := List.mem_map.1 hx
    have := hr r hm; omega) ) fnvCone1
  rw [hright, List.length_map] at HC
  have HCO := fun W => cone_is (w := W) g a l.length cap
  refine (callsIn_wide (n := 4)).1 ?_
  refine callsIn_of_wp_marks Try.func18 rfl trivial ?_ rfl
  simp only [Try.ntmps18, List.size_toArray, List.length_cons, List.length_nil, Nat.reduceAdd, Nat.reduceSub, Array.replicate_succ, Array.replicate_zero, List.push_toArray, List.append_toArray, List.nil_append, List.cons_append]
  refine wpIn_wide.2 ?_
  go_wp2_with fail
  refine HN.mono ?_
  rintro e w' ⟨rfl, rfl⟩
  go_wp2_with fail
  refine HC.mono ?_
  rintro e w' ⟨rfl, rfl⟩
  go_wp2_with fail
  refine (HCO _).mono ?_
  rintro e w' ⟨rfl, rfl⟩
  go_wp2_with fail
  have hzw : ((((w.alloc (.cells #[.pointer (some ⟨g, 0, none⟩)] 27)).alloc (.cells #[.slice none 0 0] 23)).alloc (.cells #[.pointer (some ⟨g, 0, none⟩)] 27)).alloc (.cells #[.slice a l.length cap] 28)).heap.size = w.heap.size + 4 := by simp
  have hc0 : Ch [] w ((((w.alloc (.cells #[.pointer (some ⟨g, 0, none⟩)] 27)).alloc (.cells #[.slice none 0 0] 23)).alloc (.cells #[.pointer (some ⟨g, 0, none⟩)] 27)).alloc (.cells #[.slice a l.length cap] 28)) := ((((Ch.refl _ _).alloc _).alloc _).alloc _).alloc _
  have hx0 : ((((w.alloc (.cells #[.pointer (some ⟨g, 0, none⟩)] 27)).alloc (.cells #[.slice none 0 0] 23)).alloc (.cells #[.pointer (some ⟨g, 0, none⟩)] 27)).alloc (.cells #[.slice a l.length cap] 28)).cell? ⟨w.heap.size + 2, 0, none⟩ = some (.pointer (some ⟨g, 0, none⟩)) := by go_simp
  have hy0 : ((((w.alloc (.cells #[.pointer (some ⟨g, 0, none⟩)] 27)).alloc (.cells #[.slice none 0 0] 23)).alloc (.cells #[.pointer (some ⟨g, 0, none⟩)] 27)).alloc (.cells #[.slice a l.length cap] 28)).cell? ⟨w.heap.size + 3, 0, none⟩ = some (.slice a l.length cap) := by go_simp
  have hbx0 : Boxed ((((w.alloc (.cells #[.pointer (some ⟨g, 0, none⟩)] 27)).alloc (.cells #[.slice none 0 0] 23)).alloc (.cells #[.pointer (some ⟨g, 0, none⟩)] 27)).alloc (.cells #[.slice a l.length cap] 28)) (w.heap.size + 1) 23 (.slice none 0 0) := by
    refine Boxed.alloc (Boxed.alloc ?_ _) _
    have := Boxed.new (w.alloc (.cells #[.pointer (some ⟨g, 0, none⟩)] 27)) 23 (.slice none 0 0)
    simpa using this
  have hl2 : Sl ((((w.alloc (.cells #[.pointer (some ⟨g, 0, none⟩)] 27)).alloc (.cells #[.slice none 0 0] 23)).alloc (.cells #[.pointer (some ⟨g, 0, none⟩)] 27)).alloc (.cells #[.slice a l.length cap] 28)) a (l.map fun (r : Nat) => (r : Int)) := ⟨fun i x hx => by
    obtain ⟨b, o, hao, hc⟩ := hl.cells i x hx
    exact ⟨b, o, hao, (hc0.cell (p := ⟨b, o + i, none⟩) (halt ⟨b, o, none⟩ hao) (by simp)).trans hc⟩, hl.bd⟩
  have hg0 := h.ch hc0 (by simp)
  have hlt := h.lt
  clear hl1 HN HC HCO hl b1 hW1
  generalize hW0 : (((w.alloc (.cells #[.pointer (some ⟨g, 0, none⟩)] 27)).alloc (.cells #[.slice none 0 0] 23)).alloc (.cells #[.pointer (some ⟨g, 0, none⟩)] 27)).alloc (.cells #[.slice a l.length cap] 28) = W0 at *
  clear hW0
  have hst := cone1_stops (w.heap.size + 1) Fence.wide 3 trivial rfl (by omega) hg0 hx0 (by omega) cap hy0 (by omega) hl2 (fun p hp => by have := halt p hp; exact ⟨by omega, by omega⟩) hr (by omega) (by omega) (by omega)
  refine (wpIn_wide (n := 4)).1 ?_
  have hli := coneFrom_len G.nodes G.nodes.length (met0 G.nodes.length l)
  refine wpIn_rangeFunc_B (n := 4) rfl (by omega) rfl trivial (fun args w => fnvcone1 args w) hst Kb.trans ?kb (Below.refl _ _) (fun _ => rfl)
    (fun pre W => (∃ v, Boxed W (w.heap.size + 1) 23 v ∧ W.ownsRow (w.heap.size + 4) 3 1 v pre.length (refsCells pre)) ∧ Ch [] w W ∧ W0.heap.size ≤ W.heap.size) ?hi ?h0
    (fun k => { tmps := #[.pointer (some ⟨g, 0, none⟩), .slice a l.length cap, .pointer (some ⟨w.heap.size, 0, none⟩), undef, .slice none 0 0, .int .i64 0, .pointer (some ⟨w.heap.size + 1, 0, none⟩), .int .i64 k, .bool false, .pointer (some ⟨g, 0, none⟩), .bool false, .bool false, .slice a l.length cap, .func (.func 85) #[] #[.pointer (some ⟨w.heap.size, 0, none⟩)], .bool false, .pointer (some ⟨g, 0, none⟩), .slice a l.length cap, .func (.func 164) #[] #[.pointer (some ⟨w.heap.size + 1 + 1, 0, none⟩), .pointer (some ⟨w.heap.size + 1 + 1 + 1, 0, none⟩)], .int .i64 k, undef, undef, undef, undef, undef, undef, undef], defers := [] }) ?assign ?body ?done
  case kb =>
    intro W q o o' hq ho hoc
    refine ⟨rfl, rfl, rfl, by simp, fun k hk _ => World.putObj_heap_other (by omega), fun b xs hb => ?_⟩
    by_cases hbq : b = q
    · subst hbq; rw [ho] at hb; cases hb; cases hoc
    · exact (World.putObj_heap_other hbq).trans hb
  case hi =>
    rintro pre A B ⟨⟨v, hv, hrow⟩, hc, hz⟩ hs
    refine ⟨⟨v, hs.keep _ _ hv (.inr ⟨_, _, _, rfl, by decide⟩), hrow.1, ?_⟩, ⟨hs.os.trans hc.os, hs.tape.trans hc.tape, hs.output.trans hc.output, Nat.le_trans hc.size hs.size, fun k hk hkn => ?_⟩, Nat.le_trans hz hs.size⟩
    · rcases hrow.2 with e1 | ⟨g2, cap', cur, e1, h0, hg2, rest⟩
      · exact .inl e1
      · exact .inr ⟨g2, cap', cur, e1, h0, hs.keep _ _ hg2 (.inr ⟨_, _, _, rfl, by decide⟩), rest⟩
    · have hkA := hc.block k hk hkn
      have hk2 : k < A.heap.size := Nat.lt_of_lt_of_le hk hc.size
      rw [← hkA]
      rw [Array.getElem?_eq_getElem hk2]
      exact hs.keep k _ (Array.getElem?_eq_getElem hk2) (.inl (by omega))
  case h0 => exact ⟨⟨_, hbx0, rfl, .inl ⟨rfl, rfl⟩⟩, hc0, Nat.le_refl _⟩
  case assign =>
    intro q x W K hK
    gi_wp2
    exact hK
  case body =>
    rintro q pre x W ⟨⟨v, hv, hrow⟩, hc, hWl⟩ hpx
    have hxl : pre.length + 1 ≤ 65536 := by
      have := hpx.length_le
      unfold coneDown at this
      simp at this
      omega
    have hvc := hv.cell
    obtain ⟨i0, hi, hz0, hz1, hz2⟩ := info_parts infoInt
    have hrowA : (W.alloc (.cells #[.int .i64 x] 3)).ownsRow (w.heap.size + 4) 3 1 v pre.length (refsCells pre) := hrow.alloc _
    have HV := Lib.hid hv; clear hv
    have HROW := Lib.hid hrow; clear hrow
    have HC := Lib.hid hc; clear hc
    have HROWA := Lib.hid hrowA; clear hrowA
    have hWz : w.heap.size + 4 ≤ W.heap.size := by omega
    have HZ := Lib.hid hzw; clear hzw
    have HC0 := Lib.hid hc0; clear hc0
    clear hx0 hy0 hbx0 hl2 hg0 hst hright H1
    gi_wp2_with (gi_at_builtin; go_loud (refine wpListIn_append_own _ rfl _ _ _ rfl (w.heap.size + 4) 3 i0 (.int .i64 0) 1 8 Try.underlying23 hi hz0 hz1 hz2 rfl (by decide) v pre.length (refsCells pre) rfl HROWA.out ⟨W.heap.size, 0, none⟩ 1 1 [.int .i64 x] rfl rfl (news_blk (blk.new' _ _ rfl)) (by simp [Value.oneCell']) (by unfold maxLen; omega) (by omega) (by simp; omega) ?_; intro v' w1 hown hgrow _; have hnr := HV.out.not_row (by decide) HROW.out; have hv1 := (HV.out.alloc (.cells #[.int .i64 x] 3)).kept hgrow hnr; have hv1c := hv1.cell; have hv1f := hv1.frozen; obtain ⟨g', cap', rfl⟩ := ownsRow_succ hown; have HG := Lib.hid hgrow; clear hgrow; have HO := Lib.hid hown; clear hown; have HV1 := Lib.hid hv1; clear hv1; have HNR := Lib.hid hnr; clear hnr))
    gi_wp2
    have hw := HG.out
    have hr := HROW.out
    have hob : ∀ k, v.ownBlock = some k → w.heap.size + 4 ≤ k ∧ ∃ cur fz, W.heap[k]? = some (.cells cur 3 fz) := fun k hk => by
      rcases hr.2 with ⟨rfl, _⟩ | ⟨g2, c2, cur, rfl, hb, hgb, _⟩
      · simp at hk
      · simp at hk; subst hk; exact ⟨hb, _, _, hgb⟩
    have hbb := HV.out
    have hsz1 := hw.size
    simp only [World.size_alloc] at hsz1
    have hkeep : ∀ k, k < W.heap.size → some k ≠ v.ownBlock → k ≠ w.heap.size + 1 → (w1.setCell ⟨w.heap.size + 1, 0, none⟩ (.slice (some ⟨g', 0, none⟩) (pre.length + 1) cap')).heap[k]? = W.heap[k]? := fun k hk hne hnb => by
      rw [Below.heap_setCell w1 _ _ k hnb, hw.block k (by simp; omega) hne]
      exact Below.heap_alloc W _ k hk
    refine ⟨fun k o hk ho => ?_, ⟨hw.os, hw.tape, hw.output, ?_, fun k hk hne => ?_, fun b xs hb => ?_⟩, ⟨_, HV1.out.set _, ?_⟩, ((HC.out.alloc _).grown HG.out ?_).setCell ?_ _, ?_⟩
    · rw [hkeep k (Array.getElem?_eq_some_iff.1 hk).1 ?_ ?_]; exact hk
      · intro e
        obtain ⟨_, cur, fz, hc⟩ := hob k e.symm
        rw [hk] at hc; cases hc; cases ho
      · rintro rfl
        rw [show W.heap[_]? = _ from hbb] at hk; cases hk; cases ho
    · simp [World.setCell]; omega
    · rw [hkeep k (by omega) ?_ hne]
      intro e
      have := (hob k e.symm).1
      have := HZ.out; omega
    · rw [hkeep b (Array.getElem?_eq_some_iff.1 hb).1 ?_ ?_]; exact hb
      · intro e
        obtain ⟨_, cur, fz, hc⟩ := hob b e.symm
        rw [hb] at hc; cases hc
      · rintro rfl
        rw [show W.heap[_]? = _ from hbb] at hb; cases hb
    · have hO := HO.out
      rw [show refsCells (pre ++ [x]) = refsCells pre ++ [.int .i64 x] from by simp [refsCells]]
      exact hO.kept (grownBy_setCell' w1 _ _) (.inr (HV1.out.not_row (by decide) hO).symm)
    · intro k hk
      exact .inr (by have := (hob k hk).1; omega)
    · right; simp
    · omega
  case done =>
    rintro D W hD ⟨⟨v, hv, hrow⟩, hc, hz⟩ hK
    have hvc := hv.cell
    clear hst hl2 hg0 hx0 hy0 hbx0 H1 hc0 h
    have hll : (coneDown G.nodes l).length = (cone G.nodes l).length := by simp [cone]
    have hob : ∀ k, v.ownBlock = some k → w.heap.size ≤ k ∧ ∃ cur fz, W.heap[k]? = some (.cells cur 3 fz) := fun k hk => by
      rcases hrow.2 with ⟨rfl, _⟩ | ⟨g2, c2, cur, rfl, hb, hgb, _⟩
      · simp at hk
      · simp at hk; subst hk; exact ⟨by omega, _, _, hgb⟩
    have hnr := hv.not_row (by decide) hrow
    have hrow0 : row W 3 1 v (coneDown G.nodes l).length (refsCells (coneDown G.nodes l)) := by
      refine ⟨hrow.1, ?_⟩
      rcases hrow.2 with e | ⟨g2, c2, cur, e, _, rest⟩
      · exact .inl e
      · exact .inr ⟨g2, c2, cur, e, Nat.zero_le _, rest⟩
    have hrev := Rev_is hrow0 (by show (coneFrom G.nodes G.nodes.length (met0 G.nodes.length l)).length ≤ _; omega)
    rw [hll] at hrev
    have HREV := Lib.hid hrev; clear hrev
    have HV := Lib.hid hv; clear hv
    have HNR := Lib.hid hnr; clear hnr
    have HC := Lib.hid hc; clear hc
    have HK := Lib.hid hK; clear hK
    have HOB := Lib.hid hob; clear hob
    clear hrow hrow0
    clear hli
    have HLL := Lib.hid hll; clear hll
    have HZW := Lib.hid hzw; clear hzw
    go_wp2_with fail
    refine HREV.out.mono ?_
    rintro e W2 ⟨⟨v', rfl⟩, hrow2, hc2⟩
    have hb2 : W2.cell? ⟨w.heap.size + 1, 0, none⟩ = some v := (hc2.cell (p := ⟨w.heap.size + 1, 0, none⟩) HV.out.lt (by simpa using fun e => HNR.out (by rw [e]))).trans hvc
    have hK2 : W2.heap[D]? = some (.deferred (some [])) := by
      refine (hc2.block D (Array.getElem?_eq_some_iff.1 HK.out).1 ?_).trans HK.out
      intro hm
      obtain ⟨_, cur, fz, hcur⟩ := HOB.out D (by simpa using hm)
      rw [HK.out] at hcur; cases hcur
    have HK2 := Lib.hid hK2; clear hK2
    have HR2 := Lib.hid hrow2; clear hrow2
    have HC2 := Lib.hid hc2; clear hc2
    go_wp2
    refine ⟨by simp, .inl ⟨_, _, rfl, run_takeDeferred HK2.out, ?_⟩⟩
    refine ⟨.tuple #[v, .int .i64 0], by simp [results, Try.results18, go_sem], v, rfl, ownsRow_putObj HR2.out _ HK2.out rfl, fun k hk => (HOB.out k hk).1, ?_⟩
    refine Ch.trans (F' := [D]) (HC.out.trans HC2.out (fun k hk => .inr (HOB.out k (by simpa using hk)).1)) ⟨rfl, rfl, rfl, by simp, fun k hk hn => World.putObj_heap_other (by simpa using hn)⟩ (fun k hk => .inr ?_)
    simp at hk
    have := HZW.out
    omega
end
end Go.Proofs.Ytkedpifopclipaa
namespace Go.Proofs.Ytkedpifopclipaa
open Go.RowKit Go.Mem Go.Aig
theorem cell_lt {w : World} {p : Addr} {v : Value} (h : w.cell? p = some v) : p.block < w.heap.size := by
  rcases Nat.lt_or_ge p.block w.heap.size with h1 | h1
  · exact h1
  · simp [World.cell?, Array.getElem?_eq_none h1] at h
theorem Sl.ch {F : List Nat} {w w' : World} {a : Option Addr} {xs : List Int} (h : Sl w a xs) (hc : Ch F w w') (hF : ∀ p, a = some p → p.block ∉ F) : Sl w' a xs :=
  ⟨fun i x hx => by
    obtain ⟨b, o, rfl, hcell⟩ := h.cells i x hx
    exact ⟨b, o, rfl, (hc.cell (p := ⟨b, o + i, none⟩) (cell_lt hcell) (hF ⟨b, o, none⟩ rfl)).trans hcell⟩, h.bd⟩
theorem take_eq_succ {xs ys : List Int} {k : Nat} {x y : Int} (h : xs.take k = ys.take k) (hx : xs[k]? = some x) (hy : ys[k]? = some y) (e : x = y) : xs.take (k + 1) = ys.take (k + 1) := by
  rw [List.take_add_one, List.take_add_one, h, hx, hy, e]
section
variable {w : World}
end
end Go.Proofs.Ytkedpifopclipaa
namespace Go.Aig
/-- the node of a number, if it is a reference -/
def nodeAt (ns : List Nd) (r : Int) : Option Nd := if 0 ≤ r then ns[r.toNat / 2]? else none
def kindOf (ns : List Nd) (r : Int) : Nat := match nodeAt ns r with | some x => x.k | none => 0
def isAndAt (ns : List Nd) (r : Int) : Bool := kindOf ns r == 3
def lOf (ns : List Nd) (r : Int) : Nat := match nodeAt ns r with | some x => if x.k = 3 then x.l else 0 | none => 0
def rOf (ns : List Nd) (r : Int) : Nat := match nodeAt ns r with | some x => if x.k = 3 then x.r else 0 | none => 0
theorem nodeAt_none {ns : List Nd} {r : Int} (h : nodeAt ns r = none) : right ns r = false := by
  unfold nodeAt at h
  unfold right
  refine decide_eq_false ?_
  rintro ⟨h0, h1⟩
  rw [if_pos h0, List.getElem?_eq_none_iff] at h
  omega
theorem nodeAt_some {ns : List Nd} {r : Int} {x : Nd} (h : nodeAt ns r = some x) : 0 ≤ r ∧ ns[r.toNat / 2]? = some x := by
  unfold nodeAt at h
  split at h
  · exact ⟨by assumption, h⟩
  · cases h
end Go.Aig
namespace Go.Proofs.Ytkedpifopclipaa
open Go.RowKit Go.Mem Go.Aig
section
variable {w : World} {g : Nat} {G : Gra} {F : List Nat}
theorem Len_g (h : GIn w g G F) : Calls Try.prog 26 #[.pointer (some ⟨g, 0, none⟩)] w fun e w' => e = .returned (.int .i64 G.nodes.length) ∧ w = w' := by
  obtain ⟨_, _, _, _, h, rfl⟩ := h; exact Len_is h
set_option maxRecDepth 100000 in
set_option maxHeartbeats 400000 in
theorem Sides_off {nb ncap mb : Nat} {iv : Value} (h : GM w g G nb ncap iv mb) (r : Int) (hr : r ≤ 9223372036854775807) (hn : right G.nodes r = false) :
    Calls Try.prog 102 #[.pointer (some ⟨g, 0, none⟩), .int .i64 r] w fun e w' => e = .returned (.tuple #[.int .i64 0, .int .i64 0, .bool false]) ∧ Ch [] w w' := by
  have HK := Kind_no h r hr hn
  clear h
  go_enter Try.func102, Try.ntmps102
  go_wp2_with fail
  refine HK.mono ?_
  rintro e w' ⟨rfl, rfl⟩
  go_wp2_with fail
  go_ret3
  exact ⟨rfl, Ch.refl _ _⟩
theorem Sides_g (h : GIn w g G F) (r : Int) (hr : r ≤ 9223372036854775807) : Calls Try.prog 102 #[.pointer (some ⟨g, 0, none⟩), .int .i64 r] w fun e w' => e = .returned (.tuple #[.int .i64 (lOf G.nodes r), .int .i64 (rOf G.nodes r), .bool (isAndAt G.nodes r)]) ∧ Ch [] w w' := by
  obtain ⟨_, _, _, _, h, rfl⟩ := h
  unfold lOf rOf isAndAt kindOf
  cases hn : nodeAt G.nodes r with
  | none => exact Sides_off h r hr (nodeAt_none hn)
  | some x =>
    obtain ⟨h0, h1⟩ := nodeAt_some hn
    obtain ⟨n, rfl⟩ := Int.eq_ofNat_of_zero_le h0
    by_cases hk : x.k = 3
    · simp only [hk, if_true]
      exact Sides_is h h1 hk
    · have e : (x.k == 3) = false := by simp [hk]
      simp only [hk, if_false, e]
      exact Sides_no h h1 hk
theorem Input_g (h : GIn w g G F) : Calls Try.prog 78 #[.pointer (some ⟨g, 0, none⟩)] w fun e w' => e = .returned (.tuple #[.int .i64 (doInput G).2.1, .int .i64 (doInput G).2.2]) ∧ GTo w g (doInput G).1 F w' := by
  obtain ⟨_, _, _, _, h, rfl⟩ := h; exact Input_is h
theorem And_g (h : GIn w g G F) (a b : Int) (ba : a ≤ 9223372036854775807) (bb : b ≤ 9223372036854775807) : Calls Try.prog 69 #[.pointer (some ⟨g, 0, none⟩), .int .i64 a, .int .i64 b] w fun e w' => e = .returned (.tuple #[.int .i64 (doAnd G a b).2.1, .int .i64 (doAnd G a b).2.2]) ∧ GTo w g (doAnd G a b).1 F w' := by
  obtain ⟨_, _, _, _, h, rfl⟩ := h; exact And_is h a b ba bb
theorem Cone_g (h : GIn w g G F) {a : Option Addr} {l : List Nat} (n cap : Nat) (hn : l.length = n) (hl : Sl w a (l.map fun (r : Nat) => (r : Int))) (halt : ∀ p, a = some p → p.block < w.heap.size) (hr : ∀ r ∈ l, r < 2 * G.nodes.length) :
    Calls Try.prog 18 #[.pointer (some ⟨g, 0, none⟩), .slice a n cap] w fun e w' => ∃ v, e = .returned (.tuple #[v, .int .i64 0]) ∧ row w' 3 1 v (cone G.nodes l).length (refsCells (cone G.nodes l)) ∧ (∀ k, v.ownBlock = some k → w.heap.size ≤ k) ∧ Ch [] w w' := by
  subst hn
  obtain ⟨_, _, _, _, h, rfl⟩ := h
  exact Cone_yes h cap hl halt hr
end
/-- a graph that was made since a world w0, and all of it -/
structure Own (w0 w : World) (g : Nat) (G : Gra) (F : List Nat) : Prop where
  gin : GIn w g G F
  own : ∀ k ∈ F, w0.heap.size ≤ k
  ch : Ch [] w0 w
theorem Own.to {w0 w w' : World} {g : Nat} {G G' : Gra} {F : List Nat} (h : Own w0 w g G F) (ht : GTo w g G' F w') : ∃ F', Own w0 w' g G' F' := by
  obtain ⟨F', h1, h2, h3, _⟩ := ht
  exact ⟨F', h1, fun k hk => (h3 k hk).elim (h.own k) (fun e => Nat.le_trans h.ch.size e), h.ch.trans h2 (fun k hk => .inr (h.own k hk))⟩
end Go.Proofs.Ytkedpifopclipaa
namespace Go.Ord
section
variable {P : Program} {l : List Oper} {ks : List Kd} {A : List Nat} {C : World → Prop} {Q : Act → World → Prop}
/-- the look at one of the effects that may come up -/
def chkB (ops : Array Oper) (ks : List Kd) (R R' : List Nat) (i : Nat) : Bool := R.contains i && readyIn ops R i && decide (R.erase i = R') && decide (kd ks i = .ef)
theorem chkB_spec {ops : Array Oper} {R R' : List Nat} {i : Nat} (h : chkB ops ks R R' i = true) : i ∈ R ∧ readyIn ops R i = true ∧ R.erase i = R' ∧ kd ks i = .ef := by
  simp only [chkB, Bool.and_eq_true, decide_eq_true_eq] at h
  exact ⟨by simpa using h.1.1.1, h.1.1.2, h.1.2, h.2⟩
theorem ef_op {R R' : List Nat} {a : Act} {w : World} (i : Nat) (o : Oper) (hil : l[i]? = some o) (hchk : chkB l.toArray ks R R' i = true)
    (h : ∀ K : Act → World → Prop, (∀ a w, C w → St P l ks A C Q R' a w → K a w) → wpList P l.toArray (only K) [o] a w) (hn : R.Nodup) (hu : Up l.toArray R) (hlt : ∀ k ∈ R, k < l.toArray.size) (hs : Stat l.toArray ks A) :
    wpOp P l.toArray (only Q) i (fun a' w' => post ks A l.toArray.size C i w w' ∧ allOrd l.toArray (wpOp P l.toArray (only Q)) ks A C Q (R.length - 1) (R.erase i) a' w') a w := by
  have hi : l.toArray[i]? = some o := by simpa using hil
  have ⟨hm, hri, hR, hk⟩ := chkB_spec hchk
  have h1 := h (fun a w => C w ∧ St P l ks A C Q R' a w) (fun _ _ hc hh => ⟨hc, hh⟩)
  unfold wpOp
  simp only [hi]
  unfold wpList at h1
  have key : ∀ a' w', (wpList P l.toArray (only (fun a w => C w ∧ St P l ks A C Q R' a w)) [] a' w') → post ks A l.toArray.size C i w w' ∧ allOrd l.toArray (wpOp P l.toArray (only Q)) ks A C Q (R.length - 1) (R.erase i) a' w' := by
    intro a' w' hh
    refine ⟨?_, ?_⟩
    · unfold post; rw [if_pos hk]; intro _; exact hh.2.1
    subst hR
    have := hh.2.2 (hn.erase _) (hu.erase hn hri) (fun k hk => hlt k (List.mem_of_mem_erase hk)) hs
    rwa [List.length_erase_of_mem hm] at this
  split
  · rename_i hw
    rw [if_pos hw] at h1
    have h1 := h1.resolve_right fun hh => only_lets _ hh.2
    left
    have h2 := Oper.wp_mono (K' := fun a' w' => post ks A l.toArray.size C i w w' ∧ allOrd l.toArray (wpOp P l.toArray (only Q)) ks A C Q (R.length - 1) (R.erase i) a' w') key h1
    unfold Oper.wp at h2 ⊢
    generalize (execOp a.eval o).run P w = r at h2 ⊢
    cases r with
    | ok n w' =>
      cases n <;> simp only [Oper.upon] at h2 ⊢
      case value u => exact h2
      case skip => exact h2
      case defer d => exact h2
      case enter f args =>
        refine Calls.mono h2 fun e w'' he => ?_
        cases e with
        | returned u => exact he
        | panicked c => cases he.1
        | outgrown => exact (only_lets _ he).elim
      case row row args => exact h2
    | halt x w' =>
      cases x <;> simp only [Oper.upon] at h2 ⊢
      case panic u => cases h2.1
  · rename_i hw
    rw [if_neg hw] at h1
    exact key _ _ h1
def chkR (ops : Array Oper) (R rs : List Nat) : Bool := decide (R.filter (readyIn ops R) = rs)
/-- two effects may come up now: each of them first -/
theorem St.two {R : List Nat} {a : Act} {w : World} (i j : Nat) (Ri Rj : List Nat) (oi oj : Oper) (hir : chkR l.toArray R [i, j] = true) (hil : l[i]? = some oi) (hjl : l[j]? = some oj) (hci : chkB l.toArray ks R Ri i = true) (hcj : chkB l.toArray ks R Rj j = true)
    (h1 : ∀ K : Act → World → Prop, (∀ a w, C w → St P l ks A C Q Ri a w → K a w) → wpList P l.toArray (only K) [oi] a w)
    (h2 : ∀ K : Act → World → Prop, (∀ a w, C w → St P l ks A C Q Rj a w → K a w) → wpList P l.toArray (only K) [oj] a w) : St P l ks A C Q R a w := by
  intro hn hu hlt hs
  have hm : i ∈ R := (chkB_spec hci).1
  have hlen : R.length = R.length - 1 + 1 := by have := List.length_pos_of_mem hm; omega
  rw [hlen]
  refine branch (rs := [i, j]) (by unfold chkR at hir; simpa using hir) fun k hk => ?_
  simp only [List.mem_cons, List.not_mem_nil, or_false] at hk
  rcases hk with rfl | rfl
  · exact ef_op _ oi hil hci h1 hn hu hlt hs
  · exact ef_op _ oj hjl hcj h2 hn hu hlt hs
/-- the world behind a new block under a name -/
theorem St.alw {R : List Nat} {a : Act} {w : World} {o : Obj} (h : ∀ W, W = w.alloc o → St P l ks A C Q R a W) : St P l ks A C Q R a (w.alloc o) := h _ rfl
end
end Go.Ord
namespace Go.Proofs.Ytkedpifopclipaa
open Go.RowKit Go.Mem Go.Aig
/-- a slice that is read: its cells, one for each element -/
structure Sv (w : World) (a : Option Addr) (xs : List Value) : Prop where
  cells : ∀ (i : Nat) (v : Value), xs[i]? = some v → ∃ b o, a = some ⟨b, o, none⟩ ∧ w.cell? ⟨b, o + i, none⟩ = some v
  bd : xs.length ≤ 9223372036854775807
theorem Sv.ch {F : List Nat} {w w' : World} {a : Option Addr} {xs : List Value} (h : Sv w a xs) (hc : Ch F w w') (hF : ∀ p, a = some p → p.block ∉ F) : Sv w' a xs :=
  ⟨fun i x hx => by
    obtain ⟨b, o, rfl, hcell⟩ := h.cells i x hx
    exact ⟨b, o, rfl, (hc.cell (p := ⟨b, o + i, none⟩) (cell_lt hcell) (hF ⟨b, o, none⟩ rfl)).trans hcell⟩, h.bd⟩
theorem row.sv {w : World} {e : TypeId} {v : Value} {n : Nat} {xs : List Value} {a : Option Addr} {m c : Nat} (h : row w e 1 v n xs) (hv : v = .slice a m c) (hn : n ≤ 1000000) : Sv w a xs := by
  subst hv
  have h1 := h.1
  refine ⟨fun i x hx => ?_, by omega⟩
  rcases h.2 with ⟨e1, e2⟩ | ⟨b, cap, cur, e1, _⟩
  · have := (List.getElem?_eq_some_iff.1 hx).1
    omega
  · cases e1
    refine ⟨b, 0, rfl, ?_⟩
    have := h.cells (g := b) rfl i x hx
    rw [Addr.add_lit] at this
    simpa using this
theorem alw_ch {W w : World} {o : Obj} (h : W = w.alloc o) : Ch [] w W := h ▸ (Ch.refl _ _).alloc _
theorem alw_blk {W w : World} {xs : List Value} {T : TypeId} (h : W = w.alloc (.cells xs.toArray T)) : blk W w.heap.size xs := h ▸ blk.new' _ _ rfl
end Go.Proofs.Ytkedpifopclipaa
namespace Go.Aig
/-- the value of a reference, over the values of the nodes -/
def rv (vs : List Bool) (r : Nat) : Bool := Bool.xor (vs.getD (r / 2) false) (decide (r % 2 = 1))
def nvStep (env : Nat → Bool) (s : List Bool × Nat) (x : Nd) : List Bool × Nat :=
  if x.k = 3 then (s.1 ++ [rv s.1 x.l && rv s.1 x.r], s.2) else if x.k = 2 then (s.1 ++ [env s.2], s.2 + 1) else (s.1 ++ [false], s.2)
/-- the values of the nodes, and how many inputs there are -/
def nv (env : Nat → Bool) (ns : List Nd) : List Bool × Nat := ns.foldl (nvStep env) ([], 0)
def bv (env : Nat → Bool) (ns : List Nd) (r : Nat) : Bool := rv (nv env ns).1 r
theorem WF.sides {ns : List Nd} (h : WF ns) {n : Nat} {x : Nd} (hx : ns[n]? = some x) (hk : x.k = 3) : 2 ≤ x.l ∧ x.l < x.r ∧ x.l / 2 ≠ x.r / 2 ∧ x.r < 2 * n ∧ x.d = 1 + max (dep ns x.l) (dep ns x.r) := by
  rcases Nat.eq_zero_or_pos n with h0 | h0
  · subst h0
    rw [h.const] at hx; cases hx; simp at hk
  · rcases h.other n x hx h0 with rfl | ⟨_, h1⟩
    · simp at hk
    · exact h1
end Go.Aig
namespace Go.Proofs.Ytkedpifopclipaa
open Go.RowKit Go.Mem Go.Aig
def rnCells (x : Nd) : List Value := [.int .i64 x.k, .int .i64 x.l, .int .i64 x.r]
def rCells : List Nd → List Value
  | [] => []
  | x :: ns => rnCells x ++ rCells ns
theorem rCells_length : ∀ ns : List Nd, (rCells ns).length = ns.length * 3
  | [] => rfl
  | x :: ns => by simp [rCells, rCells_length ns, rnCells]; omega
theorem rCells_append : ∀ (ns ms : List Nd), rCells (ns ++ ms) = rCells ns ++ rCells ms
  | [], _ => rfl
  | x :: ns, ms => by simp [rCells, rCells_append ns ms]
theorem rCells_get : ∀ {ns : List Nd} {n : Nat} {x : Nd} {j : Nat} {v : Value}, ns[n]? = some x → (rnCells x)[j]? = some v → (rCells ns)[n * 3 + j]? = some v
  | [], n, x, j, v, h, _ => by simp at h
  | y :: ns, 0, x, j, v, h, hv => by
    simp at h; subst h
    have : j < 3 := by have := (List.getElem?_eq_some_iff.1 hv).1; simpa [rnCells] using this
    simp only [rCells]
    rw [List.getElem?_append_left (by simp [rnCells]; omega)]
    simpa using hv
  | y :: ns, n + 1, x, j, v, h, hv => by
    simp only [rCells]
    rw [List.getElem?_append_right (by simp [rnCells]; omega)]
    have := rCells_get (ns := ns) (n := n) (x := x) (by simpa using h) hv
    rw [← this]
    congr 1
    simp [rnCells]
    omega
theorem rCells_one : ∀ (ns : List Nd) (u : Value), u ∈ rCells ns → u.oneCell' = true
  | [], u, h => by cases h
  | x :: ns, u, h => by
    rcases List.mem_append.1 h with h | h
    · simp [rnCells] at h
      rcases h with rfl | rfl | rfl <;> rfl
    · exact rCells_one ns u h
/-- a graph of the reference, as a value: its nodes lie in a block -/
structure RG (w : World) (rb cap : Nat) (G : Gra) : Prop where
  cells : ∀ j u, (rCells G.nodes)[j]? = some u → w.cell? ⟨rb, j, none⟩ = some u
  lt : rb < w.heap.size
  le : G.nodes.length ≤ cap
  mx : cap ≤ 9223372036854775807
  ok : Ok G
theorem RG.ch {F : List Nat} {a w : World} {rb cap : Nat} {G : Gra} (h : RG a rb cap G) (hc : Ch F a w) (hF : rb ∉ F) : RG w rb cap G :=
  ⟨fun j u hu => (hc.cell (p := ⟨rb, j, none⟩) h.lt hF).trans (h.cells j u hu), Nat.lt_of_lt_of_le h.lt hc.size, h.le, h.mx, h.ok⟩
theorem RG.node {w : World} {rb cap : Nat} {G : Gra} (h : RG w rb cap G) {n : Nat} {x : Nd} (hx : G.nodes[n]? = some x) :
    w.cell? ⟨rb, n * 3, none⟩ = some (.int .i64 x.k) ∧ w.cell? ⟨rb, n * 3 + 1, none⟩ = some (.int .i64 x.l) ∧ w.cell? ⟨rb, n * 3 + 2, none⟩ = some (.int .i64 x.r) :=
  ⟨h.cells (n * 3 + 0) _ (rCells_get hx (j := 0) rfl), h.cells _ _ (rCells_get hx (j := 1) rfl), h.cells _ _ (rCells_get hx (j := 2) rfl)⟩
theorem RG.len {w : World} {rb cap : Nat} {G : Gra} (h : RG w rb cap G) : G.nodes.length ≤ 65536 ∧ 0 < G.nodes.length ∧ G.most ≤ 65536 := by
  have := h.ok.room; have := h.ok.most; have := h.ok.wf.pos; omega
/-- what a function of the reference returns: a graph, a reference, an error -/
def RTo (w : World) (rb : Nat) (R : Res) (e : Ending) (w' : World) : Prop := ∃ rb' cap', e = .returned (.tuple #[.agg #[.int .i64 R.1.most, .slice (some ⟨rb', 0, none⟩) R.1.nodes.length cap'], .int .i64 R.2.1, .int .i64 R.2.2]) ∧ RG w' rb' cap' R.1 ∧ Ch [] w w' ∧ (rb' = rb ∨ w.heap.size ≤ rb')
theorem infoRNode : (Try.prog.info? 229).map (fun i => (i.zero, i.size, i.bytes)) = some (some (.agg #[.int .i64 0, .int .i64 0, .int .i64 0]), 3, 24) := by kernel_rfl
theorem slRNodes : SliceTy Try.prog 120 229 3 24 (.agg #[.int .i64 0, .int .i64 0, .int .i64 0]) := ⟨Try.underlying120, infoRNode, rfl, by decide⟩
section
set_option maxRecDepth 100000 in
set_option maxHeartbeats 400000 in
theorem rNot_is (w : World) (r : Nat) (hr : r ≤ 9223372036854775806) : Calls Try.prog 199 #[.int .i64 r] w fun e w' => e = .returned (.int .i64 (neg r : Nat)) ∧ w = w' := by
  by_cases h : r % 2 = 0
  · have e : neg r = r + 1 := by unfold neg; rw [if_pos h]
    have q : ((r : Int) % 2 == 0) = true := by simp; omega
    rw [e]
    clear e h
    go_enter Try.func199, Try.ntmps199
    go_wp2_with fail
    go_ret
    exact ⟨ret_int (by omega), rfl⟩
  · have e : neg r = r - 1 := by unfold neg; rw [if_neg h]
    have q : ((r : Int) % 2 == 0) = false := by simp; omega
    have h1 : 1 ≤ r := by omega
    rw [e]
    clear e h
    go_enter Try.func199, Try.ntmps199
    go_wp2_with fail
    go_ret
    exact ⟨ret_int (by omega), rfl⟩
set_option maxRecDepth 100000 in
set_option maxHeartbeats 400000 in
theorem rRight_is {w : World} {rb cap : Nat} {G : Gra} (h : RG w rb cap G) (r : Int) : Calls Try.prog 151 #[.agg #[.int .i64 G.most, .slice (some ⟨rb, 0, none⟩) G.nodes.length cap], .int .i64 r] w fun e w' => e = .returned (.bool (right G.nodes r)) ∧ Ch [] w w' := by
  obtain ⟨hl, hp, hm⟩ := h.len
  have hle := h.le
  have hmx := h.mx
  clear h
  unfold right
  by_cases h0 : 0 ≤ r
  · by_cases h1 : r < 2 * G.nodes.length
    · have e : decide (0 ≤ r ∧ r < 2 * (G.nodes.length : Int)) = true := decide_eq_true ⟨h0, h1⟩
      rw [e]
      generalize G.nodes.length = n at *
      clear e
      go_enter Try.func151, Try.ntmps151
      go_wp2_with fail
      go_ret
      exact ⟨by simp [*], (Ch.refl _ _).alloc _⟩
    · have e : decide (0 ≤ r ∧ r < 2 * (G.nodes.length : Int)) = false := decide_eq_false (fun h => h1 h.2)
      rw [e]
      generalize G.nodes.length = n at *
      clear e
      go_enter Try.func151, Try.ntmps151
      go_wp2_with fail
      go_ret
      exact ⟨by simp [*], (Ch.refl _ _).alloc _⟩
  · have e : decide (0 ≤ r ∧ r < 2 * (G.nodes.length : Int)) = false := decide_eq_false (fun h => h0 h.1)
    rw [e]
    generalize G.nodes.length = n at *
    clear e
    go_enter Try.func151, Try.ntmps151
    go_wp2_with fail
    go_ret
    exact ⟨by simp [*], (Ch.refl _ _).alloc _⟩
set_option maxRecDepth 100000 in
set_option maxHeartbeats 400000 in
theorem rNew_yes (w : World) (most : Nat) (h1 : 1 ≤ most) (h2 : most ≤ 65536) : Calls Try.prog 148 #[.int .i64 most] w fun e w' => ∃ rb cap, e = .returned (.tuple #[.agg #[.int .i64 (newG most).most, .slice (some ⟨rb, 0, none⟩) (newG most).nodes.length cap], .int .i64 0]) ∧ RG w' rb cap (newG most) ∧ Ch [] w w' ∧ w.heap.size ≤ rb := by
  have HO := Lib.hid (newG_ok h1 h2)
  go_enter Try.func148, Try.ntmps148
  go_wp2_with fail
  have hb : blk ((w.alloc (.cells #[.int .i64 most, .slice (some ⟨w.heap.size + 1, 0, none⟩) 1 1] 122)).alloc (.cells #[.int .i64 1, .int .i64 0, .int .i64 0] 229)) (w.heap.size + 1) (rCells (newG most).nodes) := blk.new' (rCells (newG most).nodes) 229 (by simp)
  exact bodyPost_ret (v := .tuple #[.agg #[.int .i64 most, .slice (some ⟨w.heap.size + 1, 0, none⟩) 1 1], .int .i64 0]) (by simp [results, Try.results148, go_sem]) rfl ⟨_, 1, rfl, ⟨fun j u hu => hb.cell hu, hb.lt, Nat.le_refl _, by omega, HO.out⟩, ((Ch.refl _ _).alloc _).alloc _, by omega⟩
theorem row_new0 {w W : World} {e : TypeId} {size : Nat} (h : W = w.alloc (.cells #[] e)) : row W e size (.slice (some ⟨w.heap.size, 0, none⟩) 0 0) 0 [] :=
  ⟨by simp, .inr ⟨_, 0, #[], rfl, Nat.zero_le _, by rw [h]; exact heap_alloc_new w _, Nat.le_refl _, by unfold maxLen; omega, by simp, by simp⟩⟩
theorem new_lo {W0 w : World} (h : Ch [] W0 w) : ∀ k ∈ (Value.slice (some ⟨w.heap.size, 0, none⟩) 0 0).ownBlock.toList, W0.heap.size ≤ k := by
  intro k hk
  simp at hk
  subst hk
  exact h.size
theorem new_ne {w : World} {b : Nat} {xs : List Value} (h : blk w b xs) : ∀ k, (Value.slice (some ⟨w.heap.size, 0, none⟩) 0 0).ownBlock = some k → k ≠ b := by
  intro k hk
  simp at hk
  have := h.lt
  omega
theorem row_ne {w : World} {e : TypeId} {size : Nat} {v : Value} {n : Nat} {xs : List Value} (h : row w e size v n xs) : ∀ k, v.ownBlock = some k → k ≠ w.heap.size := fun k hk => by
  have := (h.lt k hk).2
  omega
theorem grow_ne {w : World} {b : Nat} {xs : List Value} {v v' : Value} (h : blk w b xs) (hx : ∀ k, v.ownBlock = some k → k ≠ b) (hf : ∀ k, v'.ownBlock = some k → v.ownBlock = some k ∨ w.heap.size ≤ k) : ∀ k, v'.ownBlock = some k → k ≠ b := fun k hk =>
  (hf k hk).elim (hx k) (fun e => by have := h.lt; omega)
theorem grow_lo {W0 w : World} {v v' : Value} (h : Ch [] W0 w) (hl : ∀ k ∈ v.ownBlock.toList, W0.heap.size ≤ k) (hf : ∀ k, v'.ownBlock = some k → v.ownBlock = some k ∨ w.heap.size ≤ k) : ∀ k ∈ v'.ownBlock.toList, W0.heap.size ≤ k := fun k hk =>
  (hf k (by simpa using hk)).elim (fun e => hl k (by simpa using e)) (fun e => Nat.le_trans h.size e)
theorem not_own {v : Value} {b : Nat} (hx : ∀ k, v.ownBlock = some k → k ≠ b) : b ∉ v.ownBlock.toList := fun hin => hx b (Option.mem_toList.1 hin) rfl
theorem row_cap {w : World} {e : TypeId} {size : Nat} {a : Option Addr} {n c m : Nat} {xs : List Value} (h : row w e size (.slice a n c) m xs) : m ≤ c ∧ c ≤ 9223372036854775807 := by
  rcases h.2 with ⟨e1, h0⟩ | ⟨g', cap', cur, e1, _, _, h1, h2, _⟩
  · cases e1; omega
  · cases e1; exact ⟨h1, by unfold maxLen at h2; exact h2⟩
/-- the world under a name -/
theorem wp_alw {P : Program} {c : Code} {Q : Exit → Act → World → Prop} {a : Act} {w : World} (h : ∀ W, W = w → Code.wp P c Q a W) : Code.wp P c Q a w := h w rfl
set_option maxRecDepth 100000 in
set_option maxHeartbeats 1000000 in
theorem rPut_no {w : World} {rb cap : Nat} {G : Gra} (h : RG w rb cap G) (x : Nd) (hm : G.most ≤ G.nodes.length) : Calls Try.prog 149 #[.agg #[.int .i64 G.most, .slice (some ⟨rb, 0, none⟩) G.nodes.length cap], .agg #[.int .i64 x.k, .int .i64 x.l, .int .i64 x.r]] w (RTo w rb (put G x)) := by
  have e : put G x = (G, 0, 201) := by unfold put; rw [if_pos hm]
  rw [e]
  have H := Lib.hid h; clear h
  have hd : decide (G.most ≤ G.nodes.length) = true := decide_eq_true hm
  clear e
  go_enter Try.func149, Try.ntmps149
  go_wp2_with fail
  have hc : Ch [] w (((w.alloc (.cells #[.int .i64 G.most, .slice (some ⟨rb, 0, none⟩) G.nodes.length cap] 122)).alloc (.cells #[.int .i64 x.k, .int .i64 x.l, .int .i64 x.r] 229)).alloc (.cells #[.int .i64 G.most, .slice (some ⟨rb, 0, none⟩) G.nodes.length cap] 122)) := (((Ch.refl _ _).alloc _).alloc _).alloc _
  exact bodyPost_ret (v := .tuple #[.agg #[.int .i64 G.most, .slice (some ⟨rb, 0, none⟩) G.nodes.length cap], .int .i64 0, .int .i64 201]) (by simp [results, Try.results149, go_sem]) rfl ⟨rb, cap, rfl, H.out.ch hc (by simp), hc, .inl rfl⟩
set_option maxRecDepth 100000 in
set_option maxHeartbeats 1000000 in
theorem rPut_yes {w : World} {rb cap : Nat} {G : Gra} (h : RG w rb cap G) (x : Nd) (hm : G.nodes.length < G.most) (ho2 : Ok { G with nodes := G.nodes ++ [x] }) : Calls Try.prog 149 #[.agg #[.int .i64 G.most, .slice (some ⟨rb, 0, none⟩) G.nodes.length cap], .agg #[.int .i64 x.k, .int .i64 x.l, .int .i64 x.r]] w (RTo w rb (put G x)) := by
  have e : put G x = ({ G with nodes := G.nodes ++ [x] }, 2 * G.nodes.length, 0) := by unfold put; rw [if_neg (by omega)]
  rw [e]
  have HO2 := Lib.hid ho2; clear ho2
  have H := Lib.hid h; clear h
  have hd : decide (G.most ≤ G.nodes.length) = false := decide_eq_false (by omega)
  clear e
  go_enter Try.func149, Try.ntmps149
  go_wp2_with fail
  refine wp_alw ?_
  intro W0 hW0
  have hc0 : Ch [] w W0 := by rw [hW0]; exact (((Ch.refl _ _).alloc _).alloc _).alloc _
  have b2 : blk W0 w.heap.size [.int .i64 G.most, .slice (some ⟨rb, 0, none⟩) G.nodes.length cap] := by rw [hW0]; exact ((blk.new' (w := w) [.int .i64 G.most, .slice (some ⟨rb, 0, none⟩) G.nodes.length cap] 122 rfl).alloc _).alloc _
  have b3 : blk W0 (w.heap.size + 1) [.int .i64 x.k, .int .i64 x.l, .int .i64 x.r] := by rw [hW0]; exact (blk.new' [.int .i64 x.k, .int .i64 x.l, .int .i64 x.r] 229 (by simp)).alloc _
  have b4 : blk W0 (w.heap.size + 1 + 1) [.int .i64 0, .slice none 0 0] := by rw [hW0]; exact blk.new' [.int .i64 0, .slice none 0 0] 122 (by simp)
  clear hW0
  have H0 := H.out.ch hc0 (by simp)
  have hrb := H.out.lt
  obtain ⟨hl, hp, hmo⟩ := H0.len
  have hle := H0.le
  have hmx := H0.mx
  have B2 := Lib.hid b2; clear b2
  have B3 := Lib.hid b3; clear b3
  have B4 := Lib.hid b4; clear b4
  have HC0 := Lib.hid hc0; clear hc0
  have HH := Lib.hid H0; clear H0 H hd
  obtain ⟨n, hn⟩ : ∃ n, G.nodes.length = n := ⟨_, rfl⟩
  have HN := Lib.hid hn
  rw [hn] at hl hp hle hm
  have hs0 := HC0.out.size
  refine Ord.St.door (fun w' => Ch [] W0 w') [.ef, .fl, .ho, .ef, .ho, .ef, .ef, .fl, .ef] [0, 0, 2, 7, 0, 16, 63, 127, 255] [0, 1, 2, 3, 4, 5, 6, 7, 8] mixed (by kernel_rfl) rfl ?_
  obtain ⟨Wc, hWc⟩ : ∃ Wc, Wc = W0.drew := ⟨_, rfl⟩
  rw [← hWc]
  have hcur : Ch [] W0 Wc := by rw [hWc]; exact (Ch.refl _ _).drew
  clear hWc
  refine Ord.St.fl2 (T' := ?_) 1 [0, 2, 3, 4, 5, 6, 7, 8] _ _ rfl (by kernel_rfl) rfl rfl rfl rfl (fun K w' hk => ?_) ?_
  rotate_left
  · go_step; exact hk
  refine Ord.St.ho2 (T' := ?_) 2 [0, 3, 4, 5, 6, 7, 8] _ _ rfl (by kernel_rfl) rfl rfl rfl rfl ?_ (fun K w' hw' hk => ?_) ?_
  rotate_left
  · trivial
  · have y1 := (B2.out.ch hw' (by simp)).cell (i := 1) rfl; have z0 := (B3.out.ch hw' (by simp)).cell (i := 0) rfl; have z1 := (B3.out.ch hw' (by simp)).cell (i := 1) rfl; have z2 := (B3.out.ch hw' (by simp)).cell (i := 2) rfl; go_step; exact hk
  refine Ord.St.ho2 (T' := ?_) 4 [0, 3, 5, 6, 7, 8] _ _ rfl (by kernel_rfl) rfl rfl rfl rfl ?_ (fun K w' hw' hk => ?_) ?_
  rotate_left
  · trivial
  · have y1 := (B2.out.ch hw' (by simp)).cell (i := 1) rfl; have z0 := (B3.out.ch hw' (by simp)).cell (i := 0) rfl; have z1 := (B3.out.ch hw' (by simp)).cell (i := 1) rfl; have z2 := (B3.out.ch hw' (by simp)).cell (i := 2) rfl; go_step; exact hk
  refine Ord.St.two 0 5 [3, 5, 6, 7, 8] [0, 3, 6, 7, 8] _ _ (by kernel_rfl) rfl rfl (by kernel_rfl) (by kernel_rfl) (fun K hK => ?_) (fun K hK => ?_)
  · go_wp2_with fail
    refine ⟨rfl, hK _ _ ?_ ?_⟩
    · exact hcur.alloc _
    clear hK K
    refine Ord.St.alw ?_; intro Wn hWn
    have hrow := row_new0 (e := 229) (size := 3) hWn
    have hlo := new_lo hcur
    try have hx := new_ne hb5
    try replace hb5 := hb5.ch (alw_ch hWn) (by simp)
    replace hcur := hcur.trans (alw_ch hWn) (by simp)
    clear hWn
    refine Ord.St.two 3 5 [5, 6, 7, 8] [3, 6, 7, 8] _ _ (by kernel_rfl) rfl rfl (by kernel_rfl) (by kernel_rfl) (fun K hK => ?_) (fun K hK => ?_)
    · have hnews : ∀ j u, (rCells G.nodes)[j]? = some u → _ := (HH.out.ch hcur (by simp)).cells
      have HNW := Lib.hid hnews; clear hnews
      have HROW := Lib.hid hrow; clear hrow
      go_wp2_with (at_builtin; go_loud (refine wpList_append_row slRNodes rfl _ _ rfl (v := .slice (some ⟨_, 0, none⟩) 0 0) (n := 0) (xs := []) rfl HROW.out (ad := ⟨rb, 0, none⟩) (m := n) (c := cap) (news := rCells G.nodes) rfl (by rw [rCells_length, HN.out]) (by intro j u hu; rw [Addr.add_lit, Nat.zero_add]; exact HNW.out j u hu) (rCells_one _) (by omega) (by omega) ?_; intro v1 wA hr1 hcA hfA; rw [Nat.zero_add, List.nil_append] at hr1; obtain ⟨ba, rca, rfl⟩ := row.parts hr1 (by omega)))
      refine ⟨rfl, hK _ _ ?_ ?_⟩
      · exact hcur.trans hcA (fun k hk => .inr (hlo k hk))
      clear hK K
      have hrow := hr1
      try have hx2 := grow_ne hb5 hx hfA
      try replace hb5 := hb5.ch hcA (not_own hx)
      try clear hx
      try have hx := hx2
      have hlo2 := grow_lo hcur hlo hfA
      replace hcur := hcur.trans hcA (fun k hk => .inr (hlo k hk))
      clear hlo
      have hlo := hlo2
      clear hcA hfA hr1 HROW HNW hlo2
      refine Ord.St.efC 5 [6, 7, 8] _ rfl (by kernel_rfl) (fun K hK => ?_)
      go_wp2_with fail
      refine ⟨rfl, hK _ _ ?_ ?_⟩
      · exact hcur.alloc _
      clear hK K
      refine Ord.St.alw ?_; intro Wn hWn
      have hb5 := alw_blk (xs := [.int .i64 x.k, .int .i64 x.l, .int .i64 x.r]) hWn
      try have hx := row_ne hrow
      try replace hrow := hrow.ch (alw_ch hWn) (by simp)
      replace hcur := hcur.trans (alw_ch hWn) (by simp)
      clear hWn
      refine Ord.St.ef 6 [7, 8] _ rfl (by kernel_rfl) (fun K hK => ?_)
      have HROW := Lib.hid hrow; clear hrow
      have HX := Lib.hid hx; clear hx
      have HB5 := Lib.hid hb5; clear hb5
      have HLO := Lib.hid hlo; clear hlo
      have HCUR := Lib.hid hcur; clear hcur
      go_wp2_with (at_builtin; go_loud (refine wpList_append_row slRNodes rfl _ _ rfl (v := .slice (some ⟨ba, 0, none⟩) n rca) (n := n) (xs := rCells G.nodes) rfl HROW.out (ad := ⟨_, 0, none⟩) (m := 1) (c := 1) (news := [.int .i64 x.k, .int .i64 x.l, .int .i64 x.r]) rfl rfl (news_blk HB5.out) (by simp [Value.oneCell']) (by omega) (by omega) ?_; intro v2 wB hr2 hcB hfB; obtain ⟨bb, rcb, rfl⟩ := row.parts hr2 (by omega); have hlo2 := grow_lo HCUR.out HLO.out hfB; have hcur := HCUR.out.trans hcB (fun k hk => .inr (HLO.out k hk))))
      refine ⟨rfl, hK _ _ ?_⟩; clear hK K
      clear hcB hfB
      have b2 := B2.out.ch hcur (by simp)
      have b4 := B4.out.ch hcur (by simp)
      have hne2 : bb ≠ w.heap.size := by have := hlo2 bb (by simp); have := B2.out.lt; omega
      have hne4 : bb ≠ w.heap.size + 1 + 1 := by have := hlo2 bb (by simp); have := B4.out.lt; omega
      have hwb : w.heap.size ≤ bb := by have := hlo2 bb (by simp); omega
      have y1 := b2.cell (i := 1) rfl
      have f1 := b2.frozen (i := 1)
      have BB2 := Lib.hid b2; clear b2
      have BB4 := Lib.hid b4; clear b4
      have HR2 := Lib.hid hr2; clear hr2
      clear hlo2
      refine Ord.St.fl2 (T' := ?_) 7 [8] _ _ rfl (by kernel_rfl) rfl rfl rfl rfl (fun K w' hk => ?_) ?_
      rotate_left
      · go_step; exact hk
      refine Ord.St.ef 8 [] _ rfl (by kernel_rfl) (fun K hK => ?_)
      go_wp2_with fail
      refine ⟨rfl, hK _ _ ?_⟩; clear hK K
      refine Ord.St.nil ?_
      go_wp2_with fail
      refine wp_alw ?_
      intro W5 hW5
      have b2 : blk W5 w.heap.size [.int .i64 G.most, .slice (some ⟨bb, 0, none⟩) (n + 1) rcb] := by rw [hW5]; exact BB2.out.set _
      have hc5 : Ch [w.heap.size] wB W5 := by rw [hW5]; exact (Ch.refl _ _).setCell (by simp) _
      have b4 := BB4.out.ch hc5 (by simp; omega)
      have hr5 := HR2.out.ch hc5 (by intro k hk; simp at hk; subst hk; simpa using hne2)
      have hc05 : Ch [] w W5 := (HC0.out.trans hcur (by simp)).trans hc5 (by simp)
      have y0 := b2.cell (i := 0) rfl
      have y1 := b2.cell (i := 1) rfl
      have z0 := b4.cell (i := 0) rfl
      have z1 := b4.cell (i := 1) rfl
      have f0 := b4.frozen (i := 0)
      have f1' := b4.frozen (i := 1)
      have BB2' := Lib.hid b2; clear b2
      have BB4' := Lib.hid b4; clear b4
      have HR5 := Lib.hid hr5; clear hr5
      have HC5 := Lib.hid hc05; clear hc05 hc5
      clear hW5 BB2 BB4 HR2 f1
      refine Ord.St.door (fun w' => w'.cell? ⟨w.heap.size, 1, none⟩ = some (.slice (some ⟨bb, 0, none⟩) (n + 1) rcb)) [.rd, .fl, .ho, .fl, .fl, .fl, .ef, .fl, .fl] [0, 0, 2, 6, 14, 30, 1, 127, 255] [0, 1, 2, 3, 4, 5, 6, 7, 8] mixed (by kernel_rfl) rfl ?_
      refine Ord.St.rd2 (T' := ?_) 0 [1, 2, 3, 4, 5, 6, 7, 8] _ _ rfl (by kernel_rfl) rfl rfl rfl rfl (fun K hk => ?_) ?_
      rotate_left
      · go_step; exact hk
      refine Ord.St.fl2 (T' := ?_) 1 [2, 3, 4, 5, 6, 7, 8] _ _ rfl (by kernel_rfl) rfl rfl rfl rfl (fun K w' hk => ?_) ?_
      rotate_left
      · go_step; exact hk
      refine Ord.St.ho2 (T' := ?_) 2 [3, 4, 5, 6, 7, 8] _ _ rfl (by kernel_rfl) rfl rfl rfl rfl ?_ (fun K w' hw' hk => ?_) ?_
      rotate_left
      · trivial
      · skip; go_step; exact hk
      refine Ord.St.fl2 (T' := ?_) 3 [4, 5, 6, 7, 8] _ _ rfl (by kernel_rfl) rfl rfl rfl rfl (fun K w' hk => ?_) ?_
      rotate_left
      · go_step; exact hk
      refine Ord.St.fl2 (T' := ?_) 4 [5, 6, 7, 8] _ _ rfl (by kernel_rfl) rfl rfl rfl rfl (fun K w' hk => ?_) ?_
      rotate_left
      · go_step; exact hk
      refine Ord.St.fl2 (T' := ?_) 5 [6, 7, 8] _ _ rfl (by kernel_rfl) rfl rfl rfl rfl (fun K w' hk => ?_) ?_
      rotate_left
      · go_step; exact hk
      refine Ord.St.efC 6 [7, 8] _ rfl (by kernel_rfl) (fun K hK => ?_)
      go_wp2_with fail
      refine ⟨rfl, hK _ _ ?_ ?_⟩
      · go_simp
      clear hK K
      refine Ord.St.fl2 (T' := ?_) 7 [8] _ _ rfl (by kernel_rfl) rfl rfl rfl rfl (fun K w' hk => ?_) ?_
      rotate_left
      · go_step; exact hk
      refine Ord.St.fl2 (T' := ?_) 8 [] _ _ rfl (by kernel_rfl) rfl rfl rfl rfl (fun K w' hk => ?_) ?_
      rotate_left
      · go_step; exact hk
      refine Ord.St.nil ?_
      go_wp2_with fail
      have hc9 : Ch [w.heap.size + 1 + 1] W5 ((W5.setCell ⟨w.heap.size + 1 + 1, 0, none⟩ (.int .i64 G.most)).setCell ⟨w.heap.size + 1 + 1, 1, none⟩ (.slice (some ⟨bb, 0, none⟩) (n + 1) rcb)).drew := (((Ch.refl _ _).setCell (by simp) _).setCell (by simp) _).drew
      have hr9 := HR5.out.ch hc9 (by intro k hk; simp at hk; subst hk; simpa using hne4)
      have hcap := row_cap hr9
      refine bodyPost_ret (v := .tuple #[.agg #[.int .i64 G.most, .slice (some ⟨bb, 0, none⟩) (n + 1) rcb], .int .i64 (2 * n), .int .i64 0]) (by simp [results, Try.results149, go_sem, z0, z1]) rfl ?_
      refine ⟨bb, rcb, ?_, ⟨fun j u hu => ?_, ?_, ?_, hcap.2, HO2.out⟩, HC5.out.trans hc9 (fun k hk => .inr (by simp at hk; omega)), .inr hwb⟩
      · simp [HN.out]
      · rw [rCells_append] at hu; have := hr9.cells (g := bb) rfl j u (by simpa [rCells, rnCells] using hu); rwa [Addr.add_lit, Nat.zero_add] at this
      · exact (hr9.lt bb rfl).2
      · simpa [HN.out] using hcap.1
    · go_wp2_with fail
      refine ⟨rfl, hK _ _ ?_ ?_⟩
      · exact hcur.alloc _
      clear hK K
      refine Ord.St.alw ?_; intro Wn hWn
      have hb5 := alw_blk (xs := [.int .i64 x.k, .int .i64 x.l, .int .i64 x.r]) hWn
      try have hx := row_ne hrow
      try replace hrow := hrow.ch (alw_ch hWn) (by simp)
      replace hcur := hcur.trans (alw_ch hWn) (by simp)
      clear hWn
      refine Ord.St.efC 3 [6, 7, 8] _ rfl (by kernel_rfl) (fun K hK => ?_)
      have hnews : ∀ j u, (rCells G.nodes)[j]? = some u → _ := (HH.out.ch hcur (by simp)).cells
      have HNW := Lib.hid hnews; clear hnews
      have HROW := Lib.hid hrow; clear hrow
      go_wp2_with (at_builtin; go_loud (refine wpList_append_row slRNodes rfl _ _ rfl (v := .slice (some ⟨_, 0, none⟩) 0 0) (n := 0) (xs := []) rfl HROW.out (ad := ⟨rb, 0, none⟩) (m := n) (c := cap) (news := rCells G.nodes) rfl (by rw [rCells_length, HN.out]) (by intro j u hu; rw [Addr.add_lit, Nat.zero_add]; exact HNW.out j u hu) (rCells_one _) (by omega) (by omega) ?_; intro v1 wA hr1 hcA hfA; rw [Nat.zero_add, List.nil_append] at hr1; obtain ⟨ba, rca, rfl⟩ := row.parts hr1 (by omega)))
      refine ⟨rfl, hK _ _ ?_ ?_⟩
      · exact hcur.trans hcA (fun k hk => .inr (hlo k hk))
      clear hK K
      have hrow := hr1
      try have hx2 := grow_ne hb5 hx hfA
      try replace hb5 := hb5.ch hcA (not_own hx)
      try clear hx
      try have hx := hx2
      have hlo2 := grow_lo hcur hlo hfA
      replace hcur := hcur.trans hcA (fun k hk => .inr (hlo k hk))
      clear hlo
      have hlo := hlo2
      clear hcA hfA hr1 HROW HNW hlo2
      refine Ord.St.ef 6 [7, 8] _ rfl (by kernel_rfl) (fun K hK => ?_)
      have HROW := Lib.hid hrow; clear hrow
      have HX := Lib.hid hx; clear hx
      have HB5 := Lib.hid hb5; clear hb5
      have HLO := Lib.hid hlo; clear hlo
      have HCUR := Lib.hid hcur; clear hcur
      go_wp2_with (at_builtin; go_loud (refine wpList_append_row slRNodes rfl _ _ rfl (v := .slice (some ⟨ba, 0, none⟩) n rca) (n := n) (xs := rCells G.nodes) rfl HROW.out (ad := ⟨_, 0, none⟩) (m := 1) (c := 1) (news := [.int .i64 x.k, .int .i64 x.l, .int .i64 x.r]) rfl rfl (news_blk HB5.out) (by simp [Value.oneCell']) (by omega) (by omega) ?_; intro v2 wB hr2 hcB hfB; obtain ⟨bb, rcb, rfl⟩ := row.parts hr2 (by omega); have hlo2 := grow_lo HCUR.out HLO.out hfB; have hcur := HCUR.out.trans hcB (fun k hk => .inr (HLO.out k hk))))
      refine ⟨rfl, hK _ _ ?_⟩; clear hK K
      clear hcB hfB
      have b2 := B2.out.ch hcur (by simp)
      have b4 := B4.out.ch hcur (by simp)
      have hne2 : bb ≠ w.heap.size := by have := hlo2 bb (by simp); have := B2.out.lt; omega
      have hne4 : bb ≠ w.heap.size + 1 + 1 := by have := hlo2 bb (by simp); have := B4.out.lt; omega
      have hwb : w.heap.size ≤ bb := by have := hlo2 bb (by simp); omega
      have y1 := b2.cell (i := 1) rfl
      have f1 := b2.frozen (i := 1)
      have BB2 := Lib.hid b2; clear b2
      have BB4 := Lib.hid b4; clear b4
      have HR2 := Lib.hid hr2; clear hr2
      clear hlo2
      refine Ord.St.fl2 (T' := ?_) 7 [8] _ _ rfl (by kernel_rfl) rfl rfl rfl rfl (fun K w' hk => ?_) ?_
      rotate_left
      · go_step; exact hk
      refine Ord.St.ef 8 [] _ rfl (by kernel_rfl) (fun K hK => ?_)
      go_wp2_with fail
      refine ⟨rfl, hK _ _ ?_⟩; clear hK K
      refine Ord.St.nil ?_
      go_wp2_with fail
      refine wp_alw ?_
      intro W5 hW5
      have b2 : blk W5 w.heap.size [.int .i64 G.most, .slice (some ⟨bb, 0, none⟩) (n + 1) rcb] := by rw [hW5]; exact BB2.out.set _
      have hc5 : Ch [w.heap.size] wB W5 := by rw [hW5]; exact (Ch.refl _ _).setCell (by simp) _
      have b4 := BB4.out.ch hc5 (by simp; omega)
      have hr5 := HR2.out.ch hc5 (by intro k hk; simp at hk; subst hk; simpa using hne2)
      have hc05 : Ch [] w W5 := (HC0.out.trans hcur (by simp)).trans hc5 (by simp)
      have y0 := b2.cell (i := 0) rfl
      have y1 := b2.cell (i := 1) rfl
      have z0 := b4.cell (i := 0) rfl
      have z1 := b4.cell (i := 1) rfl
      have f0 := b4.frozen (i := 0)
      have f1' := b4.frozen (i := 1)
      have BB2' := Lib.hid b2; clear b2
      have BB4' := Lib.hid b4; clear b4
      have HR5 := Lib.hid hr5; clear hr5
      have HC5 := Lib.hid hc05; clear hc05 hc5
      clear hW5 BB2 BB4 HR2 f1
      refine Ord.St.door (fun w' => w'.cell? ⟨w.heap.size, 1, none⟩ = some (.slice (some ⟨bb, 0, none⟩) (n + 1) rcb)) [.rd, .fl, .ho, .fl, .fl, .fl, .ef, .fl, .fl] [0, 0, 2, 6, 14, 30, 1, 127, 255] [0, 1, 2, 3, 4, 5, 6, 7, 8] mixed (by kernel_rfl) rfl ?_
      refine Ord.St.rd2 (T' := ?_) 0 [1, 2, 3, 4, 5, 6, 7, 8] _ _ rfl (by kernel_rfl) rfl rfl rfl rfl (fun K hk => ?_) ?_
      rotate_left
      · go_step; exact hk
      refine Ord.St.fl2 (T' := ?_) 1 [2, 3, 4, 5, 6, 7, 8] _ _ rfl (by kernel_rfl) rfl rfl rfl rfl (fun K w' hk => ?_) ?_
      rotate_left
      · go_step; exact hk
      refine Ord.St.ho2 (T' := ?_) 2 [3, 4, 5, 6, 7, 8] _ _ rfl (by kernel_rfl) rfl rfl rfl rfl ?_ (fun K w' hw' hk => ?_) ?_
      rotate_left
      · trivial
      · skip; go_step; exact hk
      refine Ord.St.fl2 (T' := ?_) 3 [4, 5, 6, 7, 8] _ _ rfl (by kernel_rfl) rfl rfl rfl rfl (fun K w' hk => ?_) ?_
      rotate_left
      · go_step; exact hk
      refine Ord.St.fl2 (T' := ?_) 4 [5, 6, 7, 8] _ _ rfl (by kernel_rfl) rfl rfl rfl rfl (fun K w' hk => ?_) ?_
      rotate_left
      · go_step; exact hk
      refine Ord.St.fl2 (T' := ?_) 5 [6, 7, 8] _ _ rfl (by kernel_rfl) rfl rfl rfl rfl (fun K w' hk => ?_) ?_
      rotate_left
      · go_step; exact hk
      refine Ord.St.efC 6 [7, 8] _ rfl (by kernel_rfl) (fun K hK => ?_)
      go_wp2_with fail
      refine ⟨rfl, hK _ _ ?_ ?_⟩
      · go_simp
      clear hK K
      refine Ord.St.fl2 (T' := ?_) 7 [8] _ _ rfl (by kernel_rfl) rfl rfl rfl rfl (fun K w' hk => ?_) ?_
      rotate_left
      · go_step; exact hk
      refine Ord.St.fl2 (T' := ?_) 8 [] _ _ rfl (by kernel_rfl) rfl rfl rfl rfl (fun K w' hk => ?_) ?_
      rotate_left
      · go_step; exact hk
      refine Ord.St.nil ?_
      go_wp2_with fail
      have hc9 : Ch [w.heap.size + 1 + 1] W5 ((W5.setCell ⟨w.heap.size + 1 + 1, 0, none⟩ (.int .i64 G.most)).setCell ⟨w.heap.size + 1 + 1, 1, none⟩ (.slice (some ⟨bb, 0, none⟩) (n + 1) rcb)).drew := (((Ch.refl _ _).setCell (by simp) _).setCell (by simp) _).drew
      have hr9 := HR5.out.ch hc9 (by intro k hk; simp at hk; subst hk; simpa using hne4)
      have hcap := row_cap hr9
      refine bodyPost_ret (v := .tuple #[.agg #[.int .i64 G.most, .slice (some ⟨bb, 0, none⟩) (n + 1) rcb], .int .i64 (2 * n), .int .i64 0]) (by simp [results, Try.results149, go_sem, z0, z1]) rfl ?_
      refine ⟨bb, rcb, ?_, ⟨fun j u hu => ?_, ?_, ?_, hcap.2, HO2.out⟩, HC5.out.trans hc9 (fun k hk => .inr (by simp at hk; omega)), .inr hwb⟩
      · simp [HN.out]
      · rw [rCells_append] at hu; have := hr9.cells (g := bb) rfl j u (by simpa [rCells, rnCells] using hu); rwa [Addr.add_lit, Nat.zero_add] at this
      · exact (hr9.lt bb rfl).2
      · simpa [HN.out] using hcap.1
  · go_wp2_with fail
    refine ⟨rfl, hK _ _ ?_ ?_⟩
    · exact hcur.alloc _
    clear hK K
    refine Ord.St.alw ?_; intro Wn hWn
    have hb5 := alw_blk (xs := [.int .i64 x.k, .int .i64 x.l, .int .i64 x.r]) hWn
    try have hx := row_ne hrow
    try replace hrow := hrow.ch (alw_ch hWn) (by simp)
    replace hcur := hcur.trans (alw_ch hWn) (by simp)
    clear hWn
    refine Ord.St.efC 0 [3, 6, 7, 8] _ rfl (by kernel_rfl) (fun K hK => ?_)
    go_wp2_with fail
    refine ⟨rfl, hK _ _ ?_ ?_⟩
    · exact hcur.alloc _
    clear hK K
    refine Ord.St.alw ?_; intro Wn hWn
    have hrow := row_new0 (e := 229) (size := 3) hWn
    have hlo := new_lo hcur
    try have hx := new_ne hb5
    try replace hb5 := hb5.ch (alw_ch hWn) (by simp)
    replace hcur := hcur.trans (alw_ch hWn) (by simp)
    clear hWn
    refine Ord.St.efC 3 [6, 7, 8] _ rfl (by kernel_rfl) (fun K hK => ?_)
    have hnews : ∀ j u, (rCells G.nodes)[j]? = some u → _ := (HH.out.ch hcur (by simp)).cells
    have HNW := Lib.hid hnews; clear hnews
    have HROW := Lib.hid hrow; clear hrow
    go_wp2_with (at_builtin; go_loud (refine wpList_append_row slRNodes rfl _ _ rfl (v := .slice (some ⟨_, 0, none⟩) 0 0) (n := 0) (xs := []) rfl HROW.out (ad := ⟨rb, 0, none⟩) (m := n) (c := cap) (news := rCells G.nodes) rfl (by rw [rCells_length, HN.out]) (by intro j u hu; rw [Addr.add_lit, Nat.zero_add]; exact HNW.out j u hu) (rCells_one _) (by omega) (by omega) ?_; intro v1 wA hr1 hcA hfA; rw [Nat.zero_add, List.nil_append] at hr1; obtain ⟨ba, rca, rfl⟩ := row.parts hr1 (by omega)))
    refine ⟨rfl, hK _ _ ?_ ?_⟩
    · exact hcur.trans hcA (fun k hk => .inr (hlo k hk))
    clear hK K
    have hrow := hr1
    try have hx2 := grow_ne hb5 hx hfA
    try replace hb5 := hb5.ch hcA (not_own hx)
    try clear hx
    try have hx := hx2
    have hlo2 := grow_lo hcur hlo hfA
    replace hcur := hcur.trans hcA (fun k hk => .inr (hlo k hk))
    clear hlo
    have hlo := hlo2
    clear hcA hfA hr1 HROW HNW hlo2
    refine Ord.St.ef 6 [7, 8] _ rfl (by kernel_rfl) (fun K hK => ?_)
    have HROW := Lib.hid hrow; clear hrow
    have HX := Lib.hid hx; clear hx
    have HB5 := Lib.hid hb5; clear hb5
    have HLO := Lib.hid hlo; clear hlo
    have HCUR := Lib.hid hcur; clear hcur
    go_wp2_with (at_builtin; go_loud (refine wpList_append_row slRNodes rfl _ _ rfl (v := .slice (some ⟨ba, 0, none⟩) n rca) (n := n) (xs := rCells G.nodes) rfl HROW.out (ad := ⟨_, 0, none⟩) (m := 1) (c := 1) (news := [.int .i64 x.k, .int .i64 x.l, .int .i64 x.r]) rfl rfl (news_blk HB5.out) (by simp [Value.oneCell']) (by omega) (by omega) ?_; intro v2 wB hr2 hcB hfB; obtain ⟨bb, rcb, rfl⟩ := row.parts hr2 (by omega); have hlo2 := grow_lo HCUR.out HLO.out hfB; have hcur := HCUR.out.trans hcB (fun k hk => .inr (HLO.out k hk))))
    refine ⟨rfl, hK _ _ ?_⟩; clear hK K
    clear hcB hfB
    have b2 := B2.out.ch hcur (by simp)
    have b4 := B4.out.ch hcur (by simp)
    have hne2 : bb ≠ w.heap.size := by have := hlo2 bb (by simp); have := B2.out.lt; omega
    have hne4 : bb ≠ w.heap.size + 1 + 1 := by have := hlo2 bb (by simp); have := B4.out.lt; omega
    have hwb : w.heap.size ≤ bb := by have := hlo2 bb (by simp); omega
    have y1 := b2.cell (i := 1) rfl
    have f1 := b2.frozen (i := 1)
    have BB2 := Lib.hid b2; clear b2
    have BB4 := Lib.hid b4; clear b4
    have HR2 := Lib.hid hr2; clear hr2
    clear hlo2
    refine Ord.St.fl2 (T' := ?_) 7 [8] _ _ rfl (by kernel_rfl) rfl rfl rfl rfl (fun K w' hk => ?_) ?_
    rotate_left
    · go_step; exact hk
    refine Ord.St.ef 8 [] _ rfl (by kernel_rfl) (fun K hK => ?_)
    go_wp2_with fail
    refine ⟨rfl, hK _ _ ?_⟩; clear hK K
    refine Ord.St.nil ?_
    go_wp2_with fail
    refine wp_alw ?_
    intro W5 hW5
    have b2 : blk W5 w.heap.size [.int .i64 G.most, .slice (some ⟨bb, 0, none⟩) (n + 1) rcb] := by rw [hW5]; exact BB2.out.set _
    have hc5 : Ch [w.heap.size] wB W5 := by rw [hW5]; exact (Ch.refl _ _).setCell (by simp) _
    have b4 := BB4.out.ch hc5 (by simp; omega)
    have hr5 := HR2.out.ch hc5 (by intro k hk; simp at hk; subst hk; simpa using hne2)
    have hc05 : Ch [] w W5 := (HC0.out.trans hcur (by simp)).trans hc5 (by simp)
    have y0 := b2.cell (i := 0) rfl
    have y1 := b2.cell (i := 1) rfl
    have z0 := b4.cell (i := 0) rfl
    have z1 := b4.cell (i := 1) rfl
    have f0 := b4.frozen (i := 0)
    have f1' := b4.frozen (i := 1)
    have BB2' := Lib.hid b2; clear b2
    have BB4' := Lib.hid b4; clear b4
    have HR5 := Lib.hid hr5; clear hr5
    have HC5 := Lib.hid hc05; clear hc05 hc5
    clear hW5 BB2 BB4 HR2 f1
    refine Ord.St.door (fun w' => w'.cell? ⟨w.heap.size, 1, none⟩ = some (.slice (some ⟨bb, 0, none⟩) (n + 1) rcb)) [.rd, .fl, .ho, .fl, .fl, .fl, .ef, .fl, .fl] [0, 0, 2, 6, 14, 30, 1, 127, 255] [0, 1, 2, 3, 4, 5, 6, 7, 8] mixed (by kernel_rfl) rfl ?_
    refine Ord.St.rd2 (T' := ?_) 0 [1, 2, 3, 4, 5, 6, 7, 8] _ _ rfl (by kernel_rfl) rfl rfl rfl rfl (fun K hk => ?_) ?_
    rotate_left
    · go_step; exact hk
    refine Ord.St.fl2 (T' := ?_) 1 [2, 3, 4, 5, 6, 7, 8] _ _ rfl (by kernel_rfl) rfl rfl rfl rfl (fun K w' hk => ?_) ?_
    rotate_left
    · go_step; exact hk
    refine Ord.St.ho2 (T' := ?_) 2 [3, 4, 5, 6, 7, 8] _ _ rfl (by kernel_rfl) rfl rfl rfl rfl ?_ (fun K w' hw' hk => ?_) ?_
    rotate_left
    · trivial
    · skip; go_step; exact hk
    refine Ord.St.fl2 (T' := ?_) 3 [4, 5, 6, 7, 8] _ _ rfl (by kernel_rfl) rfl rfl rfl rfl (fun K w' hk => ?_) ?_
    rotate_left
    · go_step; exact hk
    refine Ord.St.fl2 (T' := ?_) 4 [5, 6, 7, 8] _ _ rfl (by kernel_rfl) rfl rfl rfl rfl (fun K w' hk => ?_) ?_
    rotate_left
    · go_step; exact hk
    refine Ord.St.fl2 (T' := ?_) 5 [6, 7, 8] _ _ rfl (by kernel_rfl) rfl rfl rfl rfl (fun K w' hk => ?_) ?_
    rotate_left
    · go_step; exact hk
    refine Ord.St.efC 6 [7, 8] _ rfl (by kernel_rfl) (fun K hK => ?_)
    go_wp2_with fail
    refine ⟨rfl, hK _ _ ?_ ?_⟩
    · go_simp
    clear hK K
    refine Ord.St.fl2 (T' := ?_) 7 [8] _ _ rfl (by kernel_rfl) rfl rfl rfl rfl (fun K w' hk => ?_) ?_
    rotate_left
    · go_step; exact hk
    refine Ord.St.fl2 (T' := ?_) 8 [] _ _ rfl (by kernel_rfl) rfl rfl rfl rfl (fun K w' hk => ?_) ?_
    rotate_left
    · go_step; exact hk
    refine Ord.St.nil ?_
    go_wp2_with fail
    have hc9 : Ch [w.heap.size + 1 + 1] W5 ((W5.setCell ⟨w.heap.size + 1 + 1, 0, none⟩ (.int .i64 G.most)).setCell ⟨w.heap.size + 1 + 1, 1, none⟩ (.slice (some ⟨bb, 0, none⟩) (n + 1) rcb)).drew := (((Ch.refl _ _).setCell (by simp) _).setCell (by simp) _).drew
    have hr9 := HR5.out.ch hc9 (by intro k hk; simp at hk; subst hk; simpa using hne4)
    have hcap := row_cap hr9
    refine bodyPost_ret (v := .tuple #[.agg #[.int .i64 G.most, .slice (some ⟨bb, 0, none⟩) (n + 1) rcb], .int .i64 (2 * n), .int .i64 0]) (by simp [results, Try.results149, go_sem, z0, z1]) rfl ?_
    refine ⟨bb, rcb, ?_, ⟨fun j u hu => ?_, ?_, ?_, hcap.2, HO2.out⟩, HC5.out.trans hc9 (fun k hk => .inr (by simp at hk; omega)), .inr hwb⟩
    · simp [HN.out]
    · rw [rCells_append] at hu; have := hr9.cells (g := bb) rfl j u (by simpa [rCells, rnCells] using hu); rwa [Addr.add_lit, Nat.zero_add] at this
    · exact (hr9.lt bb rfl).2
    · simpa [HN.out] using hcap.1
  go_wp2_with fail

end
end Go.Proofs.Ytkedpifopclipaa
namespace Go.Proofs.Ytkedpifopclipaa
open Go.RowKit Go.Mem Go.Aig
theorem rPut_is {w : World} {rb cap : Nat} {G : Gra} (h : RG w rb cap G) (x : Nd) (ho : G.nodes.length < G.most → Ok { G with nodes := G.nodes ++ [x] }) : Calls Try.prog 149 #[.agg #[.int .i64 G.most, .slice (some ⟨rb, 0, none⟩) G.nodes.length cap], .agg #[.int .i64 x.k, .int .i64 x.l, .int .i64 x.r]] w (RTo w rb (put G x)) := by
  rcases Nat.lt_or_ge G.nodes.length G.most with hm | hm
  · exact rPut_yes h x hm (ho hm)
  · exact rPut_no h x hm
theorem neg_eq {a b : Nat} : a = neg b ↔ b = neg a := by unfold neg; constructor <;> intro h <;> (repeat' split at h) <;> (repeat' split) <;> omega
/-- the and of two references, the lesser one first -/
theorem and_sort (G : Gra) {a b l r : Nat} (hl : min a b = l) (hr : max a b = r) :
    ((l = 0 ∨ l = neg r) → and G a b = (G, 0, 0)) ∧ (¬ (l = 0 ∨ l = neg r) → (l = 1 ∨ l = r) → and G a b = (G, r, 0)) ∧
    (¬ (l = 0 ∨ l = neg r) → ¬ (l = 1 ∨ l = r) → andIs a b = .node l r ∧ (∀ n, findAnd G.nodes l r = some n → and G a b = (G, 2 * n, 0)) ∧ (findAnd G.nodes l r = none → and G a b = put G ⟨3, l, r, 1 + max (dep G.nodes a) (dep G.nodes b)⟩)) := by
  have e1 : (a = neg b) ↔ (l = neg r) := by
    rcases Nat.le_total a b with h | h
    · rw [Nat.min_eq_left h] at hl; rw [Nat.max_eq_right h] at hr; subst hl; subst hr; exact Iff.rfl
    · rw [Nat.min_eq_right h] at hl; rw [Nat.max_eq_left h] at hr; subst hl; subst hr; exact neg_eq
  have e2 : (a = b) ↔ (l = r) := by omega
  have hi : andIs a b = if l = 0 ∨ l = neg r then .known 0 else if l = 1 ∨ l = r then .known r else .node l r := by
    unfold andIs
    rw [hl, hr]
    simp only [e1, e2]
  refine ⟨fun h => ?_, fun h h2 => ?_, fun h h2 => ?_⟩
  · unfold Aig.and; rw [hi, if_pos h]
  · unfold Aig.and; rw [hi, if_neg h, if_pos h2]
  · rw [if_neg h, if_neg h2] at hi
    refine ⟨hi, fun n hn => ?_, fun hn => ?_⟩
    · unfold Aig.and; rw [hi]; simp only [hn]
    · unfold Aig.and; rw [hi]; simp only [hn]
theorem findAnd_at {ns : List Nd} {l r k : Nat} {x : Nd} (hx : ns[k]? = some x) (h : isAnd l r x = true) (hno : ∀ (j : Nat) y, j < k → ns[j]? = some y → isAnd l r y = false) : findAnd ns l r = some k := by
  unfold findAnd
  obtain ⟨hlt, e⟩ := List.getElem?_eq_some_iff.1 hx
  rw [List.findIdx?_eq_some_iff_getElem]
  exact ⟨hlt, by rw [e]; exact h, fun j hj => by simp [hno j _ hj (List.getElem?_eq_getElem (by omega))]⟩
theorem findAnd_no {ns : List Nd} {l r : Nat} (hno : ∀ (j : Nat) y, j < ns.length → ns[j]? = some y → isAnd l r y = false) : findAnd ns l r = none := by
  unfold findAnd
  rw [List.findIdx?_eq_none_iff]
  intro y hy
  obtain ⟨j, hj⟩ := List.mem_iff_getElem?.1 hy
  exact hno j y (List.getElem?_eq_some_iff.1 hj).1 hj
/-- the same graph is returned -/
theorem RTo.self {w w' : World} {rb cap : Nat} {G : Gra} (h : RG w rb cap G) (hc : Ch [] w w') (r e : Nat) : RTo w rb (G, r, e) (.returned (.tuple #[.agg #[.int .i64 G.most, .slice (some ⟨rb, 0, none⟩) G.nodes.length cap], .int .i64 r, .int .i64 e])) w' :=
  ⟨rb, cap, rfl, h.ch hc (by simp), hc, .inl rfl⟩
section
set_option maxRecDepth 100000 in
set_option maxHeartbeats 2000000 in
theorem rAnd_le {w : World} {rb cap : Nat} {G : Gra} (h : RG w rb cap G) {a b : Nat} (ha : a < 2 * G.nodes.length) (hb : b < 2 * G.nodes.length) (hab : decide (b < a) = false) : Calls Try.prog 150 #[.agg #[.int .i64 G.most, .slice (some ⟨rb, 0, none⟩) G.nodes.length cap], .int .i64 a, .int .i64 b] w (RTo w rb (and G a b)) := by
  obtain ⟨hl, hp, hmo⟩ := h.len
  have hle := h.le
  have hmx := h.mx
  have hrb := h.lt
  have hs := and_sort G (a := a) (b := b) (l := a) (r := b) (by have := of_decide_eq_false hab; omega) (by have := of_decide_eq_false hab; omega)
  have hlr : a ≤ b := by have := of_decide_eq_false hab; omega
  have hNot := fun (W : World) => rNot_is W b (by omega)
  have HNOT := Lib.hid hNot; clear hNot
  have hc2 : Ch [] w ((w.alloc (.cells #[.int .i64 G.most, .slice (some ⟨rb, 0, none⟩) G.nodes.length cap] 122)).alloc (.cells #[.int .i64 G.most, .slice (some ⟨rb, 0, none⟩) G.nodes.length cap] 122)) := ((Ch.refl _ _).alloc _).alloc _
  have HC2 := Lib.hid hc2; clear hc2
  have H := Lib.hid h; clear h
  by_cases h0 : a = 0
  · have hq := hs.1 (.inl h0)
    have q0 : ((a : Int) == 0) = true := by simp [h0]
    rw [hq]
    have HF := Lib.hid (RTo.self H.out HC2.out 0 0)
    clear hs hq h0
    go_enter Try.func150, Try.ntmps150
    go_wp2_with fail
    exact bodyPost_ret (v := .tuple #[.agg #[.int .i64 G.most, .slice (some ⟨rb, 0, none⟩) G.nodes.length cap], .int .i64 0, .int .i64 0]) (by simp [results, Try.results150, go_sem]) rfl HF.out
  have q0 : ((a : Int) == 0) = false := by simp; omega
  by_cases h1 : a = neg b
  · have hq := hs.1 (.inr h1)
    have q1 : ((a : Int) == (neg b : Nat)) = true := by rw [← h1]; simp
    rw [hq]
    have HF := Lib.hid (RTo.self H.out HC2.out 0 0)
    clear hs hq h0 h1
    go_enter Try.func150, Try.ntmps150
    go_wp2_with fail
    refine (HNOT.out _).mono ?_
    rintro e w' ⟨rfl, rfl⟩
    generalize neg b = nr at *
    go_wp2_with fail
    exact bodyPost_ret (v := .tuple #[.agg #[.int .i64 G.most, .slice (some ⟨rb, 0, none⟩) G.nodes.length cap], .int .i64 0, .int .i64 0]) (by simp [results, Try.results150, go_sem]) rfl HF.out
  have q1 : ((a : Int) == (neg b : Nat)) = false := by simp; omega
  have hno : ¬ (a = 0 ∨ a = neg b) := by simp [h0, h1]
  clear h0 h1
  by_cases h2 : a = 1
  · have hq := hs.2.1 hno (.inl h2)
    have q2 : ((a : Int) == 1) = true := by simp [h2]
    rw [hq]
    have HF := Lib.hid (RTo.self H.out HC2.out b 0)
    clear hs hq h2 hno
    go_enter Try.func150, Try.ntmps150
    go_wp2_with fail
    refine (HNOT.out _).mono ?_
    rintro e w' ⟨rfl, rfl⟩
    generalize neg b = nr at *
    go_wp2_with fail
    exact bodyPost_ret (v := .tuple #[.agg #[.int .i64 G.most, .slice (some ⟨rb, 0, none⟩) G.nodes.length cap], .int .i64 b, .int .i64 0]) (by simp [results, Try.results150, go_sem]) rfl HF.out
  have q2 : ((a : Int) == 1) = false := by simp; omega
  by_cases h3 : a = b
  · have hq := hs.2.1 hno (.inr h3)
    have q3 : ((a : Int) == (b : Int)) = true := by simp [h3]
    rw [hq]
    have HF := Lib.hid (RTo.self H.out HC2.out b 0)
    clear hs hq h2 hno h3
    go_enter Try.func150, Try.ntmps150
    go_wp2_with fail
    refine (HNOT.out _).mono ?_
    rintro e w' ⟨rfl, rfl⟩
    generalize neg b = nr at *
    go_wp2_with fail
    exact bodyPost_ret (v := .tuple #[.agg #[.int .i64 G.most, .slice (some ⟨rb, 0, none⟩) G.nodes.length cap], .int .i64 b, .int .i64 0]) (by simp [results, Try.results150, go_sem]) rfl HF.out
  have q3 : ((a : Int) == (b : Int)) = false := by simp; omega
  obtain ⟨hi, hfs, hfn⟩ := hs.2.2 hno (by simp [h2, h3])
  have hok : findAnd G.nodes a b = none → G.nodes.length < G.most → Ok { G with nodes := G.nodes ++ [⟨3, a, b, 1 + max (dep G.nodes a) (dep G.nodes b)⟩] } := fun hf hm => ⟨H.out.ok.wf.and hi ha hb hf, by simp; omega, H.out.ok.most⟩
  generalize 1 + max (dep G.nodes a) (dep G.nodes b) = dd at *
  have HOK := Lib.hid hok; clear hok
  have HFS := Lib.hid hfs; clear hfs
  have HFN := Lib.hid hfn; clear hfn
  clear hs hno h2 h3 hi
  go_enter Try.func150, Try.ntmps150
  go_wp2_with fail
  refine (HNOT.out _).mono ?_
  rintro e w' ⟨rfl, rfl⟩
  generalize neg b = nr at *
  go_wp2_with fail
  refine wp_alw ?_
  intro W0 hW0
  have hc0 : Ch [] w W0 := by rw [hW0]; exact ((Ch.refl _ _).alloc _).alloc _
  have b2 : blk W0 w.heap.size [.int .i64 G.most, .slice (some ⟨rb, 0, none⟩) G.nodes.length cap] := by rw [hW0]; exact (blk.new' (w := w) [.int .i64 G.most, .slice (some ⟨rb, 0, none⟩) G.nodes.length cap] 122 rfl).alloc _
  have b4 : blk W0 (w.heap.size + 1) [.int .i64 0, .slice none 0 0] := by rw [hW0]; exact blk.new' [.int .i64 0, .slice none 0 0] 122 (by simp)
  clear hW0 HNOT HC2
  have H0 := H.out.ch hc0 (by simp)
  have y0 := b2.cell (i := 0) rfl
  have y1 := b2.cell (i := 1) rfl
  have z0 := b4.cell (i := 0) rfl
  have z1 := b4.cell (i := 1) rfl
  have f0 := b4.frozen (i := 0)
  have f1 := b4.frozen (i := 1)
  have B2 := Lib.hid b2; clear b2
  have B4 := Lib.hid b4; clear b4
  have HC0 := Lib.hid hc0; clear hc0
  have HH := Lib.hid H0; clear H0
  go_loop [9] (fun i => ∃ k : Nat, k ≤ G.nodes.length ∧ i = .int .i64 k ∧ ∀ (j : Nat) (x : Nd), j < k → G.nodes[j]? = some x → isAnd a b x = false) (fun i => G.nodes.length - (intOf i).toNat)
  case atStart => exact ⟨0, Nat.zero_le _, rfl, fun j x hj => by omega⟩
  case round =>
    obtain ⟨k, hk, rfl, hno⟩ := hrel
    have HNO := Lib.hid hno; clear hno
    by_cases hlt : k < G.nodes.length
    · obtain ⟨x, hx⟩ : ∃ x, G.nodes[k]? = some x := ⟨_, List.getElem?_eq_getElem hlt⟩
      obtain ⟨c0, c1, c2⟩ := HH.out.node hx
      have HX := Lib.hid hx; clear hx
      have hstep : isAnd a b x = false → ∀ (j : Nat) (y : Nd), j < k + 1 → G.nodes[j]? = some y → isAnd a b y = false := fun hf j y hj hy => by
        by_cases e : j = k
        · subst e; rw [HX.out] at hy; cases hy; exact hf
        · exact HNO.out j y (by omega) hy
      have HST := Lib.hid hstep; clear hstep
      by_cases hk3 : x.k = 3
      · have p0 : ((x.k : Int) == 3) = true := by simp [hk3]
        by_cases hxl : x.l = a
        · have p1 : ((x.l : Int) == (a : Int)) = true := by simp [hxl]
          by_cases hxr : x.r = b
          · have p2 : ((x.r : Int) == (b : Int)) = true := by simp [hxr]
            have hq := HFS.out k (findAnd_at HX.out (by simp [isAnd, hk3, hxl, hxr]) HNO.out)
            rw [hq]
            have HQ := Lib.hid hq
            clear hk3 hxl hxr hq
            go_wp2_with fail
            have hc9 : Ch [w.heap.size + 1] W0 ((W0.setCell ⟨w.heap.size + 1, 0, none⟩ (.int .i64 G.most)).setCell ⟨w.heap.size + 1, 1, none⟩ (.slice (some ⟨rb, 0, none⟩) G.nodes.length cap)) := ((Ch.refl _ _).setCell (by simp) _).setCell (by simp) _
            refine bodyPost_ret (v := .tuple #[.agg #[.int .i64 G.most, .slice (some ⟨rb, 0, none⟩) G.nodes.length cap], .int .i64 (2 * k), .int .i64 0]) (by simp [results, Try.results150, go_sem, z0, z1]) rfl ?_
            have := RTo.self H.out (HC0.out.trans hc9 (fun k hk => .inr (by simp at hk; omega))) (2 * k) 0
            simpa using this
          · have p2 : ((x.r : Int) == (b : Int)) = false := by simp; omega
            have hf := HST.out (by simp [isAnd, hxr])
            have HF := Lib.hid hf; clear hf HST
            clear hk3 hxl hxr
            go_wp2_with fail
            go_round
            case rel => exact ⟨k + 1, by omega, by go_num, HF.out⟩
            case measure => simp [intOf]; omega
        · have p1 : ((x.l : Int) == (a : Int)) = false := by simp; omega
          have hf := HST.out (by simp [isAnd, hxl])
          have HF := Lib.hid hf; clear hf HST
          clear hk3 hxl
          go_wp2_with fail
          go_round
          case rel => exact ⟨k + 1, by omega, by go_num, HF.out⟩
          case measure => simp [intOf]; omega
      · have p0 : ((x.k : Int) == 3) = false := by simp; omega
        have hf := HST.out (by simp [isAnd, hk3])
        have HF := Lib.hid hf; clear hf HST
        clear hk3
        go_wp2_with fail
        go_round
        case rel => exact ⟨k + 1, by omega, by go_num, HF.out⟩
        case measure => simp [intOf]; omega
    · have hkn : k = G.nodes.length := by omega
      have hnone := findAnd_no (ns := G.nodes) (l := a) (r := b) (fun j y hj hy => HNO.out j y (by omega) hy)
      have hq := HFN.out hnone
      have HQ := Lib.hid hq
      have hP : Calls Try.prog 149 #[.agg #[.int .i64 G.most, .slice (some ⟨rb, 0, none⟩) G.nodes.length cap], .agg #[.int .i64 3, .int .i64 a, .int .i64 b]] W0 (RTo W0 rb (put G ⟨3, a, b, dd⟩)) := rPut_is HH.out ⟨3, a, b, dd⟩ (HOK.out hnone)
      have HP := Lib.hid hP; clear hP
      clear hq hnone hkn
      generalize put G ⟨3, a, b, dd⟩ = RR at *
      go_wp2_with fail
      refine HP.out.mono ?_
      rintro e w5 ⟨rb', cap', rfl, hrg, hch, hfr⟩
      have y0 := hch.cell (cell_lt z0) (by simp)
      have y1 := hch.cell (cell_lt z1) (by simp)
      rw [z0] at y0
      rw [z1] at y1
      have g0 := (B4.out.ch hch (by simp)).frozen (i := 0)
      have g1 := (B4.out.ch hch (by simp)).frozen (i := 1)
      have hne : rb' ≠ w.heap.size + 1 := by
        rcases hfr with e | e
        · omega
        · have := B4.out.lt; omega
      have HRG := Lib.hid hrg; clear hrg
      have HCH := Lib.hid hch; clear hch
      clear z0 z1 f0 f1
      go_wp2_with fail
      have hc9 : Ch [w.heap.size + 1] w5 ((w5.setCell ⟨w.heap.size + 1, 0, none⟩ (.int .i64 RR.1.most)).setCell ⟨w.heap.size + 1, 1, none⟩ (.slice (some ⟨rb', 0, none⟩) RR.1.nodes.length cap')) := ((Ch.refl _ _).setCell (by simp) _).setCell (by simp) _
      refine bodyPost_ret (v := .tuple #[.agg #[.int .i64 RR.1.most, .slice (some ⟨rb', 0, none⟩) RR.1.nodes.length cap'], .int .i64 RR.2.1, .int .i64 RR.2.2]) (by simp [results, Try.results150, go_sem, y0, y1]) rfl ?_
      have hs0 := HC0.out.size
      rw [HQ.out]
      exact ⟨rb', cap', rfl, HRG.out.ch hc9 (by simpa using hne), (HC0.out.trans HCH.out (by simp)).trans hc9 (fun k hk => .inr (by simp at hk; omega)), hfr.imp id (fun e => by omega)⟩
set_option maxRecDepth 100000 in
set_option maxHeartbeats 2000000 in
theorem rAnd_gt {w : World} {rb cap : Nat} {G : Gra} (h : RG w rb cap G) {a b : Nat} (ha : a < 2 * G.nodes.length) (hb : b < 2 * G.nodes.length) (hab : decide (b < a) = true) : Calls Try.prog 150 #[.agg #[.int .i64 G.most, .slice (some ⟨rb, 0, none⟩) G.nodes.length cap], .int .i64 a, .int .i64 b] w (RTo w rb (and G a b)) := by
  obtain ⟨hl, hp, hmo⟩ := h.len
  have hle := h.le
  have hmx := h.mx
  have hrb := h.lt
  have hs := and_sort G (a := a) (b := b) (l := b) (r := a) (by have := of_decide_eq_true hab; omega) (by have := of_decide_eq_true hab; omega)
  have hlr : b ≤ a := by have := of_decide_eq_true hab; omega
  have hNot := fun (W : World) => rNot_is W a (by omega)
  have HNOT := Lib.hid hNot; clear hNot
  have hc2 : Ch [] w ((w.alloc (.cells #[.int .i64 G.most, .slice (some ⟨rb, 0, none⟩) G.nodes.length cap] 122)).alloc (.cells #[.int .i64 G.most, .slice (some ⟨rb, 0, none⟩) G.nodes.length cap] 122)) := ((Ch.refl _ _).alloc _).alloc _
  have HC2 := Lib.hid hc2; clear hc2
  have H := Lib.hid h; clear h
  by_cases h0 : b = 0
  · have hq := hs.1 (.inl h0)
    have q0 : ((b : Int) == 0) = true := by simp [h0]
    rw [hq]
    have HF := Lib.hid (RTo.self H.out HC2.out 0 0)
    clear hs hq h0
    go_enter Try.func150, Try.ntmps150
    go_wp2_with fail
    exact bodyPost_ret (v := .tuple #[.agg #[.int .i64 G.most, .slice (some ⟨rb, 0, none⟩) G.nodes.length cap], .int .i64 0, .int .i64 0]) (by simp [results, Try.results150, go_sem]) rfl HF.out
  have q0 : ((b : Int) == 0) = false := by simp; omega
  by_cases h1 : b = neg a
  · have hq := hs.1 (.inr h1)
    have q1 : ((b : Int) == (neg a : Nat)) = true := by rw [← h1]; simp
    rw [hq]
    have HF := Lib.hid (RTo.self H.out HC2.out 0 0)
    clear hs hq h0 h1
    go_enter Try.func150, Try.ntmps150
    go_wp2_with fail
    refine (HNOT.out _).mono ?_
    rintro e w' ⟨rfl, rfl⟩
    generalize neg a = nr at *
    go_wp2_with fail
    exact bodyPost_ret (v := .tuple #[.agg #[.int .i64 G.most, .slice (some ⟨rb, 0, none⟩) G.nodes.length cap], .int .i64 0, .int .i64 0]) (by simp [results, Try.results150, go_sem]) rfl HF.out
  have q1 : ((b : Int) == (neg a : Nat)) = false := by simp; omega
  have hno : ¬ (b = 0 ∨ b = neg a) := by simp [h0, h1]
  clear h0 h1
  by_cases h2 : b = 1
  · have hq := hs.2.1 hno (.inl h2)
    have q2 : ((b : Int) == 1) = true := by simp [h2]
    rw [hq]
    have HF := Lib.hid (RTo.self H.out HC2.out a 0)
    clear hs hq h2 hno
    go_enter Try.func150, Try.ntmps150
    go_wp2_with fail
    refine (HNOT.out _).mono ?_
    rintro e w' ⟨rfl, rfl⟩
    generalize neg a = nr at *
    go_wp2_with fail
    exact bodyPost_ret (v := .tuple #[.agg #[.int .i64 G.most, .slice (some ⟨rb, 0, none⟩) G.nodes.length cap], .int .i64 a, .int .i64 0]) (by simp [results, Try.results150, go_sem]) rfl HF.out
  have q2 : ((b : Int) == 1) = false := by simp; omega
  by_cases h3 : b = a
  · have hq := hs.2.1 hno (.inr h3)
    have q3 : ((b : Int) == (a : Int)) = true := by simp [h3]
    rw [hq]
    have HF := Lib.hid (RTo.self H.out HC2.out a 0)
    clear hs hq h2 hno h3
    go_enter Try.func150, Try.ntmps150
    go_wp2_with fail
    refine (HNOT.out _).mono ?_
    rintro e w' ⟨rfl, rfl⟩
    generalize neg a = nr at *
    go_wp2_with fail
    exact bodyPost_ret (v := .tuple #[.agg #[.int .i64 G.most, .slice (some ⟨rb, 0, none⟩) G.nodes.length cap], .int .i64 a, .int .i64 0]) (by simp [results, Try.results150, go_sem]) rfl HF.out
  have q3 : ((b : Int) == (a : Int)) = false := by simp; omega
  obtain ⟨hi, hfs, hfn⟩ := hs.2.2 hno (by simp [h2, h3])
  have hok : findAnd G.nodes b a = none → G.nodes.length < G.most → Ok { G with nodes := G.nodes ++ [⟨3, b, a, 1 + max (dep G.nodes a) (dep G.nodes b)⟩] } := fun hf hm => ⟨H.out.ok.wf.and hi ha hb hf, by simp; omega, H.out.ok.most⟩
  generalize 1 + max (dep G.nodes a) (dep G.nodes b) = dd at *
  have HOK := Lib.hid hok; clear hok
  have HFS := Lib.hid hfs; clear hfs
  have HFN := Lib.hid hfn; clear hfn
  clear hs hno h2 h3 hi
  go_enter Try.func150, Try.ntmps150
  go_wp2_with fail
  refine (HNOT.out _).mono ?_
  rintro e w' ⟨rfl, rfl⟩
  generalize neg a = nr at *
  go_wp2_with fail
  refine wp_alw ?_
  intro W0 hW0
  have hc0 : Ch [] w W0 := by rw [hW0]; exact ((Ch.refl _ _).alloc _).alloc _
  have b2 : blk W0 w.heap.size [.int .i64 G.most, .slice (some ⟨rb, 0, none⟩) G.nodes.length cap] := by rw [hW0]; exact (blk.new' (w := w) [.int .i64 G.most, .slice (some ⟨rb, 0, none⟩) G.nodes.length cap] 122 rfl).alloc _
  have b4 : blk W0 (w.heap.size + 1) [.int .i64 0, .slice none 0 0] := by rw [hW0]; exact blk.new' [.int .i64 0, .slice none 0 0] 122 (by simp)
  clear hW0 HNOT HC2
  have H0 := H.out.ch hc0 (by simp)
  have y0 := b2.cell (i := 0) rfl
  have y1 := b2.cell (i := 1) rfl
  have z0 := b4.cell (i := 0) rfl
  have z1 := b4.cell (i := 1) rfl
  have f0 := b4.frozen (i := 0)
  have f1 := b4.frozen (i := 1)
  have B2 := Lib.hid b2; clear b2
  have B4 := Lib.hid b4; clear b4
  have HC0 := Lib.hid hc0; clear hc0
  have HH := Lib.hid H0; clear H0
  go_loop [9] (fun i => ∃ k : Nat, k ≤ G.nodes.length ∧ i = .int .i64 k ∧ ∀ (j : Nat) (x : Nd), j < k → G.nodes[j]? = some x → isAnd b a x = false) (fun i => G.nodes.length - (intOf i).toNat)
  case atStart => exact ⟨0, Nat.zero_le _, rfl, fun j x hj => by omega⟩
  case round =>
    obtain ⟨k, hk, rfl, hno⟩ := hrel
    have HNO := Lib.hid hno; clear hno
    by_cases hlt : k < G.nodes.length
    · obtain ⟨x, hx⟩ : ∃ x, G.nodes[k]? = some x := ⟨_, List.getElem?_eq_getElem hlt⟩
      obtain ⟨c0, c1, c2⟩ := HH.out.node hx
      have HX := Lib.hid hx; clear hx
      have hstep : isAnd b a x = false → ∀ (j : Nat) (y : Nd), j < k + 1 → G.nodes[j]? = some y → isAnd b a y = false := fun hf j y hj hy => by
        by_cases e : j = k
        · subst e; rw [HX.out] at hy; cases hy; exact hf
        · exact HNO.out j y (by omega) hy
      have HST := Lib.hid hstep; clear hstep
      by_cases hk3 : x.k = 3
      · have p0 : ((x.k : Int) == 3) = true := by simp [hk3]
        by_cases hxl : x.l = b
        · have p1 : ((x.l : Int) == (b : Int)) = true := by simp [hxl]
          by_cases hxr : x.r = a
          · have p2 : ((x.r : Int) == (a : Int)) = true := by simp [hxr]
            have hq := HFS.out k (findAnd_at HX.out (by simp [isAnd, hk3, hxl, hxr]) HNO.out)
            rw [hq]
            have HQ := Lib.hid hq
            clear hk3 hxl hxr hq
            go_wp2_with fail
            have hc9 : Ch [w.heap.size + 1] W0 ((W0.setCell ⟨w.heap.size + 1, 0, none⟩ (.int .i64 G.most)).setCell ⟨w.heap.size + 1, 1, none⟩ (.slice (some ⟨rb, 0, none⟩) G.nodes.length cap)) := ((Ch.refl _ _).setCell (by simp) _).setCell (by simp) _
            refine bodyPost_ret (v := .tuple #[.agg #[.int .i64 G.most, .slice (some ⟨rb, 0, none⟩) G.nodes.length cap], .int .i64 (2 * k), .int .i64 0]) (by simp [results, Try.results150, go_sem, z0, z1]) rfl ?_
            have := RTo.self H.out (HC0.out.trans hc9 (fun k hk => .inr (by simp at hk; omega))) (2 * k) 0
            simpa using this
          · have p2 : ((x.r : Int) == (a : Int)) = false := by simp; omega
            have hf := HST.out (by simp [isAnd, hxr])
            have HF := Lib.hid hf; clear hf HST
            clear hk3 hxl hxr
            go_wp2_with fail
            go_round
            case rel => exact ⟨k + 1, by omega, by go_num, HF.out⟩
            case measure => simp [intOf]; omega
        · have p1 : ((x.l : Int) == (b : Int)) = false := by simp; omega
          have hf := HST.out (by simp [isAnd, hxl])
          have HF := Lib.hid hf; clear hf HST
          clear hk3 hxl
          go_wp2_with fail
          go_round
          case rel => exact ⟨k + 1, by omega, by go_num, HF.out⟩
          case measure => simp [intOf]; omega
      · have p0 : ((x.k : Int) == 3) = false := by simp; omega
        have hf := HST.out (by simp [isAnd, hk3])
        have HF := Lib.hid hf; clear hf HST
        clear hk3
        go_wp2_with fail
        go_round
        case rel => exact ⟨k + 1, by omega, by go_num, HF.out⟩
        case measure => simp [intOf]; omega
    · have hkn : k = G.nodes.length := by omega
      have hnone := findAnd_no (ns := G.nodes) (l := b) (r := a) (fun j y hj hy => HNO.out j y (by omega) hy)
      have hq := HFN.out hnone
      have HQ := Lib.hid hq
      have hP : Calls Try.prog 149 #[.agg #[.int .i64 G.most, .slice (some ⟨rb, 0, none⟩) G.nodes.length cap], .agg #[.int .i64 3, .int .i64 b, .int .i64 a]] W0 (RTo W0 rb (put G ⟨3, b, a, dd⟩)) := rPut_is HH.out ⟨3, b, a, dd⟩ (HOK.out hnone)
      have HP := Lib.hid hP; clear hP
      clear hq hnone hkn
      generalize put G ⟨3, b, a, dd⟩ = RR at *
      go_wp2_with fail
      refine HP.out.mono ?_
      rintro e w5 ⟨rb', cap', rfl, hrg, hch, hfr⟩
      have y0 := hch.cell (cell_lt z0) (by simp)
      have y1 := hch.cell (cell_lt z1) (by simp)
      rw [z0] at y0
      rw [z1] at y1
      have g0 := (B4.out.ch hch (by simp)).frozen (i := 0)
      have g1 := (B4.out.ch hch (by simp)).frozen (i := 1)
      have hne : rb' ≠ w.heap.size + 1 := by
        rcases hfr with e | e
        · omega
        · have := B4.out.lt; omega
      have HRG := Lib.hid hrg; clear hrg
      have HCH := Lib.hid hch; clear hch
      clear z0 z1 f0 f1
      go_wp2_with fail
      have hc9 : Ch [w.heap.size + 1] w5 ((w5.setCell ⟨w.heap.size + 1, 0, none⟩ (.int .i64 RR.1.most)).setCell ⟨w.heap.size + 1, 1, none⟩ (.slice (some ⟨rb', 0, none⟩) RR.1.nodes.length cap')) := ((Ch.refl _ _).setCell (by simp) _).setCell (by simp) _
      refine bodyPost_ret (v := .tuple #[.agg #[.int .i64 RR.1.most, .slice (some ⟨rb', 0, none⟩) RR.1.nodes.length cap'], .int .i64 RR.2.1, .int .i64 RR.2.2]) (by simp [results, Try.results150, go_sem, y0, y1]) rfl ?_
      have hs0 := HC0.out.size
      rw [HQ.out]
      exact ⟨rb', cap', rfl, HRG.out.ch hc9 (by simpa using hne), (HC0.out.trans HCH.out (by simp)).trans hc9 (fun k hk => .inr (by simp at hk; omega)), hfr.imp id (fun e => by omega)⟩
theorem rAnd_is {w : World} {rb cap : Nat} {G : Gra} (h : RG w rb cap G) {a b : Nat} (ha : a < 2 * G.nodes.length) (hb : b < 2 * G.nodes.length) : Calls Try.prog 150 #[.agg #[.int .i64 G.most, .slice (some ⟨rb, 0, none⟩) G.nodes.length cap], .int .i64 a, .int .i64 b] w (RTo w rb (and G a b)) := by
  cases hd : decide (b < a)
  · exact rAnd_le h ha hb hd
  · exact rAnd_gt h ha hb hd
end
end Go.Proofs.Ytkedpifopclipaa
namespace Go.Aig
end Go.Aig
namespace Go.Proofs.Ytkedpifopclipaa
open Go.RowKit Go.Mem Go.Aig
theorem set2_ch {w W : World} {b : Nat} {u v : Value} (h : W = (w.setCell ⟨b, 0, none⟩ u).setCell ⟨b, 1, none⟩ v) : Ch [b] w W := by rw [h]; exact ((Ch.refl [b] _).setCell (by simp) _).setCell (by simp) _
theorem rg_ne {w : World} {rb cap : Nat} {G : Gra} (h : RG w rb cap G) : rb ≠ w.heap.size := by have := h.lt; omega
section
end
end Go.Proofs.Ytkedpifopclipaa
namespace Go.Proofs.Ytkedpifopclipaa
open Go.RowKit Go.Mem Go.Aig
section
set_option maxRecDepth 100000 in
set_option maxHeartbeats 1000000 in
theorem IFint_is {w : World} {a : Option Addr} {xs : List Int} (cap fid : Nat) (caps : Array Value) (p : Int → Bool) (h : Sl w a xs) (hf : ∀ x ∈ xs, Calls Try.prog fid (#[.int .i64 x] ++ caps) w fun e w' => e = .returned (.bool (p x)) ∧ w = w')
    (hfn : Fnv fid) :
    Calls Try.prog 89 #[.slice a xs.length cap, .func (.func fid) #[] caps] w fun e w' => e = .returned (.int .i64 (idxOf p xs)) ∧ w = w' := by
  have hbd := h.bd
  have hcf : ∀ (args : Array Value) (w : World), (callFunc fid args).run Try.prog w = .ok (.enter fid args) w := hfn
  have HF := Lib.hid hf; clear hf
  have H := Lib.hid h; clear h
  go_enter Try.func89, Try.ntmps89
  go_wp2_with fail
  go_loop [8] (fun i => ∃ k : Nat, k ≤ xs.length ∧ i = .int .i64 k ∧ ∀ (j : Nat) (y : Int), j < k → xs[j]? = some y → p y = false) (fun i => xs.length - (intOf i).toNat)
  case atStart => exact ⟨0, Nat.zero_le _, rfl, fun j y hj => by omega⟩
  case round =>
    obtain ⟨k, hk, rfl, hno⟩ := hrel
    have HN := Lib.hid hno; clear hno
    by_cases hlt : k < xs.length
    · obtain ⟨b, o, rfl, hc⟩ := H.out.at (by omega)
      have hx : xs[k]? = some xs[k] := List.getElem?_eq_getElem hlt
      have c1 := hc k _ hx
      have hcall := HF.out xs[k] (List.getElem_mem hlt)
      have HX := Lib.hid hx; clear hx hc
      generalize xs[k] = x at *
      have HC := Lib.hid hcall; clear hcall
      cases hp : p x
      · rw [hp] at HC
        go_wp2_with fail
        refine HC.out.mono ?_
        rintro e w' ⟨rfl, rfl⟩
        go_wp2_with fail
        go_round
        case rel => 
          refine ⟨k + 1, by omega, by go_num, fun j y hj hy => ?_⟩
          by_cases hjk : j = k
          · subst hjk; rw [HX.out] at hy; cases hy; exact hp
          · exact HN.out j y (by omega) hy
        case measure => simp [intOf]; omega
      · rw [hp] at HC
        go_wp2_with fail
        refine HC.out.mono ?_
        rintro e w' ⟨rfl, rfl⟩
        go_wp2_with fail
        go_ret
        exact ⟨ret_int (idxOf_yes HX.out hp HN.out).symm, rfl⟩
    · go_wp2_with fail
      go_ret
      exact ⟨ret_int (idxOf_no (fun j y hy => HN.out j y (by have := (List.getElem?_eq_some_iff.1 hy).1; omega) hy)).symm, rfl⟩

end
end Go.Proofs.Ytkedpifopclipaa
namespace Go.Proofs.Ytkedpifopclipaa
open Go.RowKit Go.Mem Go.Aig
theorem slInts : SliceTy Try.prog 23 3 1 8 (.int .i64 0) := ⟨Try.underlying23, infoInt, rfl, by decide⟩
/-- a row that a call grew, and all before it -/
theorem app_step {W0 w W W4 : World} {v v' : Value} (h0 : Ch [] W0 w) (h1 : Ch [] w W) (hlo : ∀ q ∈ v.ownBlock.toList, W0.heap.size ≤ q) (hC : Ch v.ownBlock.toList W W4) (hf : ∀ k, v'.ownBlock = some k → v.ownBlock = some k ∨ W.heap.size ≤ k) :
    Ch [] W0 W4 ∧ ∀ q ∈ v'.ownBlock.toList, W0.heap.size ≤ q := by
  refine ⟨(h0.trans h1 (by simp)).trans hC (fun k hk => .inr (hlo k hk)), fun q hq => ?_⟩
  rcases hf q (by simpa using hq) with e | e
  · exact hlo q (by simpa using e)
  · have := h0.size; have := h1.size; omega
section
end
end Go.Proofs.Ytkedpifopclipaa
namespace Go.Aig
end Go.Aig
namespace Go.Proofs.Ytkedpifopclipaa
open Go.RowKit Go.Mem Go.Aig
def intCells (l : List Int) : List Value := l.map fun z => .int .i64 z
section
end
end Go.Proofs.Ytkedpifopclipaa
namespace Go.Aig
def metDown (ns : List Nd) : Nat → List Bool → List Bool
  | 0, met => met
  | n + 1, met => metDown ns n (if met.getD n false = true then stepMet ns met n else met)
theorem metDown_succ (ns : List Nd) (n : Nat) (met : List Bool) : metDown ns (n + 1) met = metDown ns n (if met.getD n false = true then stepMet ns met n else met) := rfl
theorem setMark_far {met : List Bool} {r d : Nat} (h : r / 2 < d) : (setMark met r).getD d false = met.getD d false := by
  unfold setMark
  rw [List.getD_eq_getElem?_getD, List.getD_eq_getElem?_getD, List.getElem?_set, if_neg (by omega)]
theorem stepMet_far {ns : List Nd} (hw : WF ns) {met : List Bool} {n d : Nat} (h : n ≤ d) : (stepMet ns met n).getD d false = met.getD d false := by
  unfold stepMet
  split
  · rename_i x hx
    split
    · rename_i h3
      obtain ⟨s1, s2, s3, s4, _⟩ := hw.sides hx h3
      rw [setMark_far (by omega), setMark_far (by omega)]
    · rfl
  · rfl
theorem metDown_far {ns : List Nd} (hw : WF ns) : ∀ (n : Nat) (met : List Bool) (d : Nat), n ≤ d → (metDown ns n met).getD d false = met.getD d false
  | 0, met, d, _ => rfl
  | n + 1, met, d, h => by
    unfold metDown
    rw [metDown_far hw n _ d (by omega)]
    split
    · exact stepMet_far hw (by omega)
    · rfl
theorem coneFrom_filter {ns : List Nd} (hw : WF ns) : ∀ (n : Nat) (met : List Bool), (coneFrom ns n met).reverse = (List.range n).filter fun d => (metDown ns n met).getD d false
  | 0, _ => rfl
  | n + 1, met => by
    unfold coneFrom metDown
    rw [List.range_succ, List.filter_append]
    by_cases h : met.getD n false = true
    · rw [if_pos h, if_pos h, List.reverse_cons, coneFrom_filter hw n]
      have := metDown_far hw n (stepMet ns met n) n (Nat.le_refl _)
      rw [stepMet_far hw (Nat.le_refl _), h] at this
      simp only [List.filter_cons, this, if_true, List.filter_nil]
    · rw [if_neg h, if_neg h, coneFrom_filter hw n]
      have := metDown_far hw n met n (Nat.le_refl _)
      rw [show met.getD n false = false by simpa using h] at this
      have e : List.filter (fun d => (metDown ns n met).getD d false) [n] = [] := by simp only [List.filter_cons, this, List.filter_nil]; rfl
      rw [e, List.append_nil]
theorem cone_filter {ns : List Nd} (hw : WF ns) (l : List Nat) : cone ns l = (List.range ns.length).filter fun d => (metDown ns ns.length (met0 ns.length l)).getD d false := by
  unfold cone coneDown
  exact coneFrom_filter hw _ _
end Go.Aig
namespace Go.Proofs.Ytkedpifopclipaa
open Go.RowKit Go.Mem Go.Aig
def metCells (met : List Bool) : List Value := met.map fun b => .int .i64 (if b then 1 else 0)
theorem metCells_get {met : List Bool} {i : Nat} (h : i < met.length) : (metCells met)[i]? = some (.int .i64 (if met.getD i false = true then 1 else 0)) := by
  unfold metCells
  rw [List.getElem?_map, List.getElem?_eq_getElem h, List.getD_eq_getElem?_getD, List.getElem?_eq_getElem h]
  rfl
theorem metCells_set (met : List Bool) (r : Nat) : (metCells met).set (r / 2) (.int .i64 1) = metCells (setMark met r) := by
  unfold metCells setMark
  rw [List.map_set]
  rfl
theorem run_make_ints (w : World) (n : Nat) (hn : n ≤ 65536) : (Instr.makeSlice 23 (.int .i64 n) (.int .i64 n)).run Try.prog w = .ok (.slice (some ⟨w.heap.size, 0, none⟩) n n) (w.alloc (.cells (metCells (List.replicate n false)).toArray 3)) := by
  obtain ⟨i, hi, hz, hs, hb⟩ := info_parts infoInt
  have := run_make (P := Try.prog) w 23 3 i (.int .i64 0) Try.underlying23 hi hz .i64 .i64 n n (by omega) (by omega) (by rw [hb]; omega) (by omega)
  rw [this, hs]
  have e : madeCells (Value.int .i64 0).cells ((n : Int).toNat * 1) = (metCells (List.replicate n false)).toArray := by
    apply Array.ext'
    have h := toList_madeCells_one (Value.int .i64 0) ((n : Int).toNat * 1)
    simpa [metCells, Value.cells] using h
  rw [e]; simp
section
set_option maxRecDepth 100000 in
set_option maxHeartbeats 4000000 in
theorem rCone_is {w : World} {rb cap : Nat} {G : Gra} (h : RG w rb cap G) {a : Option Addr} {l : List Nat} (n acap : Nat) (hn : l.length = n) (hs : Sl w a (l.map fun (r : Nat) => (r : Int))) (hr : ∀ r ∈ l, r < 2 * G.nodes.length) (hm : n ≤ 1000000) :
    Calls Try.prog 200 #[.agg #[.int .i64 G.most, .slice (some ⟨rb, 0, none⟩) G.nodes.length cap], .slice a n acap] w fun e w' => ∃ v, e = .returned v ∧ row w' 3 1 v (cone G.nodes l).length (refsCells (cone G.nodes l)) ∧ (∀ q ∈ v.ownBlock.toList, w.heap.size ≤ q) ∧ Ch [] w w' := by
  subst hn
  obtain ⟨hl, hp, hmo⟩ := h.len
  have hle := h.le
  have hmx := h.mx
  have hrb := h.lt
  have HWF := Lib.hid h.ok.wf
  rw [cone_filter h.ok.wf l]
  have HS := Lib.hid hs; clear hs
  have HR := Lib.hid hr; clear hr
  have H := Lib.hid h; clear h
  have hmk := run_make_ints (w.alloc (.cells #[.int .i64 G.most, .slice (some ⟨rb, 0, none⟩) G.nodes.length cap] 122)) G.nodes.length hl
  go_enter Try.func200, Try.ntmps200
  go_wp2_with fail
  clear hmk
  refine wp_alw ?_
  intro W0 hW0
  have hc0 : Ch [] w W0 := by rw [hW0]; exact ((Ch.refl _ _).alloc _).alloc _
  have b2 : blk W0 w.heap.size [.int .i64 G.most, .slice (some ⟨rb, 0, none⟩) G.nodes.length cap] := by rw [hW0]; exact (blk.new' (w := w) [.int .i64 G.most, .slice (some ⟨rb, 0, none⟩) G.nodes.length cap] 122 rfl).alloc _
  have bm : blk W0 (w.heap.size + 1) (metCells (List.replicate G.nodes.length false)) := by rw [hW0]; exact blk.new' (metCells (List.replicate G.nodes.length false)) 3 (by simp)
  clear hW0
  have hr0 := H.out.ch hc0 (by simp)
  have B2 := Lib.hid b2; clear b2
  have BM := Lib.hid bm; clear bm
  have HC0 := Lib.hid hc0; clear hc0
  have HR0 := Lib.hid hr0; clear hr0
  go_loopw [6] (fun i wr => ∃ k : Nat, k ≤ l.length ∧ i = .int .i64 k ∧ Ch [w.heap.size + 1] W0 wr ∧ blk wr (w.heap.size + 1) (metCells ((l.take k).foldl setMark (List.replicate G.nodes.length false)))) (fun i _ => l.length - (intOf i).toNat)
  case atStart => exact ⟨0, by omega, rfl, Ch.refl _ _, BM.out⟩
  case round =>
    clear BM
    obtain ⟨k, hk, rfl, hc, hbm⟩ := hrel
    by_cases hlt : k < l.length
    · obtain ⟨r, hx⟩ : ∃ r, l[k]? = some r := ⟨_, List.getElem?_eq_getElem hlt⟩
      have hrm := HR.out r (List.mem_of_getElem? hx)
      obtain ⟨xb, xo, rfl, hcl⟩ := HS.out.cells k r (by rw [List.getElem?_map, hx]; rfl)
      have hxb : xb < w.heap.size := cell_lt hcl
      have c0 := ((HC0.out.trans hc (fun k hk => .inr (by simp at hk; omega))).cell (F := []) (p := ⟨xb, xo + k, none⟩) hxb (by simp)).trans hcl
      have hfs : (l.take (k + 1)).foldl setMark (List.replicate G.nodes.length false) = setMark ((l.take k).foldl setMark (List.replicate G.nodes.length false)) r := by rw [List.take_add_one, hx]; simp
      have hml : ((l.take k).foldl setMark (List.replicate G.nodes.length false)).length = G.nodes.length := by rw [foldl_mark_len, List.length_replicate]
      have hfs' := hbm.set (i := r / 2) (.int .i64 1)
      rw [metCells_set, ← hfs] at hfs'
      have hold := hbm.cell (metCells_get (i := r / 2) (by rw [hml]; omega))
      have hfz := hbm.frozen (i := r / 2)
      have HB := Lib.hid hfs'; clear hfs' hfs hbm hml hx hcl
      generalize (if ((l.take k).foldl setMark (List.replicate G.nodes.length false)).getD (r / 2) false = true then (1 : Int) else 0) = ov at *
      have HC := Lib.hid hc; clear hc
      have j1 : (r : Int) / 2 < (G.nodes.length : Int) := by omega
      go_wp2_with fail
      go_roundw
      case rel => exact ⟨k + 1, by omega, by go_num, HC.out.setCell (by simp) _, HB.out⟩
      case measure => simp [intOf]; omega
    · have hkn : k = l.length := by omega
      rw [hkn, List.take_of_length_le (Nat.le_refl _)] at hbm
      rw [hkn]
      have hml : (l.foldl setMark (List.replicate G.nodes.length false)).length = G.nodes.length := by rw [foldl_mark_len, List.length_replicate]
      have hMM : l.foldl setMark (List.replicate G.nodes.length false) = met0 G.nodes.length l := rfl
      rw [hMM] at hbm hml
      generalize hM1 : met0 G.nodes.length l = M1 at *
      have HM1 := Lib.hid hM1; clear hM1
      have HB := Lib.hid hbm; clear hbm
      have HC := Lib.hid hc; clear hc
      have HML := Lib.hid hml; clear hml hMM hkn hlt hk
      go_wp2_with fail
      go_loopw [7] (fun i wx => ∃ j : Nat, j ≤ G.nodes.length ∧ i = .int .i64 ((j : Int) - 1) ∧ ∃ met, met.length = G.nodes.length ∧ metDown G.nodes j met = metDown G.nodes G.nodes.length M1 ∧ Ch [w.heap.size + 1] W0 wx ∧ blk wx (w.heap.size + 1) (metCells met)) (fun i _ => (intOf i + 1).toNat)
      case atStart => exact ⟨G.nodes.length, Nat.le_refl _, rfl, M1, HML.out, rfl, HC.out, HB.out⟩
      case round =>
        clear HB HC HML
        obtain ⟨j, hj, rfl, met, hml, hmd, hc, hbm⟩ := hrel
        by_cases hj1 : 1 ≤ j
        · obtain ⟨i, rfl⟩ : ∃ i, j = i + 1 := ⟨j - 1, by omega⟩
          clear hj1
          rw [show ((i + 1 : Nat) : Int) - 1 = (i : Int) by omega]
          obtain ⟨x, hx⟩ : ∃ x, G.nodes[i]? = some x := ⟨_, List.getElem?_eq_getElem (by omega)⟩
          obtain ⟨c0, c1, c2⟩ := (HR0.out.ch hc (by simp; omega)).node hx
          have y1 := (B2.out.ch hc (by simp)).cell (i := 1) rfl
          have m0 := hbm.cell (metCells_get (i := i) (by rw [hml]; omega))
          rw [metDown_succ] at hmd
          have HC := Lib.hid hc; clear hc
          have hbn := hbm.lt
          by_cases hmi : met.getD i false = true
          · rw [if_pos hmi] at m0 hmd
            clear hmi
            by_cases h3 : x.k = 3
            · obtain ⟨s1, s2, s3, s4, s5⟩ := HWF.out.sides hx h3
              have q : ((x.k : Int) == 3) = true := by simp [h3]
              have hst : stepMet G.nodes met i = setMark (setMark met x.l) x.r := by unfold stepMet; rw [hx]; simp [h3]
              rw [hst] at hmd
              have HMD := Lib.hid hmd; clear hmd hst s5 h3 hx
              have hb2 := hbm.set (i := x.l / 2) (.int .i64 1)
              rw [metCells_set] at hb2
              have hb3 := hb2.set (i := x.r / 2) (.int .i64 1)
              rw [metCells_set] at hb3
              replace hb3 := hb3.alloc (.cells #[.int .i64 x.k, .int .i64 x.l, .int .i64 x.r] 229)
              have o1 := hbm.cell (metCells_get (i := x.l / 2) (by rw [hml]; omega))
              have o2 := hbm.cell (metCells_get (i := x.r / 2) (by rw [hml]; omega))
              have z1 := hbm.frozen (i := x.l / 2)
              have z2 := hbm.frozen (i := x.r / 2)
              have hml3 : (setMark (setMark met x.l) x.r).length = G.nodes.length := by rw [setMark_len, setMark_len, hml]
              have HB3 := Lib.hid hb3; clear hb3 hb2 hbm
              have HML := Lib.hid hml3; clear hml3 hml
              generalize (if met.getD (x.l / 2) false = true then (1 : Int) else 0) = ov1 at *
              generalize (if met.getD (x.r / 2) false = true then (1 : Int) else 0) = ov2 at *
              have j1 : (x.l : Int) / 2 < (G.nodes.length : Int) := by omega
              have j2 : (x.r : Int) / 2 < (G.nodes.length : Int) := by omega
              go_wp2_with fail
              go_roundw
              case rel => exact ⟨i, by omega, rfl, _, HML.out, HMD.out, (((HC.out.setCell (by simp) _).setCell (by simp) _).alloc _), HB3.out⟩
              case measure => simp [intOf]
            · have q : ((x.k : Int) == 3) = false := by simp; omega
              have hst : stepMet G.nodes met i = met := by unfold stepMet; rw [hx]; simp [h3]
              rw [hst] at hmd
              have HMD := Lib.hid hmd; clear hmd hst h3 hx
              have HML := Lib.hid hml; clear hml
              have HB := Lib.hid hbm; clear hbm
              go_wp2_with fail
              go_roundw
              case rel => exact ⟨i, by omega, rfl, _, HML.out, HMD.out, HC.out.alloc _, HB.out.alloc _⟩
              case measure => simp [intOf]
          · rw [if_neg hmi] at m0 hmd
            clear hmi hx
            have HMD := Lib.hid hmd; clear hmd
            have HML := Lib.hid hml; clear hml
            have HB := Lib.hid hbm; clear hbm
            go_wp2_with fail
            go_roundw
            case rel => exact ⟨i, by omega, rfl, _, HML.out, HMD.out, HC.out.alloc _, HB.out.alloc _⟩
            case measure => simp [intOf]
        · have hj0 : j = 0 := by omega
          rw [hj0] at hmd
          rw [hj0, show ((0 : Nat) : Int) - 1 = -1 from rfl]
          clear hj0 hj1 hj
          change met = _ at hmd
          have HB := Lib.hid hbm; clear hbm
          have HC := Lib.hid hc; clear hc
          have HML := Lib.hid hml; clear hml
          have HMD := Lib.hid hmd; clear hmd
          have hcs := HC.out.size
          obtain ⟨wx, rfl⟩ : ∃ wx : World, wx = wr := ⟨_, rfl⟩
          go_wp2_with fail
          go_loopw [9, 10] (fun o i wr => ∃ k : Nat, k ≤ G.nodes.length ∧ i = .int .i64 k ∧ Ch [] wx wr ∧ row wr 3 1 o ((List.range k).filter fun d => met.getD d false).length (refsCells ((List.range k).filter fun d => met.getD d false)) ∧ ∀ q ∈ o.ownBlock.toList, wx.heap.size ≤ q) (fun _ i _ => G.nodes.length - (intOf i).toNat)
          case atStart => exact ⟨0, by omega, rfl, Ch.refl _ _, ⟨rfl, .inl ⟨rfl, rfl⟩⟩, by simp⟩
          case round =>
            obtain ⟨k, hk, rfl, hc, hrow, hlo⟩ := hrel
            obtain ⟨oa, oc, rfl⟩ := row.shape hrow
            by_cases hlt : k < G.nodes.length
            · have m0 := (HB.out.ch hc (by simp)).cell (metCells_get (i := k) (by rw [HML.out]; omega))
              have hil : ((List.range k).filter fun d => met.getD d false).length ≤ k := by
                have := List.length_filter_le (fun d => met.getD d false) (List.range k)
                simpa using this
              have hsu : (List.range (k + 1)).filter (fun d => met.getD d false) = (List.range k).filter (fun d => met.getD d false) ++ (if met.getD k false = true then [k] else []) := by
                rw [List.range_succ, List.filter_append]
                congr 1
                by_cases h : met.getD k false = true
                · simp only [List.filter_cons, h, if_true, List.filter_nil]
                · rw [if_neg h]; simp only [List.filter_cons, List.filter_nil]; simp at h; simp [h]
              have HSU := Lib.hid hsu; clear hsu
              have HLO := Lib.hid hlo; clear hlo
              have HC5 := Lib.hid hc; clear hc
              by_cases hmi : met.getD k false = true
              · rw [if_pos hmi] at m0
                have hsu := HSU.out
                rw [if_pos hmi] at hsu
                have HSU2 := Lib.hid hsu; clear hsu HSU hmi
                have hcA : Ch [] wr (wr.alloc (.cells #[.int .i64 k] 3)) := (Ch.refl _ _).alloc _
                have hrA := hrow.ch hcA (by simp)
                have hbA : blk (wr.alloc (.cells #[.int .i64 k] 3)) wr.heap.size [.int .i64 k] := blk.new' _ _ rfl
                have HRA := Lib.hid hrA; clear hrA hrow
                have HBA := Lib.hid hbA; clear hbA
                have HCA := Lib.hid hcA; clear hcA
                generalize (List.range k).filter (fun d => met.getD d false) = L at *
                go_wp2_with (at_builtin; go_loud (refine wpList_append_row slInts rfl _ _ rfl (v := .slice oa L.length oc) (n := L.length) (xs := refsCells L) rfl HRA.out (ad := ⟨wr.heap.size, 0, none⟩) (m := 1) (c := 1) (news := [.int .i64 k]) rfl rfl (news_blk HBA.out) (by simp [Value.oneCell']) (by omega) (by omega) ?_; intro v' w4 hown4 hC4 hf4; have HO4 := Lib.hid hown4; clear hown4; have HC4 := Lib.hid hC4; clear hC4; have HF4 := Lib.hid hf4; clear hf4))
                go_roundw
                case rel =>
                  obtain ⟨q1, q2⟩ := app_step HC5.out HCA.out HLO.out HC4.out HF4.out
                  refine ⟨k + 1, by omega, by go_num, q1, ?_, q2⟩
                  have := HO4.out
                  rw [HSU2.out]
                  simpa [refsCells] using this
                case measure => simp [intOf]; omega
              · rw [if_neg hmi] at m0
                have hsu := HSU.out
                rw [if_neg hmi, List.append_nil] at hsu
                have HSU2 := Lib.hid hsu; clear hsu HSU hmi
                have HROW := Lib.hid hrow; clear hrow
                go_wp2_with fail
                go_roundw
                case rel => exact ⟨k + 1, by omega, by go_num, HC5.out, by rw [HSU2.out]; exact HROW.out, HLO.out⟩
                case measure => simp [intOf]; omega
            · have hkn : k = G.nodes.length := by omega
              rw [hkn] at hrow hlo
              rw [hkn]
              have HROW := Lib.hid hrow; clear hrow
              have HLO := Lib.hid hlo; clear hlo
              have HC5 := Lib.hid hc; clear hc hkn
              go_wp2_with fail
              go_ret
              have hs0 := HC0.out.size
              rw [HM1.out, ← HMD.out]
              refine ⟨.slice oa ((List.range G.nodes.length).filter fun d => met.getD d false).length oc, rfl, HROW.out, fun q hq => by have := HLO.out q hq; omega, (HC0.out.trans HC.out (fun k hk => .inr (by simp at hk; omega))).trans HC5.out (by simp)⟩
end
end Go.Proofs.Ytkedpifopclipaa
namespace Go.Proofs.Ytkedpifopclipaa
open Go.RowKit Go.Mem Go.Aig
section
end
theorem Sl.of_ints {w : World} {e : TypeId} {a : Option Addr} {n cap : Nat} {l : List Int} (h : row w e 1 (.slice a n cap) n (intCells l)) (hn : n ≤ 1000000) : Sl w a l := by
  have hlen : l.length = n := by have := h.1; simpa [intCells] using this
  refine ⟨fun i x hx => ?_, by omega⟩
  obtain ⟨gb, go, hge, gc⟩ := (row.sv h rfl hn).cells i (.int .i64 x) (by simp [intCells, hx])
  exact ⟨gb, go, hge, gc⟩
end Go.Proofs.Ytkedpifopclipaa
namespace Go.Aig
theorem and_err {G : Gra} {a b : Nat} (h : (and G a b).2.2 ≠ 0) : and G a b = (G, 0, (and G a b).2.2) := by
  unfold and at h ⊢
  split
  · rename_i r hi; rw [hi] at h; exact absurd rfl h
  · rename_i l r hi
    rw [hi] at h
    dsimp only at h
    cases hf : findAnd G.nodes l r with
    | some n => rw [hf] at h; exact absurd rfl h
    | none =>
      rw [hf] at h
      dsimp only at h ⊢
      unfold put at h ⊢
      split
      · rfl
      · rename_i hm; rw [if_neg hm] at h; exact absurd rfl h
theorem any_no {ns : List Nd} {l : List Int} (h : ∀ x ∈ l, right ns x = true) : (l.any fun r => !right ns r) = false := by
  rw [List.any_eq_false]
  intro x hx
  rw [h x hx]; simp
theorem whole_ok {G : Gra} {l : List Int} (h : ∀ x ∈ l, right G.nodes x = true) (f : Mk → Mk × Nat) : whole G l f = if (f (G, 0)).1.2 ≠ 0 then (G, 0, (f (G, 0)).1.2) else ((f (G, 0)).1.1, (f (G, 0)).2, 0) := by
  unfold whole
  rw [any_no h, if_neg (by simp)]
theorem mand_zero (G : Gra) (a b : Nat) : mand (G, 0) a b = (((and G a b).1, (and G a b).2.2), (and G a b).2.1) := by unfold mand; rw [if_neg (by simp)]
theorem whole_and {G : Gra} {l : List Int} (h : ∀ x ∈ l, right G.nodes x = true) (a b : Nat) : whole G l (fun s => mand s a b) = and G a b := by
  rw [whole_ok h, mand_zero]
  dsimp only
  split
  · rename_i he; exact (and_err he).symm
  · rename_i he
    simp only [ne_eq, Decidable.not_not] at he
    rw [← he]
theorem right_nat {ns : List Nd} {x : Int} (h : right ns x = true) : ∃ r : Nat, x = r ∧ r < 2 * ns.length := by
  unfold right at h
  have := of_decide_eq_true h
  exact ⟨x.toNat, by omega, by omega⟩
end Go.Aig
namespace Go.Proofs.Ytkedpifopclipaa
open Go.RowKit Go.Mem Go.Aig
section
end
end Go.Proofs.Ytkedpifopclipaa
namespace Go.Proofs.Ytkedpifopclipaa
open Go.RowKit Go.Mem Go.Aig
theorem doAnd_r {G : Gra} {a b : Nat} (ha : a < 2 * G.nodes.length) (hb : b < 2 * G.nodes.length) : doAnd G a b = and G a b := by
  unfold doAnd
  rw [whole_and (by simp [right]; omega)]; rfl
section
variable {w : World} {g m : Nat}
end
end Go.Proofs.Ytkedpifopclipaa
namespace Go
open Go.RowKit Go.Mem
section
variable {F : Fence} {n : Nat} {P : Program}
def Books (B : Nat) (W W' : World) : Prop := W'.heap[B]? = W.heap[B]? ∧ W'.heap[B + 1]? = W.heap[B + 1]?
theorem Books.of_ch {B : Nat} {L : List Nat} {W W' : World} (hc : Ch L W W') (hB : B + 2 ≤ W.heap.size) (h : ∀ k ∈ L, k ≠ B ∧ k ≠ B + 1) : Books B W W' :=
  ⟨hc.block B (by omega) (fun hk => (h B hk).1 rfl), hc.block (B + 1) (by omega) (fun hk => (h (B + 1) hk).2 rfl)⟩
theorem ch_put {A : World} {l : Nat} {o' : Obj} {L : List Nat} (hl : l ∈ L) : Ch L A (A.putObj l o') := ⟨rfl, rfl, rfl, by simp, fun k _ hn => World.putObj_heap_other (fun e => by subst e; exact hn hl)⟩

end
end Go
namespace Go.Proofs.Ytkedpifopclipaa
open Go.RowKit Go.Mem Go.Aig
/-- the block of a slice, if it has one -/
def ablk (a : Option Addr) : List Nat := match a with | some p => [p.block] | none => []
theorem keep_cell {w W : World} {k o : Nat} (h : W.heap[k]? = w.heap[k]?) {v : Value} (hv : w.cell? ⟨k, o, none⟩ = some v) : W.cell? ⟨k, o, none⟩ = some v := (World.cell?_of_block h).trans hv
theorem Sl.keep {w W : World} {a : Option Addr} {l : List Int} (h : Sl w a l) (hk : ∀ k ∈ ablk a, W.heap[k]? = w.heap[k]?) : Sl W a l :=
  ⟨fun i x hx => by
    obtain ⟨b, o, rfl, hc⟩ := h.cells i x hx
    exact ⟨b, o, rfl, keep_cell (hk b (by simp [ablk])) hc⟩, h.bd⟩
end Go.Proofs.Ytkedpifopclipaa
namespace Go.Aig
def rightW (n : Int) : Bool := decide (1 ≤ n) && decide (n ≤ 17)
def badIn (G : Gra) (x : List Int) : Bool := x.any fun r => !right G.nodes r
def badAs (n0 : Nat) (x : List Int) : Bool := !rightW x.length || (x.length : Int) != n0
/-- what check finds wrong -/
def chk (G : Gra) (ws : List (List Int)) : Nat :=
  if ws.any (badAs (ws.headD []).length) then 230 else if ws.any (badIn G) then 200 else 0
end Go.Aig
namespace Go.Proofs.Ytkedpifopclipaa
open Go.RowKit Go.Mem Go.Aig
section
variable {w : World} {g : Nat} {G : Gra} {F : List Nat}
end
end Go.Proofs.Ytkedpifopclipaa
namespace Go.Aig
end Go.Aig
namespace Go.Proofs.Ytkedpifopclipaa
open Go.RowKit Go.Mem Go.Aig
section
variable {w : World} {g m : Nat} {G : Gra} {X F : List Nat} {B ob mb n : Nat} {R : Mk} {out : List Nat} {A A' : World} {v : Value} {P : Mk} {l F' : List Nat}
end
section
variable {w : World} {g m : Nat} {G : Gra} {X F : List Nat} {B ob mb : Nat} {R : Mk} {out : Nat} {A A' : World} {P : Mk} {r : Nat} {F' : List Nat}
end
theorem wp_named {P : Program} {c : Code} {Q : Exit → Act → World → Prop} {a : Act} {w : World} (h : ∀ W, W = w → c.wp P Q a W) : c.wp P Q a w := h w rfl
end Go.Proofs.Ytkedpifopclipaa
namespace Go.Proofs.Ytkedpifopclipaa
open Go.RowKit Go.Mem Go.Aig
attribute [local go_sem] Oper.semAt_some
section
variable {w : World} {g m : Nat} {G : Gra} {F : List Nat}
end
end Go.Proofs.Ytkedpifopclipaa
namespace Go.Aig
end Go.Aig
namespace Go.Proofs.Ytkedpifopclipaa
open Go.RowKit Go.Mem Go.Aig
attribute [local go_sem] Oper.semAt_some
theorem wpIn_named {F : Fence} {n : Nat} {P : Program} {c : Code} {Q : Exit → Act → World → Prop} {a : Act} {w : World} (h : ∀ W, W = w → c.wpIn F n P Q a W) : c.wpIn F n P Q a w := h w rfl
section
variable {w : World} {g m : Nat} {G : Gra} {F : List Nat}
end
end Go.Proofs.Ytkedpifopclipaa
namespace Go.Aig
end Go.Aig
namespace Go.Proofs.Ytkedpifopclipaa
open Go.RowKit Go.Mem Go.Aig
attribute [local go_sem] Oper.semAt_some
section
variable {w : World} {g m : Nat} {G : Gra} {F : List Nat}
end
end Go.Proofs.Ytkedpifopclipaa
namespace Go.Aig
end Go.Aig
namespace Go.Proofs.Ytkedpifopclipaa
open Go.RowKit Go.Mem Go.Aig
attribute [local go_sem] Oper.semAt_some
section
variable {w : World} {g m : Nat} {G : Gra} {F : List Nat}
end
end Go.Proofs.Ytkedpifopclipaa
namespace Go.Aig
def nats (l : List Int) : List Nat := l.map Int.toNat
@[simp] theorem nats_len (l : List Int) : (nats l).length = l.length := by simp [nats]
end Go.Aig
namespace Go.Proofs.Ytkedpifopclipaa
open Go.RowKit Go.Mem Go.Aig
theorem calls_named {P : Program} {f : FuncId} {args : Array Value} {w : World} {R : Ending → World → Prop} (h : ∀ W, W = w → Calls P f args W R) : Calls P f args w R := h w rfl
section
variable {w : World} {g : Nat} {G : Gra} {F : List Nat}
end
end Go.Proofs.Ytkedpifopclipaa
namespace Go.Aig
def natInts (l : List Nat) : List Int := l.map fun (r : Nat) => (r : Int)
@[simp] theorem natInts_len (l : List Nat) : (natInts l).length = l.length := by simp [natInts]
end Go.Aig
namespace Go.Proofs.Ytkedpifopclipaa
open Go.RowKit Go.Mem Go.Aig
theorem refs_natInts (l : List Nat) : refsCells l = intCells (natInts l) := by simp [refsCells, intCells, natInts]
/-- where a walk began, and blocks that are kept as they are -/
structure Base where
  w : World
  K : List (Nat × List Value) := []
instance : Coe World Base := ⟨fun w => ⟨w, []⟩⟩
section
variable {w0 : Base} {w : World} {g : Nat} {G : Gra} {F : List Nat} {L : List (Value × List Int)}
end
end Go.Proofs.Ytkedpifopclipaa
namespace Go.Aig
/-- a graph of inputs alone -/
def gIn (most n : Nat) : Gra := ⟨most, ⟨1, 0, 0, 0⟩ :: List.replicate n ⟨2, 0, 0, 0⟩⟩
/-- the references of n inputs behind s others -/
def rIn (s n : Nat) : List Nat := (List.range n).map fun i => 2 * (s + i + 1)
@[simp] theorem rIn_len (s n : Nat) : (rIn s n).length = n := by simp [rIn]
end Go.Aig
namespace Go.Proofs.Ytkedpifopclipaa
open Go.RowKit Go.Mem Go.Aig
end Go.Proofs.Ytkedpifopclipaa
namespace Go.Aig
end Go.Aig
namespace Go.Proofs.Ytkedpifopclipaa
open Go.RowKit Go.Mem Go.Aig
theorem eqSliceNilB (w : World) (a : Option Addr) (n c : Nat) : (binOp .eql 56 (.slice a n c) (.slice none 0 0)).run Try.prog w = .ok (.bool a.isNone) w := by
  have h : Try.prog.underlying 56 = some (.slice 4) := Try.underlying56
  simp only [binOp]
  simp [run_equal_slice_nil w _ _ a n c h]
attribute [local go_sem] eqSliceNilB
section
variable {w : World}
end
end Go.Proofs.Ytkedpifopclipaa
namespace Go.Proofs.Ytkedpifopclipaa
open Go.ChangeShapes Go.WideShapes Go.ChangeAt Go.RowKit Go.Mem Go.Aig Go.Deep
theorem own : ownKnob Try.prog.godebug = none := by kernel_rfl
theorem laidOut : laidOutB Try.prog = true := by kernel_rfl
theorem list_of {α : Type} (P : Nat → α → Prop) : ∀ (n : Nat), (∀ i, i < n → ∃ x, P i x) → ∃ l : List α, l.length = n ∧ ∀ i x, l[i]? = some x → P i x
  | 0, _ => ⟨[], rfl, by simp⟩
  | n + 1, h => by
    obtain ⟨l, hl, hp⟩ := list_of P n (fun i hi => h i (by omega))
    obtain ⟨x, hx⟩ := h n (by omega)
    refine ⟨l ++ [x], by simp [hl], fun i y hy => ?_⟩
    by_cases hi : i < n
    · rw [List.getElem?_append_left (by omega)] at hy; exact hp i y hy
    · have hlt := (List.getElem?_eq_some_iff.1 hy).1
      simp at hlt
      have : i = n := by omega
      subst this
      rw [List.getElem?_append_right (by omega)] at hy
      simp [hl] at hy
      subst hy; exact hx
section
variable {H : Type} {enc : TypeId × Value → H} {W : World}
theorem wf_i64 {z : Int} (h : (Lit.int .i64 z).wf = true) : -9223372036854775808 ≤ z ∧ z ≤ 9223372036854775807 := by
  simpa [Lit.wf, IntKind.min, IntKind.max, IntKind.signed, IntKind.bits] using h
/-- a slice of numbers that came in -/
structure IntS (w : World) (a : Option Addr) (n cap : Nat) (l : List Int) : Prop where
  sl : Sl w a l
  len : l.length = n
  bd : ∀ r ∈ l, -9223372036854775808 ≤ r ∧ r ≤ 9223372036854775807
  le : n ≤ cap
  max : cap ≤ 9223372036854775807
set_option maxRecDepth 100000 in
theorem ints_open {fuel : Nat} {c : Value} {x : DataW H × List MemPlace} (hf : DataW.trod enc Try.prog W 0 (fun _ => true) true fuel 23 [c] = some x) :
    ∃ (a : Option Addr) (len cap : Nat) (L : List Int), c = .slice a len cap ∧ Sl W a L ∧ L.length = len ∧ (∀ z ∈ L, -9223372036854775808 ≤ z ∧ z ≤ 9223372036854775807) ∧ len ≤ cap ∧ cap ≤ 9223372036854775807 := by
  rcases open_slice Try.underlying23 hf with ⟨hcs, _⟩ | ⟨y, l, cp, m, n, D, Pl, hcs, _, hl, hm, hmm, _, hi⟩
  · simp at hcs
    subst hcs
    exact ⟨none, 0, 0, [], rfl, ⟨by simp, by simp⟩, rfl, by simp, by omega, by omega⟩
  · simp at hcs
    subst hcs
    have hm' : cp ≤ 9223372036854775807 := by unfold maxLen at hm; exact hm
    have hC : Try.prog.cellsOf 3 = 1 := by kernel_rfl
    have hspot : 0 < l → y.spot = none := fun h0 => by
      obtain ⟨cs', hc, _⟩ := hi 0 (by rw [hmm]; simp; omega)
      rw [hC] at hc
      obtain ⟨_, hcl, hat⟩ := World.cells?_some hc
      have e0 := hat 0 (by omega)
      rw [List.getElem?_eq_getElem (by omega)] at e0
      simpa [Addr.add] using World.cell?_spot e0
    have key : ∀ i, i < l → ∃ z : Int, (∃ b o, (some y : Option Addr) = some ⟨b, o, none⟩ ∧ W.cell? ⟨b, o + i, none⟩ = some (.int .i64 z)) ∧ (-9223372036854775808 ≤ z ∧ z ≤ 9223372036854775807) := by
      intro i hlt
      obtain ⟨cs', hc, ht⟩ := hi i (by rw [hmm]; simp; omega)
      rw [hC] at hc
      obtain ⟨_, hcl, hat⟩ := World.cells?_some hc
      match cs', hcl with
      | [c0], _ =>
        obtain ⟨z, hz, _, hw⟩ := DataW.trod_int Try.underlying3 ht
        have hb := wf_i64 hw
        simp at hz
        subst hz
        have e0 := hat 0 (by omega)
        simp at e0
        obtain ⟨b, o, spot⟩ := y
        have hsp : spot = none := hspot (by omega)
        subst hsp
        simp only [Addr.add_lit] at e0
        exact ⟨z, ⟨b, o, rfl, by simpa using e0⟩, hb⟩
    obtain ⟨ll, hll, hp⟩ := list_of _ l key
    refine ⟨some y, l, cp, ll, rfl, ⟨fun i s hs => (hp i s hs).1, by omega⟩, hll, fun s hs => ?_, hl, hm'⟩
    obtain ⟨i, hi2⟩ := List.mem_iff_getElem?.1 hs
    exact (hp i s hi2).2
theorem intS_open {a : Option Addr} {len cap : Nat} {d : DataW H} {p : List MemPlace} (h : DataW.Trod enc Try.prog W 0 (fun _ => true) true 23 (.slice a len cap) d p) : ∃ l, IntS W a len cap l := by
  obtain ⟨fuel, hf⟩ := h
  obtain ⟨a', len', cap', L, e, h1, h2, h3, h4, h5⟩ := ints_open (c := .slice a len cap) (by simpa [Value.cells] using hf)
  cases e
  exact ⟨L, h1, h2, h3, h4, h5⟩
end
end Go.Proofs.Ytkedpifopclipaa
namespace Go.Aig
/-- the word of a reference, over the words of the nodes; M has all bits -/
def wref (M : Nat) (vs : List Nat) (r : Nat) : Nat := if r % 2 = 1 then M ^^^ vs.getD (r / 2) 0 else vs.getD (r / 2) 0
def wvStep (M : Nat) (s : List Nat × List Nat) (x : Nd) : List Nat × List Nat :=
  if x.k = 3 then (s.1 ++ [wref M s.1 x.l &&& wref M s.1 x.r], s.2) else if x.k = 2 then (s.1 ++ [s.2.headD 0], s.2.tail) else (s.1 ++ [0], s.2)
end Go.Aig
namespace Go.Proofs.Ytkedpifopclipaa
open Go.RowKit Go.Mem Go.Aig
/-- the words of the four inputs -/
def inWords : List Nat := [43690, 52428, 61680, 65280]
/-- the word of a reference, over the words of the nodes -/
def wv (vs : List Nat) (r : Nat) : Nat := if r % 2 = 1 then vs.getD (r / 2) 0 ^^^ 65535 else vs.getD (r / 2) 0
end Go.Proofs.Ytkedpifopclipaa
namespace Go.Aig
/-- how many bits of a word of 64 are 1 -/
def cnt (w : Nat) : Nat := ((List.range 64).filter fun k => w.testBit k).length
end Go.Aig
namespace Go.Proofs.Ytkedpifopclipaa
open Go.RowKit Go.Mem Go.Aig
theorem row.capLe' {w : World} {e : TypeId} {size : Nat} {a : Option Addr} {n c m : Nat} {xs : List Value} (h : row w e size (.slice a n c) m xs) : m ≤ c ∧ c ≤ 9223372036854775807 := by
  rcases h.2 with ⟨e1, h0⟩ | ⟨g', cap', cur, e1, _, _, h1, h2, _⟩
  · cases e1; omega
  · cases e1; exact ⟨h1, by unfold maxLen at h2; exact h2⟩
section
variable {w : World} {g : Nat} {G : Gra} {F : List Nat}
end
end Go.Proofs.Ytkedpifopclipaa
namespace Go.Aig
end Go.Aig
namespace Go.Proofs.Ytkedpifopclipaa
open Go.RowKit Go.Mem Go.Aig
theorem run_storeFunc {P : Program} {w : World} {a : Addr} {m : Mode} (f : Fn) (b c : Array Value) : (store a (.func f b c) m).run P w = stored P w a (.func f b c) m := run_store P w a _ m rfl
attribute [local go_sem] run_storeFunc
section
variable {w0 w1 w : World} {F0 : List Nat} {g : Nat} {G : Gra} {F : List Nat} {L : List (Value × List Int)} {bok bout bfn : Nat} {ok : Bool} {oa : Option Addr} {m oc : Nat} {vs : List Value}
end
end Go.Proofs.Ytkedpifopclipaa
namespace Go.Proofs.Ytkedpifopclipaa
open Go.RowKit Go.Mem Go.Aig
theorem _root_.Go.Mem.blk.keep {w W : World} {b : Nat} {xs : List Value} (h : blk w b xs) (hk : W.heap[b]? = w.heap[b]?) : blk W b xs := by
  obtain ⟨T, h⟩ := h
  exact ⟨T, hk.trans h⟩
theorem _root_.Go.Mem.row.keep {w W : World} {e : TypeId} {size : Nat} {v : Value} {n : Nat} {xs : List Value} (h : row w e size v n xs) (hk : ∀ k, v.ownBlock = some k → W.heap[k]? = w.heap[k]?) : row W e size v n xs := by
  refine ⟨h.1, ?_⟩
  rcases h.2 with hn' | ⟨g, cap, cur, rfl, hb, hgg, rest⟩
  · exact .inl hn'
  · exact .inr ⟨g, cap, cur, rfl, hb, (hk g rfl).trans hgg, rest⟩
theorem GIn.keep {w W : World} {g : Nat} {G : Gra} {F : List Nat} (h : GIn w g G F) (hk : ∀ k ∈ F, W.heap[k]? = w.heap[k]?) : GIn W g G F := by
  obtain ⟨nb, ncap, iv, mb, h, rfl⟩ := h
  refine ⟨nb, ncap, iv, mb, ⟨h.st.keep (hk g (by simp [fp])), h.nodes.keep (fun k hk' => hk k (by simp [Value.ownBlock] at hk'; simp [fp, hk'])), ?_, h.ins.keep (fun k hk' => hk k (by simp [fp, hk'])), h.gm, h.gn, h.mn, h.gi, h.ni, h.mi, h.ok⟩, rfl⟩
  obtain ⟨es, clock, hm, ho⟩ := h.mp
  exact ⟨es, clock, (hk mb (by simp [fp])).trans hm, ho⟩
end Go.Proofs.Ytkedpifopclipaa
namespace Go.Proofs.Ytkedpifopclipaa
open Go.RowKit Go.Mem Go.Aig
attribute [local go_sem] Oper.semAt_some
section
variable {w : World} {g : Nat} {G : Gra} {F : List Nat}
end
end Go.Proofs.Ytkedpifopclipaa
namespace Go.Aig
end Go.Aig
namespace Go.Proofs.Ytkedpifopclipaa
open Go.RowKit Go.Mem Go.Aig
attribute [local go_sem] Oper.semAt_some
section
variable {w : World} {g : Nat} {G : Gra} {F : List Nat}
end
end Go.Proofs.Ytkedpifopclipaa
namespace Go.Aig
end Go.Aig
namespace Go.Proofs.Ytkedpifopclipaa
open Go.RowKit Go.Mem Go.Aig
attribute [local go_sem] Oper.semAt_some
section
variable {w : World} {g : Nat} {G : Gra} {F : List Nat}
end
end Go.Proofs.Ytkedpifopclipaa
namespace Go.Proofs.Ytkedpifopclipaa
open Go.Aig
/-- the bits of the inputs, for the assignment j -/
def envOf (j k : Nat) : Bool := (inWords.getD k 0).testBit j
end Go.Proofs.Ytkedpifopclipaa
namespace Go.Proofs.Ytkedpifopclipaa
open Go.Aig
def wvStep (s : List Nat × Nat) (x : Nd) : List Nat × Nat :=
  if x.k = 3 then (s.1 ++ [wv s.1 x.l &&& wv s.1 x.r], s.2) else if x.k = 2 then (s.1 ++ [inWords.getD s.2 0], s.2 + 1) else (s.1 ++ [0], s.2)
def wvs (ns : List Nd) : List Nat × Nat := ns.foldl wvStep ([], 0)
/-- the words go with the bits -/
structure WB (ns : List Nd) : Prop where
  len : (wvs ns).1.length = ns.length
  cnt : ∀ env, (wvs ns).2 = (nv env ns).2
  lt : ∀ x ∈ (wvs ns).1, x < 65536
  bit : ∀ j, j < 16 → ∀ i, ((wvs ns).1.getD i 0).testBit j = (nv (envOf j) ns).1.getD i false
end Go.Proofs.Ytkedpifopclipaa
namespace Go.Proofs.Ytkedpifopclipaa
open Go.Aig
theorem getD_set {l : List Bool} {i j : Nat} : (l.set i true).getD j false = true ↔ (l.getD j false = true ∨ (j = i ∧ i < l.length)) := by
  rw [List.getD_eq_getElem?_getD, List.getD_eq_getElem?_getD, List.getElem?_set]
  by_cases e : i = j
  · subst e
    by_cases h : i < l.length
    · simp [h]
    · simp [h]
  · simp [e, Ne.symm e]
theorem stepMet_getD {ns : List Nd} {met : List Bool} (hw : WF ns) {d : Nat} (hl : met.length = ns.length) (m : Nat) : (stepMet ns met d).getD m false = true ↔ (met.getD m false = true ∨ ∃ x, ns[d]? = some x ∧ x.k = 3 ∧ (m = x.l / 2 ∨ m = x.r / 2)) := by
  unfold stepMet
  split
  · rename_i x hx
    have hd := (List.getElem?_eq_some_iff.1 hx).1
    by_cases h3 : x.k = 3
    · obtain ⟨s1, s2, s3, s4, s5⟩ := hw.sides hx h3
      rw [if_pos h3]
      unfold setMark
      rw [getD_set, getD_set]
      simp only [List.length_set]
      constructor
      · rintro ((h | ⟨rfl, _⟩) | ⟨rfl, _⟩)
        · exact .inl h
        · exact .inr ⟨x, hx, h3, .inl rfl⟩
        · exact .inr ⟨x, hx, h3, .inr rfl⟩
      · rintro (h | ⟨y, hy, _, hm⟩)
        · exact .inl (.inl h)
        · rw [hx] at hy; cases hy
          rcases hm with rfl | rfl
          · exact .inl (.inr ⟨rfl, by omega⟩)
          · exact .inr ⟨rfl, by omega⟩
    · rw [if_neg h3]
      constructor
      · exact .inl
      · rintro (h | ⟨y, hy, hk, _⟩)
        · exact h
        · rw [hx] at hy; cases hy; exact absurd hk h3
  · rename_i hx
    constructor
    · exact .inl
    · rintro (h | ⟨y, hy, _⟩)
      · exact h
      · rw [hx] at hy; cases hy
theorem coneFrom_desc {ns : List Nd} : ∀ (n : Nat) (met : List Bool), (coneFrom ns n met).Pairwise (fun a b => b < a)
  | 0, _ => List.Pairwise.nil
  | n + 1, met => by
    unfold coneFrom
    split
    · exact List.Pairwise.cons (fun r hr => coneFrom_lt ns n _ r hr) (coneFrom_desc n _)
    · exact coneFrom_desc n met
theorem cone_asc (ns : List Nd) (l : List Nat) : (cone ns l).Pairwise (fun a b => a < b) := by
  unfold cone
  rw [List.pairwise_reverse]
  exact coneFrom_desc _ _
theorem foldl_mark_mono : ∀ (l : List Nat) (met : List Bool) (m : Nat), met.getD m false = true → (l.foldl setMark met).getD m false = true
  | [], _, _, h => h
  | r :: l, met, m, h => foldl_mark_mono l _ m (by unfold setMark; rw [getD_set]; exact .inl h)
end Go.Proofs.Ytkedpifopclipaa
namespace Go.Proofs.Ytkedpifopclipaa
open Go.RowKit Go.Mem Go.Aig
set_option maxRecDepth 100000 in
theorem cmpIsNaN_is (w : World) (x : Int) : Calls Try.prog 202 #[.int .i64 x] w fun e w' => e = .returned (.bool false) ∧ w = w' := by
  go_enter Try.func202, Try.ntmps202
  go_wp2_with fail
  go_ret
  exact ⟨ret_bool (by simp), rfl⟩
set_option maxRecDepth 100000 in
theorem slIsNaN_is (w : World) (x : Int) : Calls Try.prog 166 #[.int .i64 x] w fun e w' => e = .returned (.bool false) ∧ w = w' := by
  go_enter Try.func166, Try.ntmps166
  go_wp2_with fail
  go_ret
  exact ⟨ret_bool (by simp), rfl⟩
set_option maxRecDepth 100000 in
set_option maxHeartbeats 1000000 in
theorem cmpLess_is (w : World) (x y : Int) : Calls Try.prog 165 #[.int .i64 x, .int .i64 y] w fun e w' => e = .returned (.bool (decide (x < y))) ∧ w = w' := by
  go_enter Try.func165, Try.ntmps165
  go_wp2_with fail
  refine (cmpIsNaN_is w x).mono ?_
  rintro e w' ⟨rfl, rfl⟩
  go_wp2_with fail
  go_ret
  exact ⟨rfl, rfl⟩
section
variable {w : World} {g : Nat} {G : Gra} {F : List Nat}
end
end Go.Proofs.Ytkedpifopclipaa
namespace Go.Aig
/-- a node that is wanted -/
structure N21 where
  inp : Bool
  l : Int
  r : Int
deriving Inhabited
def cntI (l : List N21) : Nat := (l.filter fun x => x.inp).length
theorem cntI_snoc (l : List N21) (x : N21) : cntI (l ++ [x]) = cntI l + x.inp.toNat := by
  unfold cntI
  rw [List.filter_append, List.length_append]
  cases h : x.inp <;> simp [h]
end Go.Aig
namespace Go.Proofs.Ytkedpifopclipaa
open Go.RowKit Go.Mem Go.Aig
theorem and_room21 {G : Gra} (a b : Nat) (h : G.nodes.length < G.most) : (Aig.and G a b).2.2 = 0 ∧ (Aig.and G a b).1.most = G.most ∧ (Aig.and G a b).1.nodes.length ≤ G.nodes.length + 1 ∧ inputs (Aig.and G a b).1.nodes = inputs G.nodes := by
  unfold Aig.and
  split
  · exact ⟨rfl, rfl, by simp, rfl⟩
  · split
    · exact ⟨rfl, rfl, by simp, rfl⟩
    · unfold put
      rw [if_neg (by omega)]
      refine ⟨rfl, rfl, by simp, ?_⟩
      exact inputs_append (by simp)
theorem input_room {G : Gra} (h : G.nodes.length < G.most) : (doInput G).2.2 = 0 ∧ (doInput G).1.most = G.most ∧ (doInput G).1.nodes.length = G.nodes.length + 1 ∧ (inputs (doInput G).1.nodes).length = (inputs G.nodes).length + 1 := by
  unfold doInput put
  rw [if_neg (by omega)]
  refine ⟨rfl, rfl, by simp, ?_⟩
  show (inputs (G.nodes ++ [_])).length = _
  rw [inputs_input rfl]
  simp
/-- a slice of nodes -/
structure NodeS (w : World) (a : Option Addr) (n cap : Nat) (l : List N21) : Prop where
  len : l.length = n
  le : n ≤ cap
  max : cap ≤ 9223372036854775807
  cells : ∀ (i : Nat) (x : N21), l[i]? = some x → ∃ b o, a = some ⟨b, o, none⟩ ∧ w.cell? ⟨b, o + i * 3, none⟩ = some (.bool x.inp) ∧ w.cell? ⟨b, o + i * 3 + 1, none⟩ = some (.int .i64 x.l) ∧ w.cell? ⟨b, o + i * 3 + 2, none⟩ = some (.int .i64 x.r)
  bd : ∀ x ∈ l, (-9223372036854775808 ≤ x.l ∧ x.l ≤ 9223372036854775807) ∧ (-9223372036854775808 ≤ x.r ∧ x.r ≤ 9223372036854775807)
theorem NodeS.ch {w w' : World} {a : Option Addr} {n cap : Nat} {l : List N21} (h : NodeS w a n cap l) (hc : Ch [] w w') : NodeS w' a n cap l :=
  ⟨h.len, h.le, h.max, fun i x hx => by
    obtain ⟨b, o, e, h1, h2, h3⟩ := h.cells i x hx
    exact ⟨b, o, e, (hc.cell (cell_lt h1) (by simp)).trans h1, (hc.cell (cell_lt h2) (by simp)).trans h2, (hc.cell (cell_lt h3) (by simp)).trans h3⟩, h.bd⟩
theorem row_cell {w : World} {e : TypeId} {size b n c m : Nat} {vs : List Value} (h : row w e size (.slice (some ⟨b, 0, none⟩) n c) m vs) {k : Nat} {v : Value} (hk : vs[k]? = some v) : w.cell? ⟨b, k, none⟩ = some v := by
  have := h.cells (g := b) rfl k v hk
  rw [Addr.add_lit] at this
  simpa using this
end Go.Proofs.Ytkedpifopclipaa
namespace Go.Proofs.Ytkedpifopclipaa
open Go.ChangeShapes Go.WideShapes Go.ChangeAt Go.RowKit Go.Mem Go.Aig Go.Deep
section
variable {H : Type} {enc : TypeId × Value → H} {W : World}
set_option maxRecDepth 100000 in
theorem nodes27_open {a : Option Addr} {len cap : Nat} {d : DataW H} {p : List MemPlace} (h : DataW.Trod enc Try.prog W 0 (fun _ => true) true 22 (.slice a len cap) d p) : ∃ l, NodeS W a len cap l := by
  obtain ⟨fuel, hf⟩ := h
  rcases open_slice Try.underlying22 hf with ⟨hcs, _⟩ | ⟨x, l, c, m, n, D, Pl, hcs, _, hl, hm, hmm, _, hi⟩
  · simp [Value.cells] at hcs
    obtain ⟨rfl, rfl, rfl⟩ := hcs
    exact ⟨[], rfl, by omega, by omega, by simp, by simp⟩
  · simp [Value.cells] at hcs
    obtain ⟨rfl, rfl, rfl⟩ := hcs
    have hC : Try.prog.cellsOf 139 = 3 := by kernel_rfl
    have hspot : 0 < len → x.spot = none := fun h0 => by
      obtain ⟨cs', hc, _⟩ := hi 0 (by rw [hmm]; simp; omega)
      rw [hC] at hc
      obtain ⟨_, hcl, hat⟩ := World.cells?_some hc
      have e0 := hat 0 (by omega)
      rw [List.getElem?_eq_getElem (by omega)] at e0
      simpa [Addr.add] using World.cell?_spot e0
    have key : ∀ i, i < len → ∃ s : N21, (∃ b o, (some x : Option Addr) = some ⟨b, o, none⟩ ∧ W.cell? ⟨b, o + i * 3, none⟩ = some (.bool s.inp) ∧ W.cell? ⟨b, o + i * 3 + 1, none⟩ = some (.int .i64 s.l) ∧ W.cell? ⟨b, o + i * 3 + 2, none⟩ = some (.int .i64 s.r)) ∧
        (-9223372036854775808 ≤ s.l ∧ s.l ≤ 9223372036854775807) ∧ (-9223372036854775808 ≤ s.r ∧ s.r ≤ 9223372036854775807) := by
      intro i hlt
      obtain ⟨cs', hc, ht⟩ := hi i (by rw [hmm]; simp; omega)
      rw [hC] at hc
      obtain ⟨ys, n', _, _, hlen, _, hfd⟩ := DataW.trod_struct Try.underlying139 ht
      obtain ⟨_, hcl, hat⟩ := World.cells?_some hc
      match cs', hcl with
      | [c0, c1, c2], _ =>
        have f0 := hfd 0 _ rfl
        have f1 := hfd 1 _ rfl
        have f2 := hfd 2 _ rfl
        have hu : Try.prog.cellsOf 4 = 1 := by kernel_rfl
        have hi9 : Try.prog.cellsOf 3 = 1 := by kernel_rfl
        simp only [List.getElem_toArray, List.getElem_cons_zero, List.getElem_cons_succ, hu, hi9, List.drop_zero, List.drop_succ_cons, List.take_succ_cons, List.take_zero] at f0 f1 f2
        have hys : ys.length = 3 := by have := ‹ys.length = _›; simpa using this
        rw [List.getElem?_eq_getElem (by omega)] at f0 f1 f2
        obtain ⟨z0, hz0, _⟩ := DataW.trod_bool Try.underlying4 f0
        obtain ⟨z1, hz1, _, hw1⟩ := DataW.trod_int Try.underlying3 f1
        obtain ⟨z2, hz2, _, hw2⟩ := DataW.trod_int Try.underlying3 f2
        have b1 := wf_i64 hw1
        have b2 := wf_i64 hw2
        simp at hz0 hz1 hz2
        subst hz0 hz1 hz2
        have e0 := hat 0 (by omega)
        have e1 := hat 1 (by omega)
        have e2 := hat 2 (by omega)
        simp at e0 e1 e2
        obtain ⟨b, o, spot⟩ := x
        have hsp : spot = none := hspot (by omega)
        subst hsp
        simp only [Addr.add_lit] at e0 e1 e2
        exact ⟨⟨z0, z1, z2⟩, ⟨b, o, rfl, by simpa using e0, by simpa using e1, by simpa using e2⟩, b1, b2⟩
    obtain ⟨ll, hll, hp⟩ := list_of _ len key
    have idx : ∀ s ∈ ll, ∃ i : Nat, ll[i]? = some s := fun s hs => List.mem_iff_getElem?.1 hs
    exact ⟨ll, hll, hl, by unfold maxLen at hm; exact hm, fun i s hs => (hp i s hs).1, fun s hs => by obtain ⟨i, hi2⟩ := idx s hs; exact (hp i s hi2).2⟩
end
end Go.Proofs.Ytkedpifopclipaa
namespace Go.Proofs.Ytkedpifopclipaa
open Go.RowKit Go.Mem Go.Aig
section
variable {w : World}
end
/-- what is known along a walk that changes no graph: the graph, and slices that are held -/
structure HS (w0 w : World) (g : Nat) (G : Gra) (F : List Nat) (L : List (Option Addr × List Value)) : Prop where
  own : Own w0 w g G F
  held : ∀ p ∈ L, Sv w p.1 p.2
section
variable {w0 w : World} {g : Nat} {G : Gra} {F : List Nat} {L : List (Option Addr × List Value)}
end
end Go.Proofs.Ytkedpifopclipaa
namespace Go.Aig
end Go.Aig
namespace Go.Proofs.Ytkedpifopclipaa
open Go.RowKit Go.Mem Go.Aig
theorem eqSliceNilW (w : World) (a : Option Addr) (n c : Nat) : (binOp .eql 182 (.slice a n c) (.slice none 0 0)).run Try.prog w = .ok (.bool a.isNone) w := by
  have h : Try.prog.underlying 182 = some (.slice 183) := Try.underlying182
  simp only [binOp]
  simp [run_equal_slice_nil w _ _ a n c h]
attribute [local go_sem] eqSliceNilW
section
variable {w : World}
end
end Go.Proofs.Ytkedpifopclipaa
namespace Go.Aig
open Go.Proofs.Ytkedpifopclipaa
theorem metDown_mono {ns : List Nd} (hw : WF ns) : ∀ (n : Nat) (met : List Bool), met.length = ns.length → ∀ m, met.getD m false = true → (metDown ns n met).getD m false = true
  | 0, _, _, _, h => h
  | n + 1, met, hl, m, h => by
    unfold metDown
    split
    · exact metDown_mono hw n _ (by rw [stepMet_len, hl]) m ((stepMet_getD hw hl m).2 (.inl h))
    · exact metDown_mono hw n _ hl m h
theorem metDown_closed {ns : List Nd} (hw : WF ns) : ∀ (n : Nat) (met : List Bool), met.length = ns.length → ∀ d, d < n → (metDown ns n met).getD d false = true → ∀ x, ns[d]? = some x → x.k = 3 → (metDown ns n met).getD (x.l / 2) false = true ∧ (metDown ns n met).getD (x.r / 2) false = true
  | 0, _, _, d, hd, _, _, _, _ => by omega
  | n + 1, met, hl, d, hd, h, x, hx, h3 => by
    unfold metDown at h ⊢
    by_cases hdn : d < n
    · split at h
      · rename_i hm
        rw [if_pos hm]
        exact metDown_closed hw n _ (by rw [stepMet_len, hl]) d hdn h x hx h3
      · rename_i hm
        rw [if_neg hm]
        exact metDown_closed hw n _ hl d hdn h x hx h3
    · have e : d = n := by omega
      subst e
      split at h
      · rename_i hm
        rw [if_pos hm]
        have h1 := (stepMet_getD hw hl (d := d) (x.l / 2)).2 (.inr ⟨x, hx, h3, .inl rfl⟩)
        have h2 := (stepMet_getD hw hl (d := d) (x.r / 2)).2 (.inr ⟨x, hx, h3, .inr rfl⟩)
        exact ⟨metDown_mono hw d _ (by rw [stepMet_len, hl]) _ h1, metDown_mono hw d _ (by rw [stepMet_len, hl]) _ h2⟩
      · rename_i hm
        rw [metDown_far hw d met d (Nat.le_refl _)] at h
        exact absurd h hm
theorem mem_cone {ns : List Nd} (hw : WF ns) (l : List Nat) (d : Nat) : d ∈ cone ns l ↔ d < ns.length ∧ (metDown ns ns.length (met0 ns.length l)).getD d false = true := by
  rw [cone_filter hw, List.mem_filter, List.mem_range]
theorem cone_closed {ns : List Nd} (hw : WF ns) {l : List Nat} {d : Nat} {x : Nd} (h : d ∈ cone ns l) (hx : ns[d]? = some x) (h3 : x.k = 3) : x.l / 2 ∈ cone ns l ∧ x.r / 2 ∈ cone ns l := by
  obtain ⟨h1, h2⟩ := (mem_cone hw l d).1 h
  have hs := hw.sides hx h3
  obtain ⟨a, b⟩ := metDown_closed hw ns.length _ (met0_len _ _) d h1 h2 x hx h3
  exact ⟨(mem_cone hw l _).2 ⟨by omega, a⟩, (mem_cone hw l _).2 ⟨by omega, b⟩⟩
theorem marked : ∀ (l : List Nat) (met : List Bool) (r : Nat), r ∈ l → r / 2 < met.length → (l.foldl setMark met).getD (r / 2) false = true
  | [], _, _, h, _ => by cases h
  | q :: l, met, r, h, hr => by
    rw [List.foldl_cons]
    rcases List.mem_cons.1 h with rfl | h
    · refine foldl_mark_mono l _ _ ?_
      unfold setMark
      exact getD_set.2 (.inr ⟨rfl, hr⟩)
    · exact marked l _ r h (by rw [setMark_len]; exact hr)
theorem cone_has {ns : List Nd} (hw : WF ns) {l : List Nat} {r : Nat} (h : r ∈ l) (hr : r < 2 * ns.length) : r / 2 ∈ cone ns l :=
  (mem_cone hw l _).2 ⟨by omega, metDown_mono hw _ _ (met0_len _ _) _ (by unfold met0; exact marked l _ r h (by simp; omega))⟩
end Go.Aig
namespace Go.Aig
/-- the nodes of the variables of a graph and of roots -/
def mapN (ns : List Nd) (l : List Nat) : List Nat := (cone ns l).filter fun n => n != 0
theorem mem_mapN {ns : List Nd} {l : List Nat} {n : Nat} : n ∈ mapN ns l ↔ n ∈ cone ns l ∧ n ≠ 0 := by simp [mapN]
theorem cone_asc {ns : List Nd} (hw : WF ns) (l : List Nat) : (cone ns l).Pairwise (fun a b => a < b) := by
  rw [cone_filter hw]
  exact List.Pairwise.filter _ List.pairwise_lt_range
theorem mapN_asc {ns : List Nd} (hw : WF ns) (l : List Nat) : (mapN ns l).Pairwise (fun a b => a < b) := (cone_asc hw l).filter _
theorem mapN_lt {ns : List Nd} (hw : WF ns) {l : List Nat} {n : Nat} (h : n ∈ mapN ns l) : 0 < n ∧ n < ns.length := by
  obtain ⟨h1, h2⟩ := mem_mapN.1 h
  exact ⟨by omega, ((mem_cone hw l n).1 h1).1⟩
/-- whether numbers are in increasing order, of nodes that there may be -/
def risingF : Int → List Int → Bool
  | _, [] => true
  | last, n :: m => decide (last < n) && decide (n < 65536) && risingF n m
def rising (m : List Int) : Bool := risingF 0 m
theorem risingF_iff : ∀ (m : List Int) (last : Int), risingF last m = true ↔ (∀ n ∈ m, last < n ∧ n < 65536) ∧ m.Pairwise (fun a b => a < b)
  | [], last => by simp [risingF]
  | n :: m, last => by
    unfold risingF
    simp only [Bool.and_eq_true, decide_eq_true_eq, List.pairwise_cons, List.mem_cons, forall_eq_or_imp]
    rw [risingF_iff m n]
    constructor
    · rintro ⟨⟨h1, h2⟩, h3, h4⟩
      exact ⟨⟨⟨h1, h2⟩, fun k hk => ⟨by have := (h3 k hk).1; omega, (h3 k hk).2⟩⟩, fun k hk => (h3 k hk).1, h4⟩
    · rintro ⟨⟨⟨h1, h2⟩, h3⟩, h4, h5⟩
      exact ⟨⟨h1, h2⟩, fun k hk => ⟨h4 k hk, (h3 k hk).2⟩, h5⟩
theorem rising_iff (m : List Int) : rising m = true ↔ (∀ n ∈ m, 0 < n ∧ n < 65536) ∧ m.Pairwise (fun a b => a < b) := risingF_iff m 0
theorem asc_len : ∀ (m : List Int) (last : Int), risingF last m = true → last < 65536 → last + m.length < 65536
  | [], last, _, h => by simpa using h
  | n :: m, last, h, _ => by
    unfold risingF at h
    simp only [Bool.and_eq_true, decide_eq_true_eq] at h
    have := asc_len m n h.2 h.1.2
    simp only [List.length_cons]
    omega
theorem rising_len {m : List Int} (h : rising m = true) : m.length < 65536 := by
  have := asc_len m 0 h (by decide)
  omega
theorem mapN_rising {ns : List Nd} (hw : WF ns) (hn : ns.length ≤ 65536) (l : List Nat) : rising (natInts (mapN ns l)) = true := by
  rw [rising_iff]
  unfold natInts
  refine ⟨fun n hn2 => ?_, ?_⟩
  · obtain ⟨k, hk, rfl⟩ := List.mem_map.1 hn2
    have := mapN_lt hw hk
    omega
  · rw [List.pairwise_map]
    exact (mapN_asc hw l).imp (by intro a b h; omega)
/-- the variable of a node; 0 if it has none -/
def varFrom : Nat → List Int → Int → Nat
  | _, [], _ => 0
  | i, x :: m, n => if x = n then i + 1 else varFrom (i + 1) m n
def varOf (m : List Int) (n : Int) : Nat := varFrom 0 m n
theorem varFrom_none : ∀ (m : List Int) (i : Nat) {n : Int}, n ∉ m → varFrom i m n = 0
  | [], _, _, _ => rfl
  | x :: m, i, n, h => by
    unfold varFrom
    rw [if_neg (fun e => h (by rw [e]; exact List.mem_cons_self ..))]
    exact varFrom_none m _ (fun h2 => h (List.mem_cons_of_mem _ h2))
theorem varFrom_at : ∀ (m : List Int) (i : Nat) {k : Nat} {n : Int}, m.Pairwise (fun a b => a < b) → m[k]? = some n → varFrom i m n = i + k + 1
  | [], _, _, _, _, h => by simp at h
  | x :: m, i, 0, n, _, h => by
    unfold varFrom
    rw [if_pos (by simpa using h)]
  | x :: m, i, k + 1, n, hp, h => by
    unfold varFrom
    rw [List.getElem?_cons_succ] at h
    rw [List.pairwise_cons] at hp
    rw [if_neg (by have := hp.1 n (List.mem_of_getElem? h); omega), varFrom_at m _ hp.2 h]
    omega
theorem varOf_none {m : List Int} {n : Int} (h : n ∉ m) : varOf m n = 0 := varFrom_none m 0 h
theorem varOf_at {m : List Int} (hp : m.Pairwise (fun a b => a < b)) {k : Nat} {n : Int} (h : m[k]? = some n) : varOf m n = k + 1 := by
  unfold varOf
  rw [varFrom_at m 0 hp h, Nat.zero_add]
theorem varOf_le {m : List Int} (hp : m.Pairwise (fun a b => a < b)) (n : Int) : varOf m n ≤ m.length := by
  by_cases h : n ∈ m
  · obtain ⟨k, hk⟩ := List.getElem?_of_mem h
    rw [varOf_at hp hk]
    exact (List.getElem?_eq_some_iff.1 hk).1
  · rw [varOf_none h]; omega
/-- the literal of a reference -/
def litOf (m : List Int) (r : Int) : Int := if r % 2 = 1 then -(varOf m (r / 2) : Int) else varOf m (r / 2)
theorem litOf_zero (m : List Int) (r : Int) : litOf m r = 0 ↔ varOf m (r / 2) = 0 := by unfold litOf; split <;> omega
/-- the literal of any number, by any map -/
def litF (m : List Int) (r : Int) : Int := if rising m = true ∧ 0 ≤ r then litOf m r else 0
/-- the reference of any number, by any map; -1 if there is none -/
def refF (m : List Int) (l : Int) : Int := if rising m = true ∧ 1 ≤ l.natAbs ∧ l.natAbs ≤ m.length ∧ l.natAbs ≤ 1048576 then 2 * m.getD (l.natAbs - 1) 0 + (if l < 0 then 1 else 0) else -1
theorem refF_nonneg {m : List Int} {l : Int} : 0 ≤ refF m l ↔ rising m = true ∧ 1 ≤ l.natAbs ∧ l.natAbs ≤ m.length ∧ l.natAbs ≤ 1048576 := by
  unfold refF
  split
  · rename_i h
    refine ⟨fun _ => h, fun _ => ?_⟩
    have h1 := ((rising_iff m).1 h.1).1 (m.getD (l.natAbs - 1) 0) (by
      rw [List.getD_eq_getElem?_getD, List.getElem?_eq_getElem (by omega)]
      exact List.getElem_mem _)
    split <;> omega
  · rename_i h
    exact ⟨fun h2 => by omega, fun h2 => absurd h2 h⟩
/-- the clauses of an and -/
def andCls (v a b : Int) : List (List Int) := [[-v, a], [-v, b], [v, -a, -b]]
def nodeCls (ns : List Nd) (m : List Int) (i : Nat) (n : Int) : List (List Int) := if isAndAt ns (2 * n) then andCls (i + 1) (litOf m (lOf ns (2 * n))) (litOf m (rOf ns (2 * n))) else []
def rootCls (m : List Int) (r : Int) : List (List Int) := if r = 1 then [] else if r = 0 then [[]] else [[litOf m r]]
def nodesCls (ns : List Nd) (m : List Int) (k : Nat) : List (List Int) := (List.range k).flatMap fun i => nodeCls ns m i (m.getD i 0)
def rootsCls (m : List Int) (l : List Int) : List (List Int) := l.flatMap (rootCls m)
def clsOf (ns : List Nd) (m : List Int) (l : List Int) : List (List Int) := nodesCls ns m m.length ++ rootsCls m l
theorem nodesCls_succ (ns : List Nd) (m : List Int) (k : Nat) : nodesCls ns m (k + 1) = nodesCls ns m k ++ nodeCls ns m k (m.getD k 0) := by
  unfold nodesCls
  rw [List.range_succ, List.flatMap_append]
  simp
theorem rootsCls_snoc (m l : List Int) (r : Int) : rootsCls m (l ++ [r]) = rootsCls m l ++ rootCls m r := by
  unfold rootsCls
  rw [List.flatMap_append]
  simp
theorem nodeCls_len (ns : List Nd) (m : List Int) (i : Nat) (n : Int) : (nodeCls ns m i n).length ≤ 3 := by
  unfold nodeCls andCls
  split <;> simp
theorem nodesCls_len (ns : List Nd) (m : List Int) : ∀ k, (nodesCls ns m k).length ≤ 3 * k
  | 0 => by simp [nodesCls]
  | k + 1 => by
    rw [nodesCls_succ, List.length_append]
    have := nodesCls_len ns m k
    have := nodeCls_len ns m k (m.getD k 0)
    omega
theorem rootCls_len (m : List Int) (r : Int) : (rootCls m r).length ≤ 1 := by
  unfold rootCls
  (repeat' split) <;> simp
theorem rootsCls_len (m : List Int) : ∀ l : List Int, (rootsCls m l).length ≤ l.length
  | [] => by simp [rootsCls]
  | r :: l => by
    have h1 := rootsCls_len m l
    have h2 := rootCls_len m r
    unfold rootsCls at h1 ⊢
    rw [List.flatMap_cons, List.length_append, List.length_cons]
    omega
theorem clsOf_len (ns : List Nd) (m l : List Int) : (clsOf ns m l).length ≤ 3 * m.length + l.length := by
  unfold clsOf
  rw [List.length_append]
  have := nodesCls_len ns m m.length
  have := rootsCls_len m l
  omega
/-- what Encode returns: variables, clauses, the map, and the number of the error -/
def encR (G : Gra) (l : List Int) (most : Int) : Nat × List (List Int) × List Int × Nat :=
  if badIn G l then (0, [], [], 200) else if most < 0 ∨ 1048576 < most then (0, [], [], 2)
  else if most < (mapN G.nodes (nats l)).length then (0, [], [], 270)
  else ((mapN G.nodes (nats l)).length, clsOf G.nodes (natInts (mapN G.nodes (nats l))) l, natInts (mapN G.nodes (nats l)), 0)
/-- what Size returns -/
def sizeR (G : Gra) (l : List Int) : Nat × Nat × Nat :=
  if badIn G l then (0, 0, 200) else ((mapN G.nodes (nats l)).length, (clsOf G.nodes (natInts (mapN G.nodes (nats l))) l).length, 0)
end Go.Aig
namespace Go.Proofs.Ytkedpifopclipaa
open Go.RowKit Go.Mem Go.Aig
theorem rising_ltZ {l : List Int} (h : l.Pairwise (fun a b => a < b)) {i j : Nat} {a b : Int} (hi : l[i]? = some a) (hj : l[j]? = some b) (hij : i < j) : a < b := by
  obtain ⟨h1, h2⟩ := List.getElem?_eq_some_iff.1 hi
  obtain ⟨h3, h4⟩ := List.getElem?_eq_some_iff.1 hj
  rw [← h2, ← h4]
  exact List.pairwise_iff_getElem.1 h i j h1 h3 hij
set_option maxRecDepth 100000 in
set_option maxHeartbeats 4000000 in
theorem BSany_is {w : World} {a : Option Addr} {l : List Int} (n c : Nat) (hn : l.length = n) (hnl : n ≤ 1000000) (hS : Sl w a l) (x : Int) :
    Calls Try.prog 111 #[.slice a n c, .int .i64 x] w fun e w' => ∃ (i : Nat) (b : Bool), e = .returned (.tuple #[.int .i64 i, .bool b]) ∧ w = w' ∧ i ≤ n ∧ (l.Pairwise (fun a b => a < b) → b = decide (x ∈ l) ∧ (b = true → l[i]? = some x)) := by
  have HS := Lib.hid hS; clear hS
  have HN := Lib.hid hn; clear hn
  go_enter Try.func111, Try.ntmps111
  go_wp2_with fail
  go_loopw [7, 8] (fun s t wr => ∃ i j : Nat, s = .int .i64 i ∧ t = .int .i64 j ∧ i ≤ j ∧ j ≤ n ∧ wr = w ∧ (l.Pairwise (fun a b => a < b) → (∀ (k : Nat) (y : Int), k < i → l[k]? = some y → y < x) ∧ (∀ (k : Nat) (y : Int), j ≤ k → l[k]? = some y → x ≤ y))) (fun s t _ => (intOf t).toNat - (intOf s).toNat)
  case atStart => exact ⟨0, n, rfl, rfl, by omega, by omega, rfl, fun _ => ⟨fun k y hk => by omega, fun k y hk hy => by have := (List.getElem?_eq_some_iff.1 hy).1; have := HN.out; omega⟩⟩
  case round =>
    obtain ⟨i, j, rfl, rfl, hij, hjn, rfl, h1⟩ := hrel
    have H1 := Lib.hid h1; clear h1
    by_cases hlt : i < j
    · obtain ⟨m, hm⟩ : ∃ m, (i + j) / 2 = m := ⟨_, rfl⟩
      have hmi : i ≤ m ∧ m < j := by omega
      obtain ⟨y, hy⟩ : ∃ y, l[m]? = some y := ⟨_, List.getElem?_eq_getElem (by have := HN.out; omega)⟩
      obtain ⟨xb, xo, rfl, hcl⟩ := HS.out.cells m y hy
      have em : ((i : Int) + (j : Int)) / 2 = m := by omega
      have HL := Lib.hid (cmpLess_is wr y x)
      have HY := Lib.hid hy; clear hy
      have HM := Lib.hid hm; clear hm
      by_cases hyx : y < x
      · have e1 : decide (y < x) = true := decide_eq_true (by omega)
        rw [e1] at HL
        have HYX := Lib.hid hyx; clear hyx e1
        go_wp2_with fail
        refine HL.out.mono ?_
        rintro e w' ⟨rfl, rfl⟩
        go_wp2_with fail
        go_roundw
        case rel =>
          refine ⟨m + 1, j, by go_num, rfl, by omega, hjn, trivial, fun hP => ⟨fun k z hk hz => ?_, (H1.out hP).2⟩⟩
          by_cases hkm : k = m
          · subst hkm
            have := HY.out.symm.trans hz
            cases this
            exact HYX.out
          · exact Int.lt_trans (rising_ltZ hP hz HY.out (by omega)) HYX.out
        case measure => simp [intOf]; omega
      · have e1 : decide (y < x) = false := decide_eq_false (by omega)
        rw [e1] at HL
        have HYX := Lib.hid hyx; clear hyx e1
        go_wp2_with fail
        refine HL.out.mono ?_
        rintro e w' ⟨rfl, rfl⟩
        go_wp2_with fail
        go_roundw
        case rel =>
          refine ⟨i, m, rfl, by go_num, by omega, by omega, trivial, fun hP => ⟨(H1.out hP).1, fun k z hk hz => ?_⟩⟩
          have h3 := HYX.out
          by_cases hkm : k = m
          · subst hkm
            have := HY.out.symm.trans hz
            cases this
            omega
          · have := rising_ltZ hP HY.out hz (by omega)
            omega
        case measure => simp [intOf]; omega
    · have hij2 : j = i := by omega
      subst hij2
      by_cases hin : j < n
      · obtain ⟨y, hy⟩ : ∃ y, l[j]? = some y := ⟨_, List.getElem?_eq_getElem (by have := HN.out; omega)⟩
        obtain ⟨xb, xo, rfl, hcl⟩ := HS.out.cells j y hy
        have HNA := Lib.hid (slIsNaN_is wr y)
        have hmem : l.Pairwise (fun a b => a < b) → (y == x) = decide (x ∈ l) ∧ ((y == x) = true → l[j]? = some x) := fun hP => by
          have h3 := (H1.out hP).2 j y (Nat.le_refl _) hy
          by_cases hyx : y = x
          · subst hyx
            rw [decide_eq_true (List.mem_of_getElem? hy)]
            exact ⟨by simp, fun _ => hy⟩
          · have hne : x ∉ l := fun hmem => by
              obtain ⟨k, hk⟩ := List.mem_iff_getElem?.1 hmem
              by_cases hkj : k < j
              · have := (H1.out hP).1 k x hkj hk; omega
              · by_cases hkj2 : k = j
                · subst hkj2; rw [hy] at hk; cases hk; exact hyx rfl
                · have := rising_ltZ hP hy hk (by omega); omega
            rw [decide_eq_false hne]
            exact ⟨by simpa using hyx, fun e => absurd (eq_of_beq e) hyx⟩
        have HMEM := Lib.hid hmem; clear hmem
        have HY := Lib.hid hy; clear hy
        cases hb : (y == x)
        · go_wp2_with fail
          refine HNA.out.mono ?_
          rintro e w' ⟨rfl, rfl⟩
          go_wp2_with fail
          go_ret2
          exact ⟨j, false, rfl, rfl, hjn, fun hP => by have := HMEM.out hP; rwa [hb] at this⟩
        · go_wp2_with fail
          go_ret2
          exact ⟨j, true, rfl, rfl, hjn, fun hP => by have := HMEM.out hP; rwa [hb] at this⟩
      · have hjn2 : j = n := by omega
        have hne : l.Pairwise (fun a b => a < b) → false = decide (x ∈ l) := fun hP => (decide_eq_false fun hmem => by
          obtain ⟨k, hk⟩ := List.mem_iff_getElem?.1 hmem
          have h4 := (List.getElem?_eq_some_iff.1 hk).1
          have := (H1.out hP).1 k x (by have := HN.out; omega) hk
          omega).symm
        have HNE := Lib.hid hne; clear hne
        have e1 : decide ((j : Int) < n) = false := decide_eq_false (by omega)
        clear hjn2
        go_wp2_with fail
        go_ret2
        exact ⟨j, false, rfl, rfl, hjn, fun hP => ⟨HNE.out hP, by simp⟩⟩
set_option maxRecDepth 100000 in
set_option maxHeartbeats 4000000 in
theorem BSmap_is {w : World} {a : Option Addr} {l : List Int} (n c : Nat) (hn : l.length = n) (hnl : n ≤ 1000000) (hS : Sl w a l) (x : Int) :
    Calls Try.prog 90 #[.slice a n c, .int .i64 x] w fun e w' => ∃ (i : Nat) (b : Bool), e = .returned (.tuple #[.int .i64 i, .bool b]) ∧ w = w' ∧ i ≤ n ∧ (l.Pairwise (fun a b => a < b) → b = decide (x ∈ l) ∧ (b = true → l[i]? = some x)) := by
  have HS := Lib.hid hS; clear hS
  have HN := Lib.hid hn; clear hn
  go_enter Try.func90, Try.ntmps90
  go_wp2_with fail
  go_loopw [7, 8] (fun s t wr => ∃ i j : Nat, s = .int .i64 i ∧ t = .int .i64 j ∧ i ≤ j ∧ j ≤ n ∧ wr = w ∧ (l.Pairwise (fun a b => a < b) → (∀ (k : Nat) (y : Int), k < i → l[k]? = some y → y < x) ∧ (∀ (k : Nat) (y : Int), j ≤ k → l[k]? = some y → x ≤ y))) (fun s t _ => (intOf t).toNat - (intOf s).toNat)
  case atStart => exact ⟨0, n, rfl, rfl, by omega, by omega, rfl, fun _ => ⟨fun k y hk => by omega, fun k y hk hy => by have := (List.getElem?_eq_some_iff.1 hy).1; have := HN.out; omega⟩⟩
  case round =>
    obtain ⟨i, j, rfl, rfl, hij, hjn, rfl, h1⟩ := hrel
    have H1 := Lib.hid h1; clear h1
    by_cases hlt : i < j
    · obtain ⟨m, hm⟩ : ∃ m, (i + j) / 2 = m := ⟨_, rfl⟩
      have hmi : i ≤ m ∧ m < j := by omega
      obtain ⟨y, hy⟩ : ∃ y, l[m]? = some y := ⟨_, List.getElem?_eq_getElem (by have := HN.out; omega)⟩
      obtain ⟨xb, xo, rfl, hcl⟩ := HS.out.cells m y hy
      have em : ((i : Int) + (j : Int)) / 2 = m := by omega
      have HL := Lib.hid (cmpLess_is wr y x)
      have HY := Lib.hid hy; clear hy
      have HM := Lib.hid hm; clear hm
      by_cases hyx : y < x
      · have e1 : decide (y < x) = true := decide_eq_true (by omega)
        rw [e1] at HL
        have HYX := Lib.hid hyx; clear hyx e1
        go_wp2_with fail
        refine HL.out.mono ?_
        rintro e w' ⟨rfl, rfl⟩
        go_wp2_with fail
        go_roundw
        case rel =>
          refine ⟨m + 1, j, by go_num, rfl, by omega, hjn, trivial, fun hP => ⟨fun k z hk hz => ?_, (H1.out hP).2⟩⟩
          by_cases hkm : k = m
          · subst hkm
            have := HY.out.symm.trans hz
            cases this
            exact HYX.out
          · exact Int.lt_trans (rising_ltZ hP hz HY.out (by omega)) HYX.out
        case measure => simp [intOf]; omega
      · have e1 : decide (y < x) = false := decide_eq_false (by omega)
        rw [e1] at HL
        have HYX := Lib.hid hyx; clear hyx e1
        go_wp2_with fail
        refine HL.out.mono ?_
        rintro e w' ⟨rfl, rfl⟩
        go_wp2_with fail
        go_roundw
        case rel =>
          refine ⟨i, m, rfl, by go_num, by omega, by omega, trivial, fun hP => ⟨(H1.out hP).1, fun k z hk hz => ?_⟩⟩
          have h3 := HYX.out
          by_cases hkm : k = m
          · subst hkm
            have := HY.out.symm.trans hz
            cases this
            omega
          · have := rising_ltZ hP HY.out hz (by omega)
            omega
        case measure => simp [intOf]; omega
    · have hij2 : j = i := by omega
      subst hij2
      by_cases hin : j < n
      · obtain ⟨y, hy⟩ : ∃ y, l[j]? = some y := ⟨_, List.getElem?_eq_getElem (by have := HN.out; omega)⟩
        obtain ⟨xb, xo, rfl, hcl⟩ := HS.out.cells j y hy
        have HNA := Lib.hid (slIsNaN_is wr y)
        have hmem : l.Pairwise (fun a b => a < b) → (y == x) = decide (x ∈ l) ∧ ((y == x) = true → l[j]? = some x) := fun hP => by
          have h3 := (H1.out hP).2 j y (Nat.le_refl _) hy
          by_cases hyx : y = x
          · subst hyx
            rw [decide_eq_true (List.mem_of_getElem? hy)]
            exact ⟨by simp, fun _ => hy⟩
          · have hne : x ∉ l := fun hmem => by
              obtain ⟨k, hk⟩ := List.mem_iff_getElem?.1 hmem
              by_cases hkj : k < j
              · have := (H1.out hP).1 k x hkj hk; omega
              · by_cases hkj2 : k = j
                · subst hkj2; rw [hy] at hk; cases hk; exact hyx rfl
                · have := rising_ltZ hP hy hk (by omega); omega
            rw [decide_eq_false hne]
            exact ⟨by simpa using hyx, fun e => absurd (eq_of_beq e) hyx⟩
        have HMEM := Lib.hid hmem; clear hmem
        have HY := Lib.hid hy; clear hy
        cases hb : (y == x)
        · go_wp2_with fail
          refine HNA.out.mono ?_
          rintro e w' ⟨rfl, rfl⟩
          go_wp2_with fail
          go_ret2
          exact ⟨j, false, rfl, rfl, hjn, fun hP => by have := HMEM.out hP; rwa [hb] at this⟩
        · go_wp2_with fail
          go_ret2
          exact ⟨j, true, rfl, rfl, hjn, fun hP => by have := HMEM.out hP; rwa [hb] at this⟩
      · have hjn2 : j = n := by omega
        have hne : l.Pairwise (fun a b => a < b) → false = decide (x ∈ l) := fun hP => (decide_eq_false fun hmem => by
          obtain ⟨k, hk⟩ := List.mem_iff_getElem?.1 hmem
          have h4 := (List.getElem?_eq_some_iff.1 hk).1
          have := (H1.out hP).1 k x (by have := HN.out; omega) hk
          omega).symm
        have HNE := Lib.hid hne; clear hne
        have e1 : decide ((j : Int) < n) = false := decide_eq_false (by omega)
        clear hjn2
        go_wp2_with fail
        go_ret2
        exact ⟨j, false, rfl, rfl, hjn, fun hP => ⟨HNE.out hP, by simp⟩⟩
end Go.Proofs.Ytkedpifopclipaa
namespace Go.Aig
def rightLit (a : Int) : Bool := decide (a ≠ 0) && decide (-1048576 ≤ a) && decide (a ≤ 1048576)
def varL (a : Int) : Nat := if rightLit a then a.natAbs else 0
def negL (a : Int) : Bool := rightLit a && decide (a < 0)
theorem rightLit_iff (a : Int) : rightLit a = true ↔ 1 ≤ a.natAbs ∧ a.natAbs ≤ 1048576 := by unfold rightLit; simp; omega
theorem drop_cons' {α : Type} {l : List α} {k : Nat} {x : α} (h : l[k]? = some x) : l.drop k = x :: l.drop (k + 1) := by
  obtain ⟨h1, h2⟩ := List.getElem?_eq_some_iff.1 h
  rw [List.drop_eq_getElem_cons h1, h2]
end Go.Aig
namespace Go.Proofs.Ytkedpifopclipaa
open Go.RowKit Go.Mem Go.Aig
section
set_option maxRecDepth 100000 in
set_option maxHeartbeats 1000000 in
theorem litsRight_is (w : World) (a : Int) : Calls Try.prog 93 #[.int .i64 a] w fun e w' => e = .returned (.bool (rightLit a)) ∧ w = w' := by
  by_cases h0 : a = 0
  · subst h0
    go_enter Try.func93, Try.ntmps93
    go_wp2_with fail
    go_ret
    exact ⟨rfl, rfl⟩
  · have d0 : (a != 0) = true := by simpa using h0
    by_cases h1 : -1048576 ≤ a
    · have d1 : decide (-1048576 ≤ a) = true := decide_eq_true h1
      have e : rightLit a = decide (a ≤ 1048576) := by unfold rightLit; simp [h0, h1]
      rw [e]
      clear e
      go_enter Try.func93, Try.ntmps93
      go_wp2_with fail
      go_ret
      exact ⟨rfl, rfl⟩
    · have d1 : decide (-1048576 ≤ a) = false := decide_eq_false h1
      have e : rightLit a = false := by unfold rightLit; simp [h1]
      rw [e]
      clear e
      go_enter Try.func93, Try.ntmps93
      go_wp2_with fail
      go_ret
      exact ⟨rfl, rfl⟩
set_option maxRecDepth 100000 in
set_option maxHeartbeats 1000000 in
theorem litsVar_is (w : World) (a : Int) (ha : -9223372036854775808 ≤ a ∧ a ≤ 9223372036854775807) : Calls Try.prog 24 #[.int .i64 a] w fun e w' => e = .returned (.int .i64 (varL a)) ∧ w = w' := by
  have hR := litsRight_is w a
  unfold varL
  cases hr : rightLit a
  · rw [hr] at hR
    clear hr
    go_enter Try.func24, Try.ntmps24
    go_wp2_with fail
    refine hR.mono ?_
    rintro e w' ⟨rfl, rfl⟩
    go_wp2_with fail
    go_ret
    exact ⟨rfl, rfl⟩
  · rw [hr] at hR
    have hb := (rightLit_iff a).1 hr
    have hmx : ∀ ats ty, Builtin.max_ ats ty #[.int .i64 a, .int .i64 (-a)] = pure (.int .i64 (a.natAbs : Int)) := fun ats ty => by
      have e9 : (if a < -a then -a else a) = (a.natAbs : Int) := by split <;> omega
      rw [← e9]
      simp [Builtin.max_, Builtin.max2]
    have hab : -1048576 ≤ a ∧ a ≤ 1048576 := by omega
    clear hr hb ha
    go_enter Try.func24, Try.ntmps24
    go_wp2_with fail
    refine hR.mono ?_
    rintro e w' ⟨rfl, rfl⟩
    go_wp2_with fail
    go_ret
    exact ⟨rfl, rfl⟩
set_option maxRecDepth 100000 in
set_option maxHeartbeats 1000000 in
theorem litsNegated_is (w : World) (a : Int) : Calls Try.prog 25 #[.int .i64 a] w fun e w' => e = .returned (.bool (negL a)) ∧ w = w' := by
  have hR := litsRight_is w a
  unfold negL
  cases hr : rightLit a
  all_goals
    rw [hr] at hR
    clear hr
    go_enter Try.func25, Try.ntmps25
    go_wp2_with fail
    refine hR.mono ?_
    rintro e w' ⟨rfl, rfl⟩
    go_wp2_with fail
    go_ret
    exact ⟨rfl, rfl⟩
set_option maxRecDepth 100000 in
set_option maxHeartbeats 1000000 in
theorem litsOf_is (w : World) (v : Nat) (hv : 1 ≤ v ∧ v ≤ 1048576) (b : Bool) : Calls Try.prog 92 #[.int .i64 v, .bool b] w fun e w' => e = .returned (.tuple #[.int .i64 (if b then -(v : Int) else v), .int .i64 0]) ∧ w = w' := by
  have d1 : decide ((v : Int) < 1) = false := decide_eq_false (by omega)
  have d2 : decide ((1048576 : Int) < v) = false := decide_eq_false (by omega)
  cases b
  all_goals
    go_enter Try.func92, Try.ntmps92
    go_wp2_with fail
    go_ret2
    exact ⟨rfl, rfl⟩
set_option maxRecDepth 100000 in
set_option maxHeartbeats 2000000 in
theorem tsrising_is {w : World} {a : Option Addr} {m : List Int} (n c : Nat) (hn : m.length = n) (hnl : n ≤ 1000000) (hS : Sl w a m) : Calls Try.prog 91 #[.slice a n c] w fun e w' => e = .returned (.bool (rising m)) ∧ w = w' := by
  have HS := Lib.hid hS; clear hS
  have HN := Lib.hid hn; clear hn
  go_enter Try.func91, Try.ntmps91
  go_wp2_with fail
  go_loopw [3, 8] (fun l i wr => ∃ (k : Nat) (last : Int), k ≤ n ∧ i = .int .i64 k ∧ l = .int .i64 last ∧ wr = w ∧ risingF last (m.drop k) = rising m) (fun _ i _ => n - (intOf i).toNat)
  case atStart => exact ⟨0, 0, by omega, rfl, rfl, rfl, rfl⟩
  case round =>
    obtain ⟨k, last, hk, rfl, rfl, rfl, hr⟩ := hrel
    by_cases hlt : k < n
    · obtain ⟨x, hx⟩ : ∃ x, m[k]? = some x := ⟨_, List.getElem?_eq_getElem (by have := HN.out; omega)⟩
      obtain ⟨xb, xo, rfl, hcl⟩ := HS.out.cells k x hx
      rw [drop_cons' hx] at hr
      unfold risingF at hr
      have HX := Lib.hid hx; clear hx
      by_cases h1 : x ≤ last
      · have d1 : decide (x ≤ last) = true := decide_eq_true h1
        rw [decide_eq_false (by omega : ¬ last < x)] at hr
        have HR := Lib.hid hr; clear hr
        go_wp2_with fail
        go_ret
        exact ⟨by rw [← HR.out]; rfl, rfl⟩
      · have d1 : decide (x ≤ last) = false := decide_eq_false h1
        by_cases h2 : 65536 ≤ x
        · have d2 : decide (65536 ≤ x) = true := decide_eq_true h2
          rw [decide_eq_false (by omega : ¬ x < 65536)] at hr
          have HR := Lib.hid hr; clear hr
          go_wp2_with fail
          go_ret
          exact ⟨by rw [← HR.out]; simp, rfl⟩
        · have d2 : decide (65536 ≤ x) = false := decide_eq_false h2
          rw [decide_eq_true (by omega : last < x), decide_eq_true (by omega : x < 65536)] at hr
          have HR := Lib.hid hr; clear hr h1 h2
          go_wp2_with fail
          go_roundw
          case rel => exact ⟨k + 1, x, by omega, by go_num, rfl, trivial, by simpa using HR.out⟩
          case measure => simp [intOf]; omega
    · have hkn : k = n := by omega
      subst hkn
      rw [List.drop_of_length_le (by have := HN.out; omega)] at hr
      have HR := Lib.hid hr; clear hr
      go_wp2_with fail
      go_ret
      exact ⟨by rw [← HR.out]; rfl, rfl⟩
set_option maxRecDepth 100000 in
set_option maxHeartbeats 2000000 in
theorem tsLit_is {w : World} {a : Option Addr} {m : List Int} (n c : Nat) (hn : m.length = n) (hnl : n ≤ 1000000) (hS : Sl w a m) (r : Int) (hr : -9223372036854775808 ≤ r ∧ r ≤ 9223372036854775807) :
    Calls Try.prog 22 #[.slice a n c, .int .i64 r] w fun e w' => e = .returned (.tuple #[.int .i64 (litF m r), .bool (litF m r != 0)]) ∧ w = w' := by
  have hBS := BSmap_is n c hn hnl hS
  have hRI := tsrising_is n c hn hnl hS
  have hrl : rising m = true → n < 65536 := fun h => by rw [← hn]; exact rising_len h
  cases hri : rising m
  · have e : litF m r = 0 := by unfold litF; rw [if_neg (by simp [hri])]
    rw [e]
    rw [hri] at hRI
    clear e hrl hri hn hS
    have HB := Lib.hid hBS; clear hBS
    go_enter Try.func22, Try.ntmps22
    go_wp2_with fail
    refine (HB.out _).mono ?_
    rintro e w' ⟨i, b, rfl, rfl, _, _⟩
    go_wp2_with fail
    refine hRI.mono ?_
    rintro e w' ⟨rfl, rfl⟩
    go_wp2_with fail
    go_ret2
    exact ⟨rfl, rfl⟩
  · rw [hri] at hRI
    have hn6 := hrl hri
    have hpw := ((rising_iff m).1 hri).2
    by_cases h0 : r < 0
    · have e : litF m r = 0 := by unfold litF; rw [if_neg (by simp [hri]; omega)]
      rw [e]
      have d0 : decide (r < 0) = true := decide_eq_true h0
      clear e hrl hri hn hS hpw
      have HB := Lib.hid hBS; clear hBS
      go_enter Try.func22, Try.ntmps22
      go_wp2_with fail
      refine (HB.out _).mono ?_
      rintro e w' ⟨i, b, rfl, rfl, _, _⟩
      go_wp2_with fail
      refine hRI.mono ?_
      rintro e w' ⟨rfl, rfl⟩
      go_wp2_with fail
      go_ret2
      exact ⟨rfl, rfl⟩
    · have e : litF m r = litOf m r := by unfold litF; rw [if_pos ⟨hri, by omega⟩]
      rw [e]
      have d0 : decide (r < 0) = false := decide_eq_false h0
      have hB := hBS (r / 2)
      clear hrl hri hS hBS
      have HB := Lib.hid hB; clear hB
      have HP := Lib.hid hpw; clear hpw
      have HN := Lib.hid hn; clear hn
      go_enter Try.func22, Try.ntmps22
      go_wp2_with fail
      refine HB.out.mono ?_
      rintro e w' ⟨i, b, rfl, rfl, hi, hib⟩
      have hib := hib HP.out
      cases b
      · have hm : r / 2 ∉ m := of_decide_eq_false hib.1.symm
        have hl : litOf m r = 0 := by rw [litOf_zero, varOf_none hm]
        have HLL := Lib.hid hl
        clear hib hm hl
        go_wp2_with fail
        refine hRI.mono ?_
        rintro e w' ⟨rfl, rfl⟩
        go_wp2_with fail
        go_ret2
        exact ⟨by rw [HLL.out]; rfl, rfl⟩
      · have hat := hib.2 rfl
        have hlt : i < n := by have := (List.getElem?_eq_some_iff.1 hat).1; have := HN.out; omega
        have hv := varOf_at HP.out hat
        have hl : litOf m r = if (r % 2 == 1) = true then -((i : Int) + 1) else (i : Int) + 1 := by
          unfold litOf
          rw [hv]
          by_cases h : r % 2 = 1
          · rw [if_pos h, if_pos (by simpa using h)]; omega
          · rw [if_neg h, if_neg (by simpa using h)]; omega
        have hne : (litOf m r != 0) = true := by
          rw [bne_iff_ne, hl]
          split <;> omega
        have HNE := Lib.hid hne; clear hne
        have hOF := litsOf_is w (i + 1) (by omega) (r % 2 == 1)
        rw [show ((i + 1 : Nat) : Int) = (i : Int) + 1 by omega] at hOF
        rw [← hl] at hOF
        have HLL := Lib.hid hl; clear hl
        have HOF := Lib.hid hOF; clear hOF hib hat hv
        generalize hq : (r % 2 == 1) = q at *
        obtain ⟨V, hVV⟩ : ∃ V, litOf m r = V := ⟨_, rfl⟩
        rw [hVV] at HOF HNE
        have HVV := Lib.hid hVV; clear hVV
        go_wp2_with fail
        refine hRI.mono ?_
        rintro e w' ⟨rfl, rfl⟩
        go_wp2_with fail
        refine HOF.out.mono ?_
        rintro e w' ⟨rfl, rfl⟩
        go_wp2_with fail
        go_ret2
        exact ⟨by rw [HVV.out, HNE.out]; rfl, rfl⟩
set_option maxRecDepth 100000 in
set_option maxHeartbeats 2000000 in
theorem tsRef_is {w : World} {a : Option Addr} {m : List Int} (n c : Nat) (hn : m.length = n) (hnl : n ≤ 1000000) (hS : Sl w a m) (l : Int) (hl : -9223372036854775808 ≤ l ∧ l ≤ 9223372036854775807) :
    Calls Try.prog 23 #[.slice a n c, .int .i64 l] w fun e w' => e = .returned (.tuple #[.int .i64 (if 0 ≤ refF m l then refF m l else 0), .bool (decide (0 ≤ refF m l))]) ∧ w = w' := by
  have hRI := tsrising_is n c hn hnl hS
  have hV := litsVar_is w l hl
  have hNG := litsNegated_is w l
  have hv : (rising m = true ∧ 1 ≤ varL l ∧ varL l ≤ n) ↔ 0 ≤ refF m l := by
    rw [refF_nonneg, hn]
    unfold varL
    have := rightLit_iff l
    cases hq : rightLit l
    · rw [hq] at this
      rw [if_neg (by simp)]
      constructor
      · rintro ⟨_, h2, _⟩
        omega
      · rintro ⟨_, h2, _, h4⟩
        exact absurd (this.2 ⟨h2, h4⟩) (by simp)
    · rw [hq] at this
      rw [if_pos rfl]
      have h4 := this.1 rfl
      constructor
      · rintro ⟨h1, h2, h3⟩
        exact ⟨h1, h2, h3, h4.2⟩
      · rintro ⟨h1, h2, h3, _⟩
        exact ⟨h1, h2, h3⟩
  by_cases h0 : 0 ≤ refF m l
  · obtain ⟨h1, h2, h3⟩ := hv.2 h0
    have hr := (rising_iff m).1 h1
    rw [h1] at hRI
    obtain ⟨x, hx⟩ : ∃ x, m[varL l - 1]? = some x := ⟨_, List.getElem?_eq_getElem (by omega)⟩
    have hxb := hr.1 x (List.mem_of_getElem? hx)
    have he : refF m l = 2 * x + if negL l then 1 else 0 := by
      have h4 := refF_nonneg.1 h0
      have hrl := (rightLit_iff l).2 ⟨h4.2.1, h4.2.2.2⟩
      unfold refF
      rw [if_pos h4]
      unfold varL at hx
      rw [hrl, if_pos rfl] at hx
      rw [List.getD_eq_getElem?_getD, hx]
      unfold negL
      rw [hrl]
      by_cases hlt : l < 0
      · simp [hlt]
      · simp [hlt]
    rw [if_pos h0, decide_eq_true h0, he]
    obtain ⟨xb, xo, rfl, hcl⟩ := hS.cells _ x hx
    have d1 : decide ((varL l : Int) < 1) = false := decide_eq_false (by omega)
    have d2 : decide ((n : Int) < varL l) = false := decide_eq_false (by omega)
    obtain ⟨V, hV1⟩ : ∃ V, varL l = V + 1 := ⟨varL l - 1, by omega⟩
    rw [hV1] at hV hcl d1 d2 h3
    rw [Nat.add_sub_cancel] at hcl
    rw [show ((V + 1 : Nat) : Int) = (V : Int) + 1 by omega] at hV d1 d2
    generalize negL l = q at *
    clear hv h0 h1 h2 hr hx he hS hV1 hn
    cases q
    all_goals
      go_enter Try.func23, Try.ntmps23
      go_wp2_with fail
      refine hV.mono ?_
      rintro e w' ⟨rfl, rfl⟩
      go_wp2_with fail
      refine hRI.mono ?_
      rintro e w' ⟨rfl, rfl⟩
      go_wp2_with fail
      refine hNG.mono ?_
      rintro e w' ⟨rfl, rfl⟩
      go_wp2_with fail
      go_ret2
      exact ⟨by simp, rfl⟩
  · rw [if_neg h0, decide_eq_false h0]
    have hv2 : ¬ (rising m = true ∧ 1 ≤ varL l ∧ varL l ≤ n) := fun h => h0 (hv.1 h)
    clear hv h0 hS hn
    generalize varL l = V at *
    cases hri : rising m
    · rw [hri] at hRI
      clear hri hv2
      go_enter Try.func23, Try.ntmps23
      go_wp2_with fail
      refine hV.mono ?_
      rintro e w' ⟨rfl, rfl⟩
      go_wp2_with fail
      refine hRI.mono ?_
      rintro e w' ⟨rfl, rfl⟩
      go_wp2_with fail
      go_ret2
      exact ⟨rfl, rfl⟩
    · rw [hri] at hRI hv2
      by_cases hV1 : V < 1
      · have d1 : decide ((V : Int) < 1) = true := decide_eq_true (by omega)
        clear hri hv2
        go_enter Try.func23, Try.ntmps23
        go_wp2_with fail
        refine hV.mono ?_
        rintro e w' ⟨rfl, rfl⟩
        go_wp2_with fail
        refine hRI.mono ?_
        rintro e w' ⟨rfl, rfl⟩
        go_wp2_with fail
        go_ret2
        exact ⟨rfl, rfl⟩
      · have d1 : decide ((V : Int) < 1) = false := decide_eq_false (by omega)
        have hgt : n < V := by
          rcases Nat.lt_or_ge n V with h | h
          · exact h
          · exact absurd ⟨rfl, by omega, h⟩ hv2
        have d2 : decide ((n : Int) < V) = true := decide_eq_true (by omega)
        clear hri hv2
        go_enter Try.func23, Try.ntmps23
        go_wp2_with fail
        refine hV.mono ?_
        rintro e w' ⟨rfl, rfl⟩
        go_wp2_with fail
        refine hRI.mono ?_
        rintro e w' ⟨rfl, rfl⟩
        go_wp2_with fail
        go_ret2
        exact ⟨rfl, rfl⟩
end
end Go.Proofs.Ytkedpifopclipaa
namespace Go.Mem
open Go.MapKept
/-- the map holds just these keys and values -/
def NMap (w : World) (mb : Nat) (L : List (Nat × Value)) : Prop := ∃ es clock, w.heap[mb]? = some (.map es clock) ∧ (es.toList.map fun e => (e.key, e.val)) = L.map fun p => (Value.int .i64 p.1, p.2)
theorem NMap.of_heap {w w' : World} {mb : Nat} {L : List (Nat × Value)} (h : NMap w mb L) (e : w'.heap[mb]? = w.heap[mb]?) : NMap w' mb L := by
  obtain ⟨es, clock, h1, h2⟩ := h
  exact ⟨es, clock, e.trans h1, h2⟩
theorem NMap.lt {w : World} {mb : Nat} {L : List (Nat × Value)} (h : NMap w mb L) : mb < w.heap.size := by
  obtain ⟨es, clock, h1, _⟩ := h
  exact (Array.getElem?_eq_some_iff.1 h1).1
theorem NMap.ch {F : List Nat} {w w' : World} {mb : Nat} {L : List (Nat × Value)} (h : NMap w mb L) (hc : Ch F w w') (hF : mb ∉ F) : NMap w' mb L := h.of_heap (hc.block mb h.lt hF)
section
variable {P : Program} {w : World} {T K E : TypeId} {mb : Nat} {L : List (Nat × Value)}
theorem NMap.find (h : NMap w mb L) (n : Nat) : ∃ es clock, w.heap[mb]? = some (.map es clock) ∧ (es.toList.map fun e => (e.key, e.val)) = (L.map fun p => (Value.int .i64 p.1, p.2)) ∧
    ((Instr.findNow (.int .i64) (.int .i64 n) es.toList 0 = some none ∧ n ∉ L.map Prod.fst) ∨ (∃ j v, Instr.findNow (.int .i64) (.int .i64 n) es.toList 0 = some (some (j, v)) ∧ L[j]? = some (n, v))) := by
  obtain ⟨es, clock, h1, h2⟩ := h
  have hk : IsKey (.int .i64) (.int .i64 (n : Int)) := by simp [IsKey]
  have hat : ∀ (j : Nat) (e : MapEntry), es.toList[j]? = some e → ∃ m v, L[j]? = some (m, v) ∧ e.key = .int .i64 (m : Nat) ∧ e.val = v := fun j e he => by
    have := congrArg (fun l => l[j]?) h2
    simp only [List.getElem?_map, he, Option.map_some] at this
    cases hL : L[j]? with
    | none => rw [hL] at this; cases this
    | some m => rw [hL] at this; simp at this; exact ⟨m.1, m.2, rfl, this.1, this.2⟩
  have hks : ∀ x ∈ es.toList, IsKey (.int .i64) x.key := fun x hx => by
    obtain ⟨j, hj⟩ := List.mem_iff_getElem?.1 hx
    obtain ⟨m, v, _, hm, _⟩ := hat j x hj
    rw [hm]; simp [IsKey]
  refine ⟨es, clock, h1, h2, ?_⟩
  rcases findNow_spec hk es.toList 0 hks with ⟨q1, q2⟩ | ⟨j, e, q1, q2, q3⟩
  · refine .inl ⟨q1, fun hn => ?_⟩
    obtain ⟨⟨n', v⟩, hp, rfl⟩ := List.mem_map.1 hn
    obtain ⟨j, hj⟩ := List.mem_iff_getElem?.1 hp
    have hlt := (List.getElem?_eq_some_iff.1 hj).1
    have hsz : es.toList.length = L.length := by have := congrArg List.length h2; simpa using this
    obtain ⟨m, v', hm, hkm, _⟩ := hat j _ (List.getElem?_eq_getElem (by rw [hsz]; exact hlt))
    rw [hj] at hm; cases hm
    exact q2 _ (List.getElem_mem _) hkm
  · obtain ⟨m, v, hm, hkm, hv⟩ := hat j e q2
    rw [q3] at hkm
    simp at hkm
    obtain rfl : n = m := by omega
    rw [hv, Nat.zero_add] at q1
    exact .inr ⟨j, v, q1, hm⟩
theorem NMap.lookup_yes (hT : P.underlying T = some (.map K E)) (hK : P.underlying K = some (.int .i64)) (h : NMap w mb L) {n : Nat} {v : Value} (hm : (n, v) ∈ L) (hu : ∀ v', (n, v') ∈ L → v' = v) :
    (Instr.lookup T (.map (some mb)) (.int .i64 n) false).run P w = .ok v w ∧ (Instr.lookup T (.map (some mb)) (.int .i64 n) true).run P w = .ok (.tuple #[v, .bool true]) w := by
  have hk : IsKey (.int .i64) (.int .i64 (n : Int)) := by simp [IsKey]
  obtain ⟨es, clock, h1, _, ⟨q, hn⟩ | ⟨j, v', q, hn⟩⟩ := h.find n
  · exact absurd (List.mem_map.2 ⟨_, hm, rfl⟩) hn
  · rw [hu v' (List.mem_of_getElem? hn)] at q
    unfold Instr.lookup
    constructor <;> simp [run_underlying hT, run_getMap h1, run_checkKey hK hk, run_findKey hK q]
theorem NMap.lookup_no (hT : P.underlying T = some (.map K E)) (hK : P.underlying K = some (.int .i64)) {z : Value} (hz : ∀ w, (zeroValue E).run P w = .ok z w) (h : NMap w mb L) {n : Nat} (hm : n ∉ L.map Prod.fst) :
    (Instr.lookup T (.map (some mb)) (.int .i64 n) false).run P w = .ok z w ∧ (Instr.lookup T (.map (some mb)) (.int .i64 n) true).run P w = .ok (.tuple #[z, .bool false]) w := by
  have hk : IsKey (.int .i64) (.int .i64 (n : Int)) := by simp [IsKey]
  obtain ⟨es, clock, h1, _, ⟨q, hn⟩ | ⟨j, v', q, hn⟩⟩ := h.find n
  · unfold Instr.lookup
    constructor <;> simp [run_underlying hT, run_getMap h1, run_checkKey hK hk, run_findKey hK q, hz]
  · exact absurd (List.mem_map.2 ⟨_, List.mem_of_getElem? hn, rfl⟩) hm
theorem NMap.set (hT : P.underlying T = some (.map K E)) (hK : P.underlying K = some (.int .i64)) (h : NMap w mb L) {n : Nat} (hn : n ∉ L.map Prod.fst) (v : Value) :
    ∃ w', (Instr.mapUpdate T (.map (some mb)) (.int .i64 n) v).run P w = .ok () w' ∧ Ch [mb] w w' ∧ NMap w' mb (L ++ [(n, v)]) := by
  have hk : IsKey (.int .i64) (.int .i64 (n : Int)) := by simp [IsKey]
  have hch : ∀ (o : Obj), Ch [mb] w { w with heap := w.heap.setIfInBounds mb o } := fun o => ⟨rfl, rfl, rfl, by simp, fun j _ hj => Array.getElem?_setIfInBounds_ne (by simp at hj; omega)⟩
  obtain ⟨es, clock, h1, h2, ⟨q, _⟩ | ⟨j, v', q, hn2⟩⟩ := h.find n
  · have hlt := (Array.getElem?_eq_some_iff.1 h1).1
    refine ⟨_, by simp [Instr.mapUpdate, run_underlying hT, run_getMap h1, run_checkKey hK hk, run_findKey hK q, run_setMap h1, Result.andThen]; rfl, hch _, ⟨_, _, Array.getElem?_setIfInBounds_self_of_lt hlt, ?_⟩⟩
    rw [Array.toList_push, List.map_append, h2]; simp
  · exact absurd (List.mem_map.2 ⟨_, List.mem_of_getElem? hn2, rfl⟩) hn
end
end Go.Mem
