/-
  Walks over Input: an input is made. Conditions: the graph is one in memory.
  Walks over New and Inputs. Conditions: numbers; a graph in memory.
  Walks over Inputs and the library's Clone. Conditions: a graph in memory.
  The cone, plainly: what is marked, and what comes.
  Drawn regions of quiet operations, behind a fence: from the plain walk.
  A scope without a goto, behind a fence.
  A range over a function whose iterator keeps a state of its own in cells of one element type T (a slice that it makes): the contract, and the caller's law. For a body that goes on in every round.
  Walks over the cone's iterator. Conditions: a graph in memory, references of it.
  Walks over what Cone calls. Conditions: a graph in memory.
  Walks over the library's Reverse over ints. Conditions: a block of ints.
  Walks over Cone. Conditions: a graph in memory, references of it.
  Walks over the library's Equal over numbers. Conditions: two slices that are read.
  What the package's functions do to a graph in memory, each in one form (GIn before, GTo behind). Conditions: a graph in memory.
  A drawn region where two effects may come up now: each of them first.
  Slices that are read, a world under a name, the lesser of two numbers. Conditions: none beyond the hypotheses.
  What references are, for an assignment of the inputs: the meaning of the graph of ands, and that what is made means what its name says. No program in sight. Conditions: none beyond the hypotheses.
  Walks over the reference's graphs: a graph as a value (RG), Not, Right, New, Put. Conditions: a graph that can be read.
  Walks over the reference's And. Conditions: a graph that can be read, references of it.
  Walks over the reference's Or, Mux, Xor, All, Any. Conditions: a graph that can be read, references of it.
  Walks over the library's Index, Contains, IndexFunc, ContainsFunc and IsSorted over numbers. Conditions: slices that are read.
  Walks over the reference's Xor, Cut, Inputs, Depths, and over the law's refs. Conditions: a graph that can be read; a slice that can be read.
  Walks over the reference's Depths, All, Any, and over the law's refs. Conditions: a graph that can be read; a slice that can be read.
  The reference's cone, plainly, and the walk over it. Conditions: a graph that can be read, a slice of references of it.
  Parts of the walk over told: the reference's Not of any number, what a graph tells of a number. Conditions: a graph in memory.
  What an act does, by the graph and by the reference: plainly the same; ContainsFunc over numbers with a function that makes memory. Conditions: references of the graph.
  Several steps of which one may fail, plainly: the reference stops, the program goes on and cuts. Words of references. No program in sight. Conditions: none beyond the hypotheses.
  Walks over the maker of sums: put, xor, mux; the law of a step on the plain side. Conditions: a graph in memory, references of it.
  A range over a function whose iterator only reads: the contract, and the caller's law, said with the blocks that may change. The body may go on or return.
  Walks over pairs of sums: the iterator over two words side by side. Conditions: two slices of the same length.
  Walks over right and check of sums. Conditions: a graph in memory, words of any integers.
  What is known between two rounds of a loop that makes a word: a frame of blocks, the maker's state beside the reference's. Conditions: none beyond the hypotheses.
  Walks over each of sums: bit by bit. Conditions: a graph in memory, two words of it.
  Walks over sum of sums: a carry goes along. Conditions: a graph in memory, two words of it.
  Walks over Ne of sums. Conditions: a graph in memory, two words of it.
  Walks over Lt of sums. Conditions: a graph in memory, two words of it.
  Walks over each, And, Or, Xor of sums. Conditions: a graph in memory, words of any integers.
  Walks over bitword: bits of words. Conditions: numbers in range.
  A graph in memory with words that are held beside it: what is known along a law's walk. Conditions: none beyond the hypotheses.
  Walk over the chapter's examples (awake of sums): true. Conditions: none.
  Walk over Pair of chapter 23's law: a graph with two words of new inputs. Conditions: none.
  Walks over the small functions of chapter 23's laws: Refs, Ints, Clone of truths, and the reference's Right, Const, Cast. Conditions: numbers in range.
  Walks: the reference's Cast, Equal of truths, Ints. Conditions: numbers in range.
  From a law's arguments to what the walks say: numbers, slices of numbers and of truths. Conditions: those of the given row.
  Words of many assignments at once, plainly: what the nodes of a graph are for the words of its inputs, bit by bit. No program in sight. Conditions: none beyond the hypotheses.
  Walks over small functions of the laws: words, value, pick. Conditions: slices that are read.
  Walks over Same and Begin of chapter 23's laws: two graphs that are the same, and such ones that are made. Conditions: none beyond the hypotheses.
  Walks over sim: of, nodes. Conditions: a graph in memory, as many words as inputs.
-/
import Derived.Test.YtkedpifopclipaaQA
import Derived.Laws.Cover3
import Derived.OrdersIn
import Derived.ControlIn
import Derived.Scope
import Derived.WalkMore
import Derived.RangeFuncFrom
import Derived.RangeFuncNested
import Derived.RangeFuncBound
import Derived.RangeFuncCalls
import Derived.RangeFuncLeaves
import Derived.Shelf.Abstract
import Derived.Shelf.RegionOpen
import Derived.WalkKit
import Derived.OwnWalkIn
import Derived.TacticsInMore
import Derived.LoopNIn
import Derived.LoopIn
import Derived.Laws.ResultCell
import Derived.Deep.Cut
import Derived.Laws.BitsAllLaws
import Derived.Test.YtkedpifopclipaaRows
import Derived.ProofKit
import Derived.OpenShut
import Derived.ChangeOld
import Derived.Below
import Derived.Carry
import Derived.Deep.Slices
import Derived.Deep.Fields
import Derived.Laws.Bits64b
namespace Go.Proofs.Ytkedpifopclipaa
open Go.RowKit Go.Mem Go.Aig

theorem inputsFrom_input (x : Nd) (hk : x.k = 2) : ∀ (ns : List Nd) (n : Nat), inputsFrom (ns ++ [x]) n = inputsFrom ns n ++ [2 * (n + ns.length)]
  | [], n => by simp [inputsFrom, hk]
  | y :: ns, n => by
    have e : 2 * (n + 1 + ns.length) = 2 * (n + (ns.length + 1)) := by omega
    simp only [List.cons_append, inputsFrom, inputsFrom_input x hk ns, List.length_cons, e]
    split <;> simp
theorem inputs_input {ns : List Nd} {x : Nd} (hk : x.k = 2) : inputs (ns ++ [x]) = inputs ns ++ [2 * ns.length] := by
  have := inputsFrom_input x hk ns 0
  simpa [inputs] using this
def doInput (G : Gra) : Res := put G ⟨2, 0, 0, 0⟩
theorem inputsFrom_le : ∀ (ns : List Nd) (n : Nat), (inputsFrom ns n).length ≤ ns.length
  | [], n => by simp [inputsFrom]
  | x :: ns, n => by
    have := inputsFrom_le ns (n + 1)
    unfold inputsFrom
    split <;> simp <;> omega
theorem inputs_le (ns : List Nd) : (inputs ns).length ≤ ns.length := inputsFrom_le ns 0
section
variable {w : World} {g : Nat} {G : Gra} {nb ncap : Nat} {iv : Value} {mb : Nat}

set_option maxRecDepth 100000 in
set_option maxHeartbeats 2000000 in
theorem Input_is (h : GM w g G nb ncap iv mb) :
    Calls Try.prog 78 #[.pointer (some ⟨g, 0, none⟩)] w fun e w' => e = .returned (.tuple #[.int .i64 (doInput G).2.1, .int .i64 (doInput G).2.2]) ∧ GTo w g (doInput G).1 (fp g nb mb iv) w' := by
  have HN := none_no h
  have hil := inputs_le G.nodes
  unfold doInput put
  by_cases hf : G.most ≤ G.nodes.length
  · rw [if_pos hf]
    have HP := put_no_of h 2 0 0 0 ⟨2, 0, 0, 0⟩ rfl rfl rfl rfl hf
    have H := Lib.hid h; clear h
    clear hf hil
    go_enter Try.func78, Try.ntmps78
    go_wp2_with fail
    refine HN.mono ?_
    rintro e w' ⟨rfl, rfl⟩
    go_wp2_with fail
    refine HP.mono ?_
    rintro e w1 ⟨rfl, hc⟩
    have HC := Lib.hid hc; clear hc
    go_wp2_with fail
    go_ret2
    exact ⟨rfl, GTo.same ⟨_, _, _, _, H.out, rfl⟩ HC.out⟩
  · rw [if_neg hf]
    have HP := put_yes_of h 2 0 0 0 ⟨2, 0, 0, 0⟩ rfl rfl rfl rfl (by omega)
    have hm := h.ok.most
    have H := Lib.hid h; clear h
    have hlb : G.nodes.length < 65536 := by omega
    have HF := Lib.hid hf; clear hf
    go_enter Try.func78, Try.ntmps78
    go_wp2_with fail
    refine HN.mono ?_
    rintro e w' ⟨rfl, rfl⟩
    go_wp2_with fail
    refine HP.mono ?_
    rintro e w1 ⟨rfl, nb', ncap', hs⟩
    have s3 : w1.cell? ⟨g, 3, none⟩ = some iv := hs.st.cell rfl
    have f3 : w1.frozen? ⟨g, 3, none⟩ = false := hs.st.frozen
    have hg1 : g < w1.heap.size := hs.st.lt
    have hch1 : Ch [g, nb] w w1 := hs.ch
    have hsz1 := hch1.size
    have hl0 := H.out.lt
    have hWA : Ch [] w1 (w1.alloc (.cells #[.int .i64 (2 * (G.nodes.length : Int))] 45)) := (Ch.refl _ _).alloc _
    have hI : row (w1.alloc (.cells #[.int .i64 (2 * (G.nodes.length : Int))] 45)) 45 1 iv (inputs G.nodes).length (refsCells (inputs G.nodes)) := by
      refine (H.out.ins.ch hch1 (fun k hk => ?_)).ch hWA (by simp)
      have h1 := H.out.gi; have h2 := H.out.ni
      simp only [List.mem_cons, List.not_mem_nil, or_false, not_or]
      exact ⟨by rintro rfl; exact h1 hk, by rintro rfl; exact h2 hk⟩
    have hB : blk (w1.alloc (.cells #[.int .i64 (2 * (G.nodes.length : Int))] 45)) w1.heap.size [.int .i64 (2 * (G.nodes.length : Int))] := blk.new _ _ _
    have HI := Lib.hid hI; clear hI
    have HB := Lib.hid hB; clear hB
    have HS := Lib.hid hs; clear hs
    have HWA := Lib.hid hWA; clear hWA
    have HC1 := Lib.hid hch1; clear hch1
    go_wp2_with (at_builtin; go_loud (refine wpList_append_row slRefs rfl _ _ rfl (v := iv) (n := (inputs G.nodes).length) (xs := refsCells (inputs G.nodes)) rfl HI.out (ad := ⟨w1.heap.size, 0, none⟩) (m := 1) (c := 1) (news := [.int .i64 (2 * (G.nodes.length : Int))]) rfl rfl (news_blk HB.out) (by simp [Value.oneCell']) (by omega) (by omega) ?_; intro v' w2 hown hC2 hfresh; obtain ⟨ib, icap, hv⟩ := row.parts hown (by omega); have k3 : w2.cell? ⟨g, 3, none⟩ = some iv := (hC2.cell (p := ⟨g, 3, none⟩) (by simp; omega) (by have := H.out.gi; simpa [eq_comm] using this)).trans (by go_simp); have k3f : w2.frozen? ⟨g, 3, none⟩ = false := (hC2.frozen (p := ⟨g, 3, none⟩) (by simp; omega) (by have := H.out.gi; simpa [eq_comm] using this)).trans (by go_simp); have HOWN := Lib.hid hown; clear hown; have HC2 := Lib.hid hC2; clear hC2; have HFR := Lib.hid hfresh; clear hfresh; have HV := Lib.hid hv; rw [hv]; clear hv))
    go_ret2
    have hz2 := HC2.out.size
    simp at hz2
    have hown := HOWN.out
    rw [HV.out] at hown
    have hfr : ib < w1.heap.size → iv.ownBlock = some ib := fun hlt => by
      rcases HFR.out ib (by rw [HV.out]; rfl) with e | e
      · exact e
      · simp at e; omega
    have hgi := H.out.gi
    have hni := H.out.ni
    have hmi := H.out.mi
    have hivl := H.out.lt.2.2.2
    have hm1 : mb < w1.heap.size := by omega
    have hnb' : nb' < w1.heap.size := (HS.out.nodes.lt nb' rfl).2
    have e1 : ib ≠ g := fun e => by subst e; exact hgi (hfr hg1)
    have e2 : ib ≠ mb := fun e => by subst e; exact hmi (hfr hm1)
    have e3 : ib ≠ nb' := fun e => by
      subst e
      have := hfr hnb'
      rcases HS.out.fresh with e | e
      · exact hni (e ▸ this)
      · have := hivl _ this; omega
    have hgn : g ≠ nb' := by
      rcases HS.out.fresh with e | e
      · rw [e]; exact H.out.gn
      · omega
    have hmn : mb ≠ nb' := by
      rcases HS.out.fresh with e | e
      · rw [e]; exact H.out.mn
      · omega
    have hgiv : g ∉ iv.ownBlock.toList := by simpa [eq_comm] using hgi
    have hmiv : mb ∉ iv.ownBlock.toList := by simpa [eq_comm] using hmi
    have hniv : nb' ∉ iv.ownBlock.toList := by
      simp only [Option.mem_toList]
      intro hk
      rcases HS.out.fresh with e | e
      · exact hni (e ▸ hk)
      · have := hivl _ hk; omega
    have hCall : Ch iv.ownBlock.toList w1 w2 := (HWA.out.mono (by simp)).trans HC2.out (fun k hk => .inl hk)
    have hIS := inputs_input (ns := G.nodes) (x := ⟨2, 0, 0, 0⟩) rfl
    have hset : Ch [g] w2 (w2.setCell ⟨g, 3, none⟩ (.slice (some ⟨ib, 0, none⟩) ((inputs G.nodes).length + 1) icap)) := (Ch.refl _ _).setCell (by simp) _
    refine ⟨ret_ii (by simp) rfl, GTo.of (nb' := nb') (ncap' := ncap') (iv' := .slice (some ⟨ib, 0, none⟩) ((inputs G.nodes).length + 1) icap) ?_ ?_ HS.out.fresh ?_⟩
    · refine ⟨?_, ?_, ?_, ?_, H.out.gm, hgn, hmn, ?_, ?_, ?_, ?_⟩
      · have := (HS.out.st.ch hCall hgiv).set (i := 3) (.slice (some ⟨ib, 0, none⟩) ((inputs G.nodes).length + 1) icap)
        simpa using this
      · have := (HS.out.nodes.ch hCall (fun k hk => by cases hk; exact hniv)).ch hset (fun k hk => by cases hk; simp [hgn.symm])
        simpa using this
      · obtain ⟨es, clock, h1, h2⟩ := H.out.mp
        refine ⟨es, clock, ?_, h2.other (by simp)⟩
        have g1 := HC1.out.block mb (by omega) (by simp [H.out.gm.symm, H.out.mn])
        have g2 := hCall.block mb hm1 hmiv
        have g3 := hset.block mb (by omega) (by simp [H.out.gm.symm])
        exact g3.trans (g2.trans (g1.trans h1))
      · show row _ _ 1 _ (inputs (G.nodes ++ [⟨2, 0, 0, 0⟩])).length (refsCells (inputs (G.nodes ++ [⟨2, 0, 0, 0⟩])))
        rw [hIS]
        have := hown.ch hset (fun k hk => by cases hk; simp [e1])
        simpa [refsCells] using this
      · simp [Value.ownBlock, e1]
      · simp [Value.ownBlock, e3]
      · simp [Value.ownBlock, e2]
      · exact ⟨H.out.ok.wf.input, by have := HF.out; simp; omega, H.out.ok.most⟩
    · refine ((HC1.out.mono (F' := fp g nb mb iv) ?_).trans ((hCall.mono (F' := g :: iv.ownBlock.toList) (fun k hk => .inl (by simp at hk ⊢; simp [hk]))).trans hset (fun k hk => .inl (by simp at hk ⊢; simp [hk]))) ?_)
      · intro k hk; left; simp [fp] at hk ⊢; rcases hk with e | e <;> simp [e]
      · intro k hk; left; simp [fp] at hk ⊢; rcases hk with e | e <;> simp [e]
    · intro k hk
      simp only [Value.ownBlock, Option.some.injEq] at hk
      subst hk
      rcases HFR.out ib (by rw [HV.out]; rfl) with e | e
      · exact .inl e
      · simp at e; exact .inr (by omega)
end
end Go.Proofs.Ytkedpifopclipaa
namespace Go.Proofs.Ytkedpifopclipaa
open Go.RowKit Go.Mem Go.Aig

def newG (n : Nat) : Gra := ⟨n, [⟨1, 0, 0, 0⟩]⟩
theorem newG_ok {n : Nat} (h1 : 1 ≤ n) (h2 : n ≤ 65536) : Ok (newG n) := by
  refine ⟨?_, by simpa [newG] using h1, h2⟩
  have key : ∀ (m : Nat) (x : Nd), (newG n).nodes[m]? = some x → m = 0 ∧ x = ⟨1, 0, 0, 0⟩ := fun m x h => by
    have := (List.getElem?_eq_some_iff.1 h).1
    have h0 : m = 0 := by simp [newG] at this; omega
    subst h0
    simp [newG] at h
    exact ⟨rfl, h.symm⟩
  refine ⟨rfl, fun m x h hm => ?_, fun m k x y hx hy _ _ _ _ => ?_, fun m x h => ?_⟩
  · have := key m x h; omega
  · rw [(key m x hx).1, (key k y hy).1]
  · obtain ⟨rfl, rfl⟩ := key m x h; exact Nat.le_refl _
section
variable {w : World}
set_option maxRecDepth 100000 in
set_option maxHeartbeats 1000000 in
theorem New_yes (n : Nat) (h1 : 1 ≤ n) (h2 : n ≤ 65536) :
    Calls Try.prog 54 #[.int .i64 n] w fun e w' => ∃ g F, e = .returned (.tuple #[.pointer (some ⟨g, 0, none⟩), .int .i64 0]) ∧ GIn w' g (newG n) F ∧ (∀ k ∈ F, w.heap.size ≤ k) ∧ Ch [] w w' := by
  have d1 : decide ((n : Int) < 1) = false := decide_eq_false (by omega)
  have d2 : decide ((65536 : Int) < n) = false := decide_eq_false (by omega)
  have hmm := @run_makeMap Try.prog
  go_enter Try.func54, Try.ntmps54
  go_wp2_with fail
  go_ret2

  have c1 : Ch [] w (w.alloc (.cells #[.int .u8 1, .int .i64 0, .int .i64 0, .int .i64 0] 181)) := (Ch.refl _ _).alloc _
  have c2 := c1.alloc (.map #[] 0)
  have c3 := c2.alloc (.cells #[.int .i64 n, .slice (some ⟨w.heap.size, 0, none⟩) 1 1, .map (some (w.heap.size + 1)), .slice none 0 0] 161)
  have k2 : Ch [] (w.alloc (.cells #[.int .u8 1, .int .i64 0, .int .i64 0, .int .i64 0] 181)) _ := ((Ch.refl [] _).alloc (.map #[] 0)).alloc (.cells #[.int .i64 n, .slice (some ⟨w.heap.size, 0, none⟩) 1 1, .map (some (w.heap.size + 1)), .slice none 0 0] 161)
  refine ⟨w.heap.size + 2, fp (w.heap.size + 2) w.heap.size (w.heap.size + 1) (.slice none 0 0), rfl, ⟨w.heap.size, 1, .slice none 0 0, w.heap.size + 1, ?_, rfl⟩, by simp [fp], c3⟩
  refine ⟨blk.new' _ _ (by simp), ⟨rfl, .inr ⟨w.heap.size, 1, _, rfl, by omega, (k2.block _ (by simp) (by simp)).trans (heap_alloc_new w _), by simp [newG], by unfold maxLen; omega, rfl, rfl⟩⟩, ⟨#[], 0, (((Ch.refl [] _).alloc _).block _ (by simp) (by simp)).trans (by have := heap_alloc_new (w.alloc (.cells #[.int .u8 1, .int .i64 0, .int .i64 0, .int .i64 0] 181)) (.map #[] 0); simpa using this), ?_⟩, ⟨rfl, .inl ⟨rfl, rfl⟩⟩, by omega, by omega, by omega, by simp, by simp, by simp, newG_ok h1 h2⟩
  refine ⟨by simp, fun m x hx hk => ?_, by simp⟩
  have h1 := (List.getElem?_eq_some_iff.1 hx).1
  have h0 : m = 0 := by simp [newG] at h1; omega
  subst h0
  simp [newG] at hx
  subst hx
  simp at hk
end
end Go.Proofs.Ytkedpifopclipaa
namespace Go.Proofs.Ytkedpifopclipaa
open Go.RowKit Go.Mem Go.Aig
theorem eqSliceNil (w : World) (a : Option Addr) (n c : Nat) : (binOp .eql 28 (.slice a n c) (.slice none 0 0)).run Try.prog w = .ok (.bool a.isNone) w := by
  have h : Try.prog.underlying 28 = some (.slice 45) := Try.underlying28
  simp only [binOp]
  simp [run_equal_slice_nil w _ _ a n c h]
attribute [go_sem] eqSliceNil
section
variable {w : World}
set_option maxRecDepth 100000 in
set_option maxHeartbeats 1000000 in
theorem Clref_none :
    Calls Try.prog 29 #[.slice none 0 0] w fun e w' => e = .returned (.slice none 0 0) ∧ w = w' := by
  go_enter Try.func29, Try.ntmps29
  go_wp2_with fail
  go_ret
  exact ⟨rfl, rfl⟩
set_option maxRecDepth 100000 in
set_option maxHeartbeats 1000000 in
theorem Clref_some {b n cap : Nat} {xs : List Value} (hl : xs.length = n) (hbl : b < w.heap.size) (hx : ∀ i v, xs[i]? = some v → w.cell? ⟨b, i, none⟩ = some v) (h1 : ∀ u ∈ xs, u.oneCell' = true) (hn : n ≤ 1000000) :
    Calls Try.prog 29 #[.slice (some ⟨b, 0, none⟩) n cap] w fun e w' => ∃ v, e = .returned v ∧ row w' 45 1 v n xs ∧ (∀ k, v.ownBlock = some k → w.heap.size ≤ k) ∧ Ch [] w w' := by
  have hO : row (w.alloc (.cells #[] 45)) 45 1 (.slice (some ⟨w.heap.size, 0, none⟩) 0 0) 0 [] := ⟨rfl, .inr ⟨w.heap.size, 0, #[], rfl, by omega, heap_alloc_new w _, by omega, by unfold maxLen; omega, rfl, rfl⟩⟩
  have hN : ∀ j u, xs[j]? = some u → (w.alloc (.cells #[] 45)).cell? ((⟨b, 0, none⟩ : Addr).add j) = some u := fun j u hu => by
    rw [Addr.add_lit]
    exact (((Ch.refl [] w).alloc _).cell (by simpa using hbl) (by simp)).trans (by simpa using hx j u hu)
  have HO := Lib.hid hO; clear hO
  have HN := Lib.hid hN; clear hN hx
  go_enter Try.func29, Try.ntmps29
  go_wp2_with (at_builtin; go_loud (refine wpList_append_row slRefs rfl _ _ rfl (v := .slice (some ⟨w.heap.size, 0, none⟩) 0 0) (n := 0) (xs := []) rfl HO.out (ad := ⟨b, 0, none⟩) (m := n) (c := cap) (news := xs) rfl (by omega) HN.out h1 (by omega) (by omega) ?_; intro v' w2 hown hC2 hfresh; have HOWN := Lib.hid hown; clear hown; have HC2 := Lib.hid hC2; clear hC2; have HFR := Lib.hid hfresh; clear hfresh))
  go_ret
  have hown := HOWN.out
  rw [Nat.zero_add, List.nil_append] at hown
  refine ⟨_, rfl, hown, fun k hk => ?_, (((Ch.refl [] w).alloc (.cells #[] 45))).trans HC2.out (by simp)⟩
  rcases HFR.out k hk with e | e
  · simp at e; omega
  · simp at e; omega

variable {g : Nat} {G : Gra} {nb ncap : Nat} {iv : Value} {mb : Nat}
theorem cells_of_nats (l : List Nat) : ∀ u ∈ refsCells l, u.oneCell' = true := by
  intro u hu
  obtain ⟨r, _, rfl⟩ := List.mem_map.1 hu
  rfl
set_option maxRecDepth 100000 in
set_option maxHeartbeats 1000000 in
theorem Inputs_is (h : GM w g G nb ncap iv mb) :
    Calls Try.prog 30 #[.pointer (some ⟨g, 0, none⟩)] w fun e w' => ∃ v, e = .returned v ∧ row w' 45 1 v (inputs G.nodes).length (refsCells (inputs G.nodes)) ∧ (∀ k, v.ownBlock = some k → w.heap.size ≤ k) ∧ Ch [] w w' := by
  have HN := none_no h
  have ⟨c0, c1, c2, c3⟩ := h.c
  have hil := inputs_le G.nodes
  have hr := h.ok.room
  have hm := h.ok.most
  have HC : Calls Try.prog 29 #[iv] w fun e w' => ∃ v, e = .returned v ∧ row w' 45 1 v (inputs G.nodes).length (refsCells (inputs G.nodes)) ∧ (∀ k, v.ownBlock = some k → w.heap.size ≤ k) ∧ Ch [] w w' := by
    rcases h.ins.2 with ⟨rfl, h0⟩ | ⟨b, cap, cur, rfl, _, hg, _⟩
    · refine Clref_none.mono ?_
      rintro e w' ⟨rfl, rfl⟩
      exact ⟨_, rfl, h.ins, by simp, Ch.refl _ _⟩
    · refine Clref_some (by simp [refsCells]) (Array.getElem?_eq_some_iff.1 hg).1 (fun i v hv => ?_) (cells_of_nats _) (by omega)
      have := h.ins.cells (g := b) rfl i v hv
      rw [Addr.add_lit] at this
      simpa using this
  clear h hil hr hm
  go_enter Try.func30, Try.ntmps30
  go_wp2_with fail
  refine HN.mono ?_
  rintro e w' ⟨rfl, rfl⟩
  go_wp2_with fail
  refine HC.mono ?_
  rintro e w' ⟨v, rfl, h1, h2, h3⟩
  have H1 := Lib.hid h1; clear h1
  have H2 := Lib.hid h2; clear h2
  have H3 := Lib.hid h3; clear h3
  go_wp2_with fail
  go_ret
  exact ⟨_, rfl, H1.out, H2.out, H3.out⟩
end
end Go.Proofs.Ytkedpifopclipaa
namespace Go.Aig
def setMark (met : List Bool) (r : Nat) : List Bool := met.set (r / 2) true
def met0 (len : Nat) (l : List Nat) : List Bool := l.foldl setMark (List.replicate len false)
def stepMet (ns : List Nd) (met : List Bool) (n : Nat) : List Bool := match ns[n]? with
  | some x => if x.k = 3 then setMark (setMark met x.l) x.r else met
  | none => met
def coneFrom (ns : List Nd) : Nat → List Bool → List Nat
  | 0, _ => []
  | n + 1, met => if met.getD n false = true then n :: coneFrom ns n (stepMet ns met n) else coneFrom ns n met
def coneDown (ns : List Nd) (l : List Nat) : List Nat := coneFrom ns ns.length (met0 ns.length l)
def cone (ns : List Nd) (l : List Nat) : List Nat := (coneDown ns l).reverse
theorem setMark_len (met : List Bool) (r : Nat) : (setMark met r).length = met.length := by simp [setMark]
theorem stepMet_len (ns : List Nd) (met : List Bool) (n : Nat) : (stepMet ns met n).length = met.length := by
  unfold stepMet; (repeat' split) <;> simp [setMark_len]
theorem foldl_mark_len : ∀ (l : List Nat) (met : List Bool), (l.foldl setMark met).length = met.length
  | [], met => rfl
  | r :: l, met => by rw [List.foldl_cons, foldl_mark_len l, setMark_len]
theorem met0_len (len : Nat) (l : List Nat) : (met0 len l).length = len := by rw [met0, foldl_mark_len]; simp
theorem foldl_take_succ {l : List Nat} {k r : Nat} (h : l[k]? = some r) (met : List Bool) : (l.take (k + 1)).foldl setMark met = setMark ((l.take k).foldl setMark met) r := by
  rw [List.take_add_one, h]; simp
theorem coneFrom_lt (ns : List Nd) : ∀ (n : Nat) (met : List Bool), ∀ r ∈ coneFrom ns n met, r < n
  | 0, _, r, h => by cases h
  | n + 1, met, r, h => by
    unfold coneFrom at h
    split at h
    · rcases List.mem_cons.1 h with rfl | h
      · omega
      · have := coneFrom_lt ns n _ r h; omega
    · have := coneFrom_lt ns n _ r h; omega
theorem coneFrom_len (ns : List Nd) : ∀ (n : Nat) (met : List Bool), (coneFrom ns n met).length ≤ n
  | 0, _ => by simp [coneFrom]
  | n + 1, met => by
    unfold coneFrom
    split
    · have := coneFrom_len ns n (stepMet ns met n); simp; omega
    · have := coneFrom_len ns n met; omega
end Go.Aig
namespace Go.Ord
open Go
/-- an operation that is neither a call nor a defer, and of the common kinds -/
def quietOp (o : Oper) : Bool := match o.op with
  | .move _ | .assign _ | .pick .. | .load .. | .store .. | .fieldAddr .. | .binOp .. | .unOp .. | .indexAddr .. | .alloc .. | .slice .. | .field .. | .convert .. => true
  | _ => false
theorem quiet_run {P : Program} {o : Oper} (hq : quietOp o = true) {ρ : Operand → Value} {w w' : World} {x : Next} (h : (execOp ρ o).run P w = .ok x w') : (∃ v, x = .value v) ∨ x = .skip := by
  have hv : ∀ {α : Type} (s : Sem α) (f : α → Value), (do let a ← s; pure (Next.value (f a)) : Sem Next).run P w = .ok x w' → (∃ v, x = .value v) ∨ x = .skip := fun s f h => by
    rw [Sem.run_bind] at h
    cases hs : s.run P w with
    | ok a w1 => rw [hs] at h; simp at h; exact .inl ⟨_, h.1.symm⟩
    | halt z w1 => rw [hs] at h; simp [Result.andThen] at h
  have hu : ∀ (s : Sem Unit), (do s; pure Next.skip : Sem Next).run P w = .ok x w' → (∃ v, x = .value v) ∨ x = .skip := fun s h => by
    rw [Sem.run_bind] at h
    cases hs : s.run P w with
    | ok a w1 => rw [hs] at h; simp at h; exact .inr h.1.symm
    | halt z w1 => rw [hs] at h; simp [Result.andThen] at h
  unfold execOp at h
  cases ho : o.op <;> simp only [quietOp, ho] at hq h <;>
    first
      | exact absurd hq (by decide)
      | exact hv _ _ h
      | exact hu _ h
      | (simp at h; exact .inl ⟨_, h.1.symm⟩)
      | skip
theorem quiet_in {F : Fence} {n : Nat} {P : Program} {o : Oper} (hq : quietOp o = true) {a : Act} {w : World} {K : Act → World → Prop} {Q : Exit → Act → World → Prop} (h : o.wp P a w K Q) : o.wpIn F n P a w K Q := by
  have hd : ∀ c, o.op ≠ .defer c := fun c e => by simp [quietOp, e] at hq
  refine ⟨fun f hf => ?_, ?_⟩
  · unfold Oper.about at hf
    cases ho : o.op <;> simp only [quietOp, ho] at hq hf <;> first | (exact absurd hq (by decide)) | (exact absurd hf (by simp))
  · rw [Oper.semAt_eq _ _ _ hd]
    unfold Oper.wp at h
    cases hr : (execOp a.eval o).run P w with
    | ok x w' =>
      rw [hr] at h
      rcases quiet_run hq hr with ⟨v, rfl⟩ | rfl
      · exact h
      · exact h
    | halt x w' =>
      rw [hr] at h
      cases x <;> exact h
theorem any_in {F : Fence} {n : Nat} {P : Program} {ops : Array Oper} {Q : Exit → Act → World → Prop} {md : Region.Mode} (hnl : ¬ LetsOut Q) (hq : ∀ o ∈ ops.toList, quietOp o = true) : ∀ (m : Nat) (listed : Array Bool) (a : Act) (w : World), wpAny P md ops Q m listed a w → wpAnyIn F n P md ops Q m listed a w := by
  intro m
  induction m with
  | zero => intro listed a w h; exact h
  | succ m ih =>
    intro listed a w h
    refine ⟨h.1, fun i hi => ?_⟩
    have h2 := h.2 i hi
    refine wpOpIn_mono (fun a w => ih _ a w) ?_
    unfold wpOp at h2
    unfold wpOpIn
    cases ho : ops[i]? with
    | none => simpa [ho] using h2
    | some o =>
      have hqo : quietOp o = true := hq o (by
        have := Array.mem_of_getElem? ho
        exact Array.mem_def.1 this)
      simp only [ho] at h2 ⊢
      split
      · rename_i hw; simp only [hw, if_true] at h2; exact quiet_in hqo (h2.resolve_right fun h => hnl h.2)
      · rename_i hw
        simp only [hw] at h2
        refine ⟨fun f hf => ?_, h2⟩
        unfold Oper.about at hf
        cases ho2 : o.op <;> simp only [quietOp, ho2] at hqo hf <;> first | (exact absurd hqo (by decide)) | (exact absurd hf (by simp))
section
variable {F : Fence} {n : Nat} {P : Program} {l : List Oper} {Q' : Exit → Act → World → Prop}
theorem St.doorIn {id : Nat} {a : Act} {w : World} (C : World → Prop) (ks : List Kd) (A : List Nat) (R : List Nat) (hm : P.follows .mixedOrders = true) (hqq : l.all quietOp = true) (hs : stat l.toArray ks A = true) (hR : List.range l.length = R)
    (h : St P l ks A C (Q' .normal) R a w.drew) : (Code.region id l.toArray true).wpIn F n P Q' a w := by
  refine wpIn_mono (Q := only (Q' .normal)) ?_ (fun e a w ⟨he, hq⟩ => he ▸ hq)
  refine wpIn_region_any hm ?_
  subst hR
  have h2 := h List.nodup_range (fun k o e hk _ _ _ => List.mem_range.2 (by have := lt_size hk; simpa using this)) (by simp) (stat_spec hs)
  have := wpAny_of_all (P := P) (C := C) (stat_spec hs) (Q' .normal) l.length (List.range l.length) (Array.replicate l.length false) a w.drew List.nodup_range (by simp) (by simp) (by simp)
    (fun k hk => by simp at hk; simp [hk]) (by simpa using h2)
  have h3 := any_in (F := F) (n := n) (only_lets _) (fun o ho => List.all_eq_true.1 hqq o (by simpa using ho)) _ _ _ _ this
  simpa using h3
end
end Go.Ord
namespace Go
section
variable {F : Fence} {n : Nat} {P : Program} {Q : Exit → Act → World → Prop} {a : Act} {w : World}
theorem stepR_scope' {b : Frame} {k : List Item} {cs : List Frame} {c : Code} : step P (lone (b.atR a (.code (.scope c) :: k)) cs w) = .next (lone (b.atR a (.code c :: .inScope c :: k)) cs w) :=
  step_lone_go (by simp [stepG, stepG.exec, Frame.atR])
theorem stepR_inScope' {b : Frame} {k : List Item} {cs : List Frame} {c : Code} : step P (lone (b.atR a (.inScope c :: k)) cs w) = .next (lone (b.atR a k) cs w) :=
  step_lone_go (by simp [stepG, stepG.exec, Frame.atR])
theorem wpIn_scope_straight' {c : Code} (h : c.wpIn F n P (Exit.noGoto Q) a w) : (Code.scope c).wpIn F n P Q a w := by
  intro b k cs hro hb hr
  have h0 : (lone (b.atR a (.code (.scope c) :: k)) cs w).fenced P F := fenced_calm hb hr rfl
  obtain ⟨e, a₁, w₁, hq, harr⟩ := h b (.inScope c :: k) cs hro hb hr
  cases e with
  | normal => exact ⟨.normal, a₁, w₁, hq, .head h0 stepR_scope' (StepsIn.trans harr (.one (fenced_calm hb hr rfl) stepR_inScope'))⟩
  | exit id =>
    have hx : exitTo id (.inScope c :: k) = exitTo id k := by simp [exitTo]
    exact ⟨.exit id, a₁, w₁, hq, fun k' hk => .head h0 stepR_scope' (harr.1 k' (by rw [hx]; exact hk)),
      fun hr' hk => let ⟨k₁, h1, h2⟩ := harr.2 hr' (by rw [hx]; exact hk); ⟨k₁, h1, .head h0 stepR_scope' h2⟩⟩
  | goto l => exact hq.elim
  | ret => exact ⟨_, a₁, w₁, hq, .of_steps (.one h0 stepR_scope') harr⟩
  | panic ch => exact ⟨_, a₁, w₁, hq, .of_steps (.one h0 stepR_scope') harr⟩
  | outgrown => exact ⟨_, a₁, w₁, hq, .of_steps (.one h0 stepR_scope') harr⟩
end
end Go
namespace Go
open Go.RowKit
/-- what an iterator may do between two rounds: new blocks, and stores into cells of type T from B on -/
structure Still (T : TypeId) (B : Nat) (W W' : World) : Prop where
  os : W'.os = W.os
  tape : W'.tape = W.tape
  output : W'.output = W.output
  size : W.heap.size ≤ W'.heap.size
  keep : ∀ (k : Nat) (o : Obj), W.heap[k]? = some o → (k < B ∨ ∀ xs fz, o ≠ .cells xs T fz) → W'.heap[k]? = some o
/-- what the caller's word must bear: also turns of blocks that are no cells, from B on -/
structure StillI (T : TypeId) (B : Nat) (W W' : World) : Prop where
  os : W'.os = W.os
  tape : W'.tape = W.tape
  output : W'.output = W.output
  size : W.heap.size ≤ W'.heap.size
  keep : ∀ (k : Nat) (o : Obj), W.heap[k]? = some o → (k < B ∨ ∃ xs U fz, o = .cells xs U fz ∧ U ≠ T) → W'.heap[k]? = some o
def othersStay (W W' : World) : Prop := ∀ (k : Nat) (o : Obj), W.heap[k]? = some o → o.isCells = false → W'.heap[k]? = some o

section
variable {F : Fence} {n : Nat} {P : Program} {T : TypeId}
def SeqB {α : Type} (F : Fence) (n : Nat) (P : Program) (T : TypeId) (g : Nat) (lb : Array Value) (encs : α → Array Value) (Kp : World → World → Prop) (xs : List α) (w : World) : Prop :=
  ∀ (l : Nat) (J : List α → World → Prop) (W : World), Below w.heap.size w W → (∀ s A B, J s A → Still T W.heap.size A B → J s B) →
    (∀ pre x W1, J pre W1 → (pre ++ [x]) <+: xs → YieldAt F (n - 1) P l (encs x) W1 fun e W' => e = .returned (.bool true) ∧ J (pre ++ [x]) W' ∧ Kp W1 W') →
    J [] W →
    CallsIn F n P g (#[.func (.yield l) #[] #[]] ++ lb) W fun e W' => (∃ v, e = .returned v) ∧ J xs W'

theorem Still.toI {B C : Nat} {A W : World} (h : Still T B A W) (hC : C ≤ B) : StillI T C A W := ⟨h.os, h.tape, h.output, h.size, fun k o hk ho => h.keep k o hk (by
  rcases ho with h1 | ⟨xs, U, fz, rfl, hU⟩
  · exact .inl (by omega)
  · exact .inr (fun ys gz e => by cases e; exact hU rfl))⟩
theorem Still.alloc {B : Nat} {W : World} (o : Obj) : Still T B W (W.alloc o) := ⟨rfl, rfl, rfl, by simp, fun k u hk _ => (Below.heap_alloc W o k (Array.getElem?_eq_some_iff.1 hk).1).trans hk⟩
theorem Still.trans {B : Nat} {A W V : World} (h : Still T B A W) (h' : Still T B W V) : Still T B A V := ⟨h'.os.trans h.os, h'.tape.trans h.tape, h'.output.trans h.output, Nat.le_trans h.size h'.size, fun k o hk ho => h'.keep k o (h.keep k o hk ho) ho⟩
theorem Still.drew {B : Nat} {A W : World} (h : Still T B A W) : Still T B A W.drew := ⟨h.os, h.tape, h.output, h.size, h.keep⟩
theorem StillI.put {B l : Nat} {W : World} {o : Obj} (o' : Obj) (hB : B ≤ l) (hl : W.heap[l]? = some o) (ho : o.isCells = false) : StillI T B W (W.putObj l o') := ⟨rfl, rfl, rfl, by simp, fun k u hk hu => by
  by_cases hkl : k = l
  · subst hkl
    rw [hl] at hk; cases hk
    rcases hu with h1 | ⟨xs, U, fz, rfl, _⟩
    · omega
    · cases ho
  · exact (World.putObj_heap_other hkl).trans hk⟩
theorem StillI.alloc {B : Nat} {W : World} (o : Obj) : StillI T B W (W.alloc o) := ⟨rfl, rfl, rfl, by simp, fun k u hk _ => (Below.heap_alloc W o k (Array.getElem?_eq_some_iff.1 hk).1).trans hk⟩

theorem wpIn_rangeFunc_B {α : Type} {g : Operand} {ps : Array Tmp} {assign body : Code} {Q : Exit → Act → World → Prop} {a : Act} {w : World}
    (hro : F.round = none) (h1 : 1 ≤ n) {gf : Nat} {lb : Array Value} (hg : a.eval g = .func (.func gf) #[] lb) (hFg : F.fn gf) (eg : ∀ args w, (callFunc gf args).run P w = .ok (.enter gf args) w)
    {encs : α → Array Value} {Kp : World → World → Prop} {xs : List α} {w0 : World} (hseq : SeqB F (n - 1) P T gf lb encs Kp xs w0)
    (hKt : ∀ {A B C : World}, Kp A B → Kp B C → Kp A C) (hKb : ∀ (W : World) (l : Nat) (o o' : Obj), w.heap.size ≤ l → W.heap[l]? = some o → o.isCells = false → Kp W (W.putObj l o')) (hb0 : Below w0.heap.size w0 w) (hps : ∀ x, (encs x).size = ps.size)
    (I : List α → World → Prop) (hI : ∀ s A B, I s A → StillI T w.heap.size A B → I s B) (h0 : I [] w) (a₁ : α → Act)
    (hassign : ∀ (l : Nat) (x : α) (W : World) (K : Act → World → Prop), K (a₁ x) W →
      assign.wpIn (F.inRound l) (n - 1 - 1) P (Exit.then K (fun _ _ _ => False)) { tmps := (ps.zip (encs x)).foldl (fun t (p, v) => t.setIfInBounds p v) a.tmps, defers := [] } W)
    (hbody : ∀ (l : Nat) (pre : List α) (x : α) (W : World), I pre W → (pre ++ [x]) <+: xs → body.wpIn (F.inRound l) (n - 1 - 1) P (fun e _ W' => e = .normal ∧ othersStay W W' ∧ Kp W W' ∧ I (pre ++ [x]) W') (a₁ x) W)
    (hdone : ∀ (D : Nat) (W : World), w.heap.size ≤ D → I xs W → W.heap[D]? = some (.deferred (some [])) → Q .normal { a with defers := { target := .collected D, args := #[] } :: a.defers } W) :
    (Code.rangeFunc g ps assign body).wpIn F n P Q a w := by
  refine wpIn_rangeFunc fun fn hfn => ?_
  rw [hro]
  let rec0 : LoopState → Loop := fun st => { state := st, pending := none, fn, tmps := a.tmps, params := ps, assign, body, defers := w.heap.size }
  obtain ⟨W1, hW1⟩ : ∃ W1, (w.alloc (.deferred (some []))).alloc (.loop (rec0 .ready)) = W1 := ⟨_, rfl⟩
  have hz1 : W1.heap.size = w.heap.size + 2 := by rw [← hW1]; simp
  have hL1 : W1.heap[w.heap.size + 1]? = some (.loop (rec0 .ready)) := by
    rw [← hW1]; have := World.alloc_heap_new (w.alloc (.deferred (some []))) (.loop (rec0 .ready)); rwa [World.size_alloc] at this
  have hK1 : W1.heap[w.heap.size]? = some (.deferred (some [])) := by
    rw [← hW1]; exact (Below.heap_alloc _ _ _ (by simp)).trans (World.alloc_heap_new w _)
  have hI1 : I [] W1 := by rw [← hW1]; exact hI _ _ _ (hI _ _ _ h0 (StillI.alloc _)) (StillI.alloc _)
  have hb1 : Below w0.heap.size w0 W1 := by
    rw [← hW1]; exact hb0.trans ((((Below.refl _ w).alloc (Nat.le_refl _) _).alloc (by simp) _).mono hb0.size)
  refine ⟨w.heap.size + 1, [{ target := .collected w.heap.size, args := #[] }], W1, { target := .fn (.func gf) lb, args := #[.func (.yield (w.heap.size + 1)) #[] #[]] }, W1, gf,
    #[.func (.yield (w.heap.size + 1)) #[] #[]] ++ lb, W1, ?_, ?_, ?_, ?_, fun _ => h1, ?_⟩
  · rw [← hW1]; exact run_enterLoop_outer _ _ _ _ _
  · simp only [resolve, hg]
    simp [go_sem]
  · intro f' hf'; simp [Target.leads] at hf'; subst hf'; exact hFg
  · simp [invoke, go_sem, eg]
  · refine (hseq (w.heap.size + 1) (fun pre W => I pre W ∧ W.heap[w.heap.size + 1]? = some (.loop (rec0 .ready)) ∧ W.heap[w.heap.size]? = some (.deferred (some []))) W1 hb1
      (fun s A B hs hst => ⟨hI s A B hs.1 (hst.toI (by omega)), hst.keep _ _ hs.2.1 (.inr (fun _ _ e => by cases e)), hst.keep _ _ hs.2.2 (.inr (fun _ _ e => by cases e))⟩) ?_ ⟨hI1, hL1, hK1⟩).mono ?_
    · rintro pre x W ⟨hi, hl, hk⟩ hpre
      have hlt : w.heap.size + 1 < W.heap.size := (Array.getElem?_eq_some_iff.1 hl).1
      refine ⟨fn, _, assign, body, run_yield (P := P) (args := encs x) hl (hps x), roundIn_of_wpIn hfn (hassign _ x W _ ⟨_, run_beginRound hl rfl, ?_⟩)⟩
      have hl2 : (W.putObj (w.heap.size + 1) (.loop (rec0 .busy))).heap[w.heap.size + 1]? = some (.loop (rec0 .busy)) := World.putObj_heap_same hlt
      have hk2 : (W.putObj (w.heap.size + 1) (.loop (rec0 .busy))).heap[w.heap.size]? = some (.deferred (some [])) := (World.putObj_heap_other (by omega)).trans hk
      refine wpIn_mono (hbody _ pre x _ (hI _ _ _ hi (StillI.put (.loop (rec0 .busy)) (by omega) hl rfl)) hpre) ?_
      rintro e a3 W3 ⟨rfl, hk3, hkp3, hi3⟩
      have hl3 := hk3 _ _ hl2 rfl
      refine ⟨_, _, run_endRound (P := P) none hl3, rfl, ⟨hI _ _ _ hi3 (StillI.put _ (by omega) hl3 rfl), World.putObj_heap_same (Array.getElem?_eq_some_iff.1 hl3).1, (World.putObj_heap_other (by omega)).trans (hk3 _ _ hk2 rfl)⟩, ?_⟩
      exact hKt (hKt (hKb _ _ _ _ (by omega) hl rfl) hkp3) (hKb _ _ _ _ (by omega) hl3 rfl)
    · rintro e W2 ⟨⟨v, rfl⟩, hi, hl, hk⟩
      exact ⟨none, _, run_endLoop (P := P) hl (by simp [rec0]), hdone _ _ (Nat.le_refl _) (hI _ _ _ hi (StillI.put _ (by omega) hl rfl)) ((World.putObj_heap_other (by omega)).trans hk)⟩
end
end Go
namespace Go.Proofs.Ytkedpifopclipaa
open Go.RowKit Go.Mem Go.Aig Go.Shelf
attribute [local go_sem] Oper.semAt_some

/-- what a round of a loop over the cone keeps: what lies below n₀, and each slice of truths -/
structure Kb (n₀ bo : Nat) (W W' : World) : Prop where
  os : W'.os = W.os
  tape : W'.tape = W.tape
  output : W'.output = W.output
  size : W.heap.size ≤ W'.heap.size
  block : ∀ k, k < n₀ → k ≠ bo → W'.heap[k]? = W.heap[k]?
  bools : ∀ (b : Nat) (xs : Array Value), W.heap[b]? = some (Obj.cells xs 4 (0, 0)) → W'.heap[b]? = some (Obj.cells xs 4 (0, 0))
theorem Kb.trans {n₀ bo : Nat} {A B C : World} (h : Kb n₀ bo A B) (h' : Kb n₀ bo B C) : Kb n₀ bo A C := ⟨h'.os.trans h.os, h'.tape.trans h.tape, h'.output.trans h.output, Nat.le_trans h.size h'.size, fun k h1 h2 => (h'.block k h1 h2).trans (h.block k h1 h2), fun b xs hb => h'.bools b xs (h.bools b xs hb)⟩
theorem Ch.kb {bo : Nat} {w A B : World} (h : Ch [bo] w A) (hk : Kb w.heap.size bo A B) : Ch [bo] w B := ⟨hk.os.trans h.os, hk.tape.trans h.tape, hk.output.trans h.output, Nat.le_trans h.size hk.size, fun k hk1 hk2 => (hk.block k hk1 (by simpa using hk2)).trans (h.block k hk1 hk2)⟩
def bools (l : List Bool) : List Value := l.map .bool
theorem infoBool : (Try.prog.info? 4).map (fun i => (i.zero, i.size, i.bytes)) = some (some (.bool false), 1, 1) := by kernel_rfl
theorem run_make_bools (w : World) (n : Nat) (hn : n ≤ 65536) : (Instr.makeSlice 56 (.int .i64 n) (.int .i64 n)).run Try.prog w = .ok (.slice (some ⟨w.heap.size, 0, none⟩) n n) (w.alloc (.cells (bools (List.replicate n false)).toArray 4)) := by
  obtain ⟨i, hi, hz, hs, hb⟩ := info_parts infoBool
  have := run_make (P := Try.prog) w 56 4 i (.bool false) Try.underlying56 hi hz .i64 .i64 n n (by omega) (by omega) (by rw [hb]; omega) (by omega)
  rw [this, hs]
  have e : madeCells (Value.bool false).cells ((n : Int).toNat * 1) = (bools (List.replicate n false)).toArray := by
    apply Array.ext'
    have h := toList_madeCells_one (Value.bool false) ((n : Int).toNat * 1)
    simpa [bools, Value.cells] using h
  rw [e]; simp
def bblk (w : World) (b : Nat) (met : List Bool) : Prop := w.heap[b]? = some (Obj.cells (bools met).toArray 4 (0, 0))
theorem bblk.blk {w : World} {b : Nat} {met : List Bool} (h : bblk w b met) : blk w b (bools met) := ⟨_, h⟩
theorem bblk.set {w : World} {b i : Nat} {met : List Bool} (h : bblk w b met) (v : Bool) : bblk (w.setCell ⟨b, i, none⟩ (.bool v)) b (met.set i v) := by
  unfold bblk at *
  simp only [World.setCell, Array.getElem?_modify]
  rw [if_pos trivial, h]
  simp [bools, List.map_set]
theorem bblk.cell {w : World} {b i : Nat} {met : List Bool} (h : bblk w b met) (hi : i < met.length) : w.cell? ⟨b, i, none⟩ = some (.bool (met.getD i false)) := by
  refine h.blk.cell ?_
  simp [bools, hi]
theorem bblk.still {w : World} {b B : Nat} {met : List Bool} (h : bblk w b met) (hB : B ≤ b) (i : Nat) (v : Value) : Still 4 B w (w.setCell ⟨b, i, none⟩ v) := ⟨rfl, rfl, rfl, by simp, fun k o hk ho => by
  by_cases hkb : k = b
  · subst hkb
    rw [h] at hk; cases hk
    rcases ho with h1 | h1
    · omega
    · exact (h1 _ _ rfl).elim
  · exact (Below.heap_setCell w _ v k hkb).trans hk⟩
theorem bblk.kb {n₀ bo : Nat} {A B : World} {b : Nat} {met : List Bool} (h : bblk A b met) (hk : Kb n₀ bo A B) : bblk B b met := hk.bools _ _ h
section
variable {w : World} {g : Nat} {G : Gra} {nb ncap : Nat} {iv : Value} {mb : Nat}
set_option maxRecDepth 100000 in
set_option maxHeartbeats 2000000 in
theorem cone1_stops (bo : Nat) (F : Fence) (n : Nat) (hf : F.fn 164) (hro : F.round = none) (hn : 1 ≤ n) (h : GM w g G nb ncap iv mb) {x y : Nat} (bx : w.cell? ⟨x, 0, none⟩ = some (.pointer (some ⟨g, 0, none⟩))) (hxl : x < w.heap.size) {a : Option Addr} {l : List Nat} (cap : Nat) (by' : w.cell? ⟨y, 0, none⟩ = some (.slice a l.length cap)) (hyl : y < w.heap.size)
    (hS : Sl w a (l.map fun (r : Nat) => (r : Int))) (hap : ∀ p, a = some p → p.block < w.heap.size ∧ p.block ≠ bo) (hr : ∀ r ∈ l, r < 2 * G.nodes.length) (hgo : g ≠ bo) (hno : nb ≠ bo) (hxo : x ≠ bo) :
    SeqB F n Try.prog 4 164 #[.pointer (some ⟨x, 0, none⟩), .pointer (some ⟨y, 0, none⟩)] (fun (k : Nat) => #[.int .i64 k]) (Kb w.heap.size bo) (coneDown G.nodes l) w := by
  intro lp J W hW hJ hY h0
  have hc : Ch [] w W := ⟨hW.os, hW.tape, hW.output, hW.size, fun k hk _ => hW.block k hk⟩
  have hg := h.ch hc (by simp)
  have ⟨c0, c1, c2, c3⟩ := hg.c
  have hl0 := hg.lt.1
  have hln := h.lt.1
  have hpos := h.ok.wf.pos
  have hsz : G.nodes.length ≤ 65536 := by have := h.ok.room; have := h.ok.most; omega
  have bx1 := (hc.cell (p := ⟨x, 0, none⟩) hxl (by simp)).trans bx
  have by1 := (hc.cell (p := ⟨y, 0, none⟩) hyl (by simp)).trans by'
  have hxW : x < W.heap.size := Nat.lt_of_lt_of_le hxl hW.size
  have hyW : y < W.heap.size := Nat.lt_of_lt_of_le hyl hW.size
  have hmk := run_make_bools W G.nodes.length hsz
  have hbd := hS.bd
  rw [List.length_map] at hbd
  show CallsIn F n Try.prog 164 #[.func (.yield lp) #[] #[], .pointer (some ⟨x, 0, none⟩), .pointer (some ⟨y, 0, none⟩)] W _
  have H := Lib.hid hg; clear hg
  have HY := Lib.hid hY; clear hY
  have H0 := Lib.hid h0; clear h0
  have HJ := Lib.hid hJ; clear hJ
  have HC := Lib.hid hc; clear hc
  have HW := Lib.hid hW; clear hW
  have HR := Lib.hid hr; clear hr
  have HS := Lib.hid hS; clear hS
  refine callsIn_of_wp Try.func164 rfl hf ?_ hro
  simp only [Try.ntmps164, List.size_toArray, List.length_cons, List.length_nil, Nat.reduceAdd, Nat.reduceSub, Array.replicate_succ, Array.replicate_zero, List.push_toArray, List.append_toArray, List.nil_append, List.cons_append]
  refine wpIn_scope_straight' ?_
  gi_wp2
  have hst : bblk (W.alloc (Obj.cells (bools (List.replicate G.nodes.length false)).toArray 4)) W.heap.size (((l.take 0).foldl setMark (List.replicate G.nodes.length false))) := heap_alloc_new W _
  have HST := Lib.hid hst; clear hst
  gi_loopw [17] (fun i wr => ∃ k : Nat, k ≤ l.length ∧ i = .int .i64 k ∧ Ch [bo] w wr ∧ bblk wr W.heap.size ((l.take k).foldl setMark (List.replicate G.nodes.length false)) ∧ J [] wr) (fun i _ => l.length - (intOf i).toNat)
  case atStart => exact ⟨0, Nat.zero_le _, rfl, (HC.out.mono (F' := [bo]) (by simp)).alloc _, HST.out, HJ.out _ _ _ H0.out (Still.alloc _)⟩
  case round =>
    obtain ⟨k, hk, rfl, hb, hm, hj⟩ := hrel
    have HB := Lib.hid hb; clear hb
    have HM := Lib.hid hm; clear hm
    have HJ1 := Lib.hid hj; clear hj
    by_cases hlt : k < l.length
    · have hxk : l[k]? = some l[k] := List.getElem?_eq_getElem hlt
      have hrk := HR.out _ (List.getElem_mem hlt)
      generalize l[k] = r at *
      obtain ⟨b, o, rfl, hcell⟩ := HS.out.cells k (r : Int) (by simp [hxk])
      have d0 : wr.cell? ⟨b, o + k, none⟩ = some (.int .i64 r) := (World.cell?_of_block (HB.out.block b (hap _ rfl).1 (by simpa using (hap _ rfl).2))).trans hcell
      have hlen : ((l.take k).foldl setMark (List.replicate G.nodes.length false)).length = G.nodes.length := by rw [foldl_mark_len]; simp
      have m0 := HM.out.cell (i := r / 2) (by rw [hlen]; omega)
      have m1 : wr.frozen? ⟨W.heap.size, r / 2, none⟩ = false := HM.out.blk.frozen
      clear hlen hcell
      gi_wp2
      go_roundw
      case rel => exact ⟨k + 1, by omega, by go_num, HB.out.setCell (.inr HW.out.size) _, by rw [foldl_take_succ hxk]; exact HM.out.set true, HJ.out _ _ _ HJ1.out (HM.out.still (Nat.le_refl _) _ _)⟩
      case measure => simp [intOf]; omega
    · have hkl : l.take k = l := List.take_of_length_le (by omega)
      have hm := HM.out
      rw [hkl] at hm
      have HM0 := Lib.hid (show bblk wr W.heap.size (met0 G.nodes.length l) from hm); clear hm HM hkl
      have hd1 : ((G.nodes.length : Int) - 1) = ((G.nodes.length - 1 : Nat) : Int) := by omega
      gi_wp2
      refine wpIn_label ?_
      gi_wp2
      clear c0 c1 c2 c3 bx1 by1 hmk
      gi_loopw [7] (fun i wr => ∃ k : Nat, k ≤ G.nodes.length ∧ i = .int .i64 ((k : Int) - 1) ∧ Ch [bo] w wr ∧ ∃ met, bblk wr W.heap.size met ∧ met.length = G.nodes.length ∧ ∃ pre, pre ++ coneFrom G.nodes k met = coneDown G.nodes l ∧ J pre wr) (fun i _ => (intOf i + 1).toNat)
      case atStart => exact ⟨G.nodes.length, Nat.le_refl _, by go_num, HB.out, _, HM0.out, met0_len _ _, [], rfl, HJ1.out⟩
      case round =>
        obtain ⟨k2, hk2, rfl, hb2, met, hm2, hml, pre, hpre, hj2⟩ := hrel
        have HB2 := Lib.hid hb2; clear hb2
        have HM2 := Lib.hid hm2; clear hm2
        have HJ2 := Lib.hid hj2; clear hj2
        have HP := Lib.hid hpre; clear hpre
        cases k2 with
        | zero =>
          gi_wp2
          rw [Exit.noGoto_normal]
          go_end0
          have hp := HP.out
          rw [show coneFrom G.nodes 0 met = [] from rfl, List.append_nil] at hp
          exact ⟨⟨_, rfl⟩, hp ▸ HJ2.out⟩
        | succ j =>
          have ej : (((j + 1 : Nat) : Int) - 1) = (j : Int) := by omega
          rw [ej]
          have hj1 : j < G.nodes.length := by omega
          have m0 := HM2.out.cell (i := j) (by omega)
          have hd2 : decide ((0 : Int) ≤ j) = true := decide_eq_true (by omega)
          cases hmj : met.getD j false
          · rw [hmj] at m0
            have hcf : coneFrom G.nodes (j + 1) met = coneFrom G.nodes j met := by
              show (if met.getD j false = true then _ else _) = _
              rw [hmj]; try rfl
            have HCF := Lib.hid hcf; clear hcf
            gi_wp2
            go_roundw
            case rel => exact ⟨j, by omega, by go_num, HB2.out, met, HM2.out, hml, pre, by rw [← HCF.out]; exact HP.out, HJ2.out⟩
            case measure => simp [intOf]; try omega
          · rw [hmj] at m0
            have hxg : G.nodes[j]? = some G.nodes[j] := List.getElem?_eq_getElem hj1
            generalize hxe : G.nodes[j] = x0 at hxg
            clear hxe
            have hcf : coneFrom G.nodes (j + 1) met = j :: coneFrom G.nodes j (stepMet G.nodes met j) := by
              show (if met.getD j false = true then _ else _) = _
              rw [hmj]; try rfl
            have hpx : pre ++ [j] <+: coneDown G.nodes l := ⟨coneFrom G.nodes j (stepMet G.nodes met j), by rw [← HP.out, hcf]; simp⟩
            have HCF := Lib.hid hcf; clear hcf
            have HPX := Lib.hid hpx; clear hpx
            have cc : ∀ (p : Addr) (v : Value), w.cell? p = some v → p.block < w.heap.size → p.block ≠ bo → wr.cell? p = some v := fun p v hv hp hq => (World.cell?_of_block (HB2.out.block p.block hp (by simpa using hq))).trans hv
            have ⟨q0, q1, q2, q3⟩ := h.c
            have c1 := cc _ _ q1 hln hgo
            have bx1 := cc _ _ bx hxl hxo
            have ⟨n0, n1, n2, n3⟩ := h.node hxg
            have hnb := h.lt.2.1
            have n0 := cc _ _ n0 hnb hno
            have n1 := cc _ _ n1 hnb hno
            have n2 := cc _ _ n2 hnb hno
            have n3 := cc _ _ n3 hnb hno
            clear q0 q1 q2 q3 cc
            have ⟨xk, xl, xr, xd⟩ := dep_bd h.ok.1 hxg hsz
            have hMl : W.heap.size < wr.heap.size := HM2.out.blk.lt
            by_cases hk3 : x0.k = 3
            · have hb3 : ((x0.k : Int) == 3) = true := beqI (by omega)
              have hoth := h.ok.1.other j x0 hxg (by
                rcases Nat.eq_zero_or_pos j with hj0 | hj0
                · subst hj0
                  rw [h.ok.1.const] at hxg; cases hxg
                  simp at hk3
                · exact hj0)
              have ⟨o0, o1, o2, o3, o4, o5⟩ := hoth.resolve_left (by rintro rfl; simp at hk3)
              clear hoth o0 o5
              have hstep : stepMet G.nodes met j = (met.set (x0.l / 2) true).set (x0.r / 2) true := by unfold stepMet; rw [hxg]; simp [hk3, setMark]
              have ml := HM2.out.cell (i := x0.l / 2) (by omega)
              have mr := HM2.out.cell (i := x0.r / 2) (by omega)
              have fl : wr.frozen? ⟨W.heap.size, x0.l / 2, none⟩ = false := HM2.out.blk.frozen
              have fr : wr.frozen? ⟨W.heap.size, x0.r / 2, none⟩ = false := HM2.out.blk.frozen
              have hmS := (HM2.out.set (i := x0.l / 2) true).set (i := x0.r / 2) true
              have hmA : bblk ((((wr.setCell ⟨W.heap.size, x0.l / 2, none⟩ (.bool true)).setCell ⟨W.heap.size, x0.r / 2, none⟩ (.bool true)).alloc (.cells #[.int .u8 x0.k, .int .i64 x0.l, .int .i64 x0.r, .int .i64 x0.d] 181)).drew) W.heap.size ((met.set (x0.l / 2) true).set (x0.r / 2) true) := (Below.heap_alloc _ _ _ hmS.blk.lt).trans hmS
              have hst : Still 4 W.heap.size wr ((((wr.setCell ⟨W.heap.size, x0.l / 2, none⟩ (.bool true)).setCell ⟨W.heap.size, x0.r / 2, none⟩ (.bool true)).alloc (.cells #[.int .u8 x0.k, .int .i64 x0.l, .int .i64 x0.r, .int .i64 x0.d] 181)).drew) := (((HM2.out.still (Nat.le_refl _) _ _).trans ((HM2.out.set (i := x0.l / 2) true).still (Nat.le_refl _) _ _)).trans (Still.alloc _)).drew
              obtain ⟨fn, tmps, assign, body, hy, hR⟩ := HY.out pre j _ (HJ.out _ _ _ HJ2.out hst) HPX.out
              have HMS := Lib.hid hmA; clear hmS hmA
              have HSTL := Lib.hid hst; clear hst
              have HX3 := Lib.hid hk3; clear hk3
              have o3' : ¬ x0.r / 2 = x0.l / 2 := fun e => o3 e.symm
              gi_wp2
              refine Ord.St.doorIn (fun w' => w'.cell? ⟨wr.heap.size, 2, none⟩ = some (.int .i64 x0.r)) [.fl, .fl, .fl, .rd, .fl, .fl, .fl, .fl, .ho, .fl, .fl, .ef, .fl, .ef] [0, 0, 2, 6, 14, 0, 0, 64, 192, 448, 31, 1055, 4095, 8191] [0, 1, 2, 3, 4, 5, 6, 7, 8, 9, 10, 11, 12, 13] mixed (by kernel_rfl) (by kernel_rfl) rfl ?_
              refine Ord.St.fl2 (T' := ?_) 0 [1, 2, 3, 4, 5, 6, 7, 8, 9, 10, 11, 12, 13] _ _ rfl (by kernel_rfl) rfl rfl rfl rfl (fun K w' hk => ?_) ?_
              rotate_left
              · go_step; exact hk
              refine Ord.St.fl2 (T' := ?_) 1 [2, 3, 4, 5, 6, 7, 8, 9, 10, 11, 12, 13] _ _ rfl (by kernel_rfl) rfl rfl rfl rfl (fun K w' hk => ?_) ?_
              rotate_left
              · go_step; exact hk
              refine Ord.St.fl2 (T' := ?_) 2 [3, 4, 5, 6, 7, 8, 9, 10, 11, 12, 13] _ _ rfl (by kernel_rfl) rfl rfl rfl rfl (fun K w' hk => ?_) ?_
              rotate_left
              · go_step; exact hk
              refine Ord.St.rd2 (T' := ?_) 3 [4, 5, 6, 7, 8, 9, 10, 11, 12, 13] _ _ rfl (by kernel_rfl) rfl rfl rfl rfl (fun K hk => ?_) ?_
              rotate_left
              · go_step; exact hk
              refine Ord.St.fl2 (T' := ?_) 4 [5, 6, 7, 8, 9, 10, 11, 12, 13] _ _ rfl (by kernel_rfl) rfl rfl rfl rfl (fun K w' hk => ?_) ?_
              rotate_left
              · go_step; exact hk
              refine Ord.St.fl2 (T' := ?_) 5 [6, 7, 8, 9, 10, 11, 12, 13] _ _ rfl (by kernel_rfl) rfl rfl rfl rfl (fun K w' hk => ?_) ?_
              rotate_left
              · go_step; exact hk
              refine Ord.St.fl2 (T' := ?_) 6 [7, 8, 9, 10, 11, 12, 13] _ _ rfl (by kernel_rfl) rfl rfl rfl rfl (fun K w' hk => ?_) ?_
              rotate_left
              · go_step; exact hk
              refine Ord.St.fl2 (T' := ?_) 7 [8, 9, 10, 11, 12, 13] _ _ rfl (by kernel_rfl) rfl rfl rfl rfl (fun K w' hk => ?_) ?_
              rotate_left
              · go_step; exact hk
              refine Ord.St.ho2 (T' := ?_) 8 [9, 10, 11, 12, 13] _ _ rfl (by kernel_rfl) rfl rfl rfl rfl ?_ (fun K w' hw' hk => ?_) ?_
              rotate_left
              · (go_simp)
              · skip; go_step; exact hk
              refine Ord.St.fl2 (T' := ?_) 9 [10, 11, 12, 13] _ _ rfl (by kernel_rfl) rfl rfl rfl rfl (fun K w' hk => ?_) ?_
              rotate_left
              · go_step; exact hk
              refine Ord.St.fl2 (T' := ?_) 10 [11, 12, 13] _ _ rfl (by kernel_rfl) rfl rfl rfl rfl (fun K w' hk => ?_) ?_
              rotate_left
              · go_step; exact hk
              refine Ord.St.efC 11 [12, 13] _ rfl (by kernel_rfl) (fun K hK => ?_)
              go_wp2_with fail
              refine ⟨rfl, hK _ _ ?_ ?_⟩
              · (go_simp)
              clear hK K
              refine Ord.St.fl2 (T' := ?_) 12 [13] _ _ rfl (by kernel_rfl) rfl rfl rfl rfl (fun K w' hk => ?_) ?_
              rotate_left
              · go_step; exact hk
              refine Ord.St.ef 13 [] _ rfl (by kernel_rfl) (fun K hK => ?_)
              go_wp2_with fail
              refine ⟨rfl, hK _ _ ?_⟩; clear hK K
              refine Ord.St.nil ?_
              gi_wp2
              refine hR.mono ?_
              rintro e W2 ⟨rfl, hJ', hk⟩
              have HJ3 := Lib.hid hJ'; clear hJ'
              have HK := Lib.hid hk; clear hk
              gi_wp2
              go_roundw
              case rel => exact ⟨j, by omega, by go_num, Ch.kb ((((HB2.out.setCell (.inr HW.out.size) _).setCell (.inr HW.out.size) _).alloc _).drew) HK.out, _, bblk.kb HMS.out HK.out, by simp [hml], pre ++ [j], by rw [← HP.out, HCF.out, hstep]; simp, HJ3.out⟩
              case measure => simp [intOf]; try omega
            · have hb3 : ((x0.k : Int) == 3) = false := beqN (by omega)
              have hstep : stepMet G.nodes met j = met := by unfold stepMet; rw [hxg]; simp [hk3]
              obtain ⟨fn, tmps, assign, body, hy, hR⟩ := HY.out pre j (wr.alloc (.cells #[.int .u8 x0.k, .int .i64 x0.l, .int .i64 x0.r, .int .i64 x0.d] 181)) (HJ.out _ _ _ HJ2.out (Still.alloc _)) HPX.out
              have hmA : bblk (wr.alloc (.cells #[.int .u8 x0.k, .int .i64 x0.l, .int .i64 x0.r, .int .i64 x0.d] 181)) W.heap.size met := (Below.heap_alloc wr _ _ hMl).trans HM2.out
              have HMA := Lib.hid hmA; clear hmA
              gi_wp2
              refine hR.mono ?_
              rintro e W2 ⟨rfl, hJ', hk⟩
              have HJ3 := Lib.hid hJ'; clear hJ'
              have HK := Lib.hid hk; clear hk
              gi_wp2
              go_roundw
              case rel => exact ⟨j, by omega, by go_num, Ch.kb (HB2.out.alloc _) HK.out, met, HMA.out.kb HK.out, hml, pre ++ [j], by rw [← HP.out, HCF.out, hstep]; simp, HJ3.out⟩
              case measure => simp [intOf]; try omega
end
end Go.Proofs.Ytkedpifopclipaa
namespace Go.Proofs.Ytkedpifopclipaa
open Go.RowKit Go.Mem Go.Aig
theorem fnvCone1 : Fnv 85 := fnv_of Try.func85 (by simp [Try.f85]) (by simp [Try.f85])
section
variable {w : World} {g : Nat} {G : Gra} {nb ncap : Nat} {iv : Value} {mb : Nat}
set_option maxRecDepth 100000 in
set_option maxHeartbeats 1000000 in
theorem Cone1_is (h : GM w g G nb ncap iv mb) {bx : Nat} (hb : w.cell? ⟨bx, 0, none⟩ = some (.pointer (some ⟨g, 0, none⟩))) (r : Int) (hr : r ≤ 9223372036854775807) :
    Calls Try.prog 85 (#[.int .i64 r] ++ #[.pointer (some ⟨bx, 0, none⟩)]) w fun e w' => e = .returned (.bool (!right G.nodes r)) ∧ w = w' := by
  show Calls Try.prog 85 #[.int .i64 r, .pointer (some ⟨bx, 0, none⟩)] w _
  have HR := Right_is h r hr
  clear h
  generalize right G.nodes r = q at *
  go_enter Try.func85, Try.ntmps85
  go_wp2_with fail
  refine HR.mono ?_
  rintro e w' ⟨rfl, rfl⟩
  go_wp2_with fail
  go_ret
  exact ⟨ret_bool rfl, rfl⟩
set_option maxRecDepth 100000 in
set_option maxHeartbeats 1000000 in
theorem cone_is (g : Nat) (a : Option Addr) (n cap : Nat) :
    Calls Try.prog 87 #[.pointer (some ⟨g, 0, none⟩), .slice a n cap] w fun e w' => e = .returned (.func (.func 164) #[] #[.pointer (some ⟨w.heap.size, 0, none⟩), .pointer (some ⟨w.heap.size + 1, 0, none⟩)]) ∧ w' = (w.alloc (.cells #[.pointer (some ⟨g, 0, none⟩)] 27)).alloc (.cells #[.slice a n cap] 28) := by
  go_enter Try.func87, Try.ntmps87
  go_wp2_with fail
  go_ret
  exact ⟨rfl, rfl⟩
end
end Go.Proofs.Ytkedpifopclipaa
namespace Go.Proofs.Ytkedpifopclipaa
open Go.RowKit Go.Mem Go.Aig
/-- after i swaps -/
def swapped (l : List Nat) (i : Nat) (L : List Nat) : Prop := L.length = l.length ∧ ∀ p, p < l.length → L[p]? = if p < i ∨ l.length - i ≤ p then l[l.length - 1 - p]? else l[p]?
theorem swapped_zero (l : List Nat) : swapped l 0 l := ⟨rfl, fun p hp => by rw [if_neg (by omega)]⟩
theorem swapped_done {l L : List Nat} {i : Nat} (h : swapped l i L) (hi : l.length ≤ 2 * i + 1) : L = l.reverse := by
  apply List.ext_getElem?
  intro p
  by_cases hp : p < l.length
  · rw [h.2 p hp, List.getElem?_reverse hp]
    split
    · rfl
    · have : l.length - 1 - p = p := by omega
      rw [this]
  · rw [List.getElem?_eq_none (by rw [h.1]; omega), List.getElem?_eq_none (by simp; omega)]
theorem swapped_step {l L : List Nat} {i x y : Nat} (h : swapped l i L) (hi : 2 * i + 1 < l.length) (hx : L[i]? = some x) (hy : L[l.length - 1 - i]? = some y) :
    swapped l (i + 1) ((L.set i y).set (l.length - 1 - i) x) := by
  refine ⟨by simp [h.1], fun p hp => ?_⟩
  have e1 := h.2 i (by omega)
  rw [if_neg (by omega), hx] at e1
  have e2 := h.2 (l.length - 1 - i) (by omega)
  rw [if_neg (by omega), hy] at e2
  by_cases h1 : p = l.length - 1 - i
  · subst h1
    rw [List.getElem?_set_self (by simp [h.1]; omega), if_pos (by omega)]
    rw [show l.length - 1 - (l.length - 1 - i) = i from by omega]; exact e1
  · rw [List.getElem?_set_ne (by omega)]
    by_cases h2 : p = i
    · subst h2
      rw [List.getElem?_set_self (by rw [h.1]; omega), if_pos (by omega)]; exact e2
    · rw [List.getElem?_set_ne (by omega), h.2 p hp]
      by_cases h3 : p < i ∨ l.length - i ≤ p
      · rw [if_pos h3, if_pos (by omega)]
      · rw [if_neg h3, if_neg (by omega)]
section
variable {w : World}
theorem row.set {e : TypeId} {b n cap i : Nat} {xs : List Value} (h : row w e 1 (.slice (some ⟨b, 0, none⟩) n cap) n xs) (v : Value) : row (w.setCell ⟨b, i, none⟩ v) e 1 (.slice (some ⟨b, 0, none⟩) n cap) n (xs.set i v) := by
  refine ⟨by rw [List.length_set]; exact h.1, ?_⟩
  rcases h.2 with ⟨e1, _⟩ | ⟨g, cap', cur, e1, h0, hg, hle, hm, hs, ht⟩
  · cases e1
  · cases e1
    refine .inr ⟨b, cap, cur.setIfInBounds i v, rfl, h0, ?_, hle, hm, by simpa using hs, ?_⟩
    · simp only [World.setCell, Array.getElem?_modify]
      rw [if_pos trivial, hg]
      simp
    · rw [Array.toList_setIfInBounds, List.take_set, ht]
set_option maxRecDepth 100000 in
set_option maxHeartbeats 1000000 in
theorem Rev_some {b n cap : Nat} {l : List Nat} (h : row w 3 1 (.slice (some ⟨b, 0, none⟩) n cap) n (refsCells l)) (hn : n ≤ 1000000) :
    Calls Try.prog 88 #[.slice (some ⟨b, 0, none⟩) n cap] w fun e w' => (∃ v, e = .returned v) ∧ row w' 3 1 (.slice (some ⟨b, 0, none⟩) n cap) n (refsCells l.reverse) ∧ Ch [b] w w' := by
  have hl : l.length = n := by have := h.1; simpa [refsCells] using this
  have H := Lib.hid h; clear h
  go_enter Try.func88, Try.ntmps88
  go_wp2_with fail
  go_loopw [2, 3] (fun i j wr => ∃ k : Nat, 2 * k ≤ n + 1 ∧ i = .int .i64 k ∧ j = .int .i64 ((n : Int) - 1 - k) ∧ (∃ L, swapped l k L ∧ row wr 3 1 (.slice (some ⟨b, 0, none⟩) n cap) n (refsCells L)) ∧ Ch [b] w wr) (fun i _ _ => n - (intOf i).toNat)
  case atStart => exact ⟨0, by omega, rfl, by go_num, ⟨l, swapped_zero l, H.out⟩, Ch.refl _ _⟩
  case round =>
    obtain ⟨k, hk, rfl, rfl, ⟨L, hL, hrow⟩, hc⟩ := hrel
    have HL := Lib.hid hL; clear hL
    have HR := Lib.hid hrow; clear hrow
    have HC := Lib.hid hc; clear hc
    by_cases hlt : 2 * k + 1 < n
    · have ej : (n : Int) - 1 - k = ((n - 1 - k : Nat) : Int) := by omega
      rw [ej]
      have hLl : L.length = n := by rw [HL.out.1, hl]
      have hx : L[k]? = some L[k] := List.getElem?_eq_getElem (by omega)
      have hy : L[n - 1 - k]? = some L[n - 1 - k] := List.getElem?_eq_getElem (by omega)
      generalize L[k] = x at hx
      generalize L[n - 1 - k] = y at hy
      have c1 : wr.cell? ⟨b, k, none⟩ = some (.int .i64 x) := by
        have := HR.out.cells (g := b) rfl k (.int .i64 x) (by simp [refsCells, hx])
        rw [Addr.add_lit] at this; simpa using this
      have c2 : wr.cell? ⟨b, n - 1 - k, none⟩ = some (.int .i64 y) := by
        have := HR.out.cells (g := b) rfl (n - 1 - k) (.int .i64 y) (by simp [refsCells, hy])
        rw [Addr.add_lit] at this; simpa using this
      have f0 : ∀ i, wr.frozen? ⟨b, i, none⟩ = false := fun i => by
        rcases HR.out.2 with ⟨e1, _⟩ | ⟨g, cap', cur, e1, h0, hg, _⟩
        · cases e1
        · cases e1; simp [World.frozen?, hg]
      have f1 := f0 k
      have f2 := f0 (n - 1 - k)
      have hne : ¬ n - 1 - k = k := by omega
      have hne' : ¬ k = n - 1 - k := by omega
      have hd : decide ((k : Int) < ((n - 1 - k : Nat) : Int)) = true := decide_eq_true (by omega)
      have hst := swapped_step HL.out (by omega) hx (by rw [hl]; exact hy)
      have HST := Lib.hid hst; clear hst
      clear f0
      go_wp2_with fail
      refine Ord.St.door (fun _ => True) [.fl, .fl, .fl, .fl, .fl, .fl, .fl, .rd, .fl, .fl, .fl, .rd, .fl, .ef, .fl, .ef] [0, 0, 0, 0, 0, 0, 48, 112, 0, 0, 768, 1792, 4083, 8179, 16383, 32767] [0, 1, 2, 3, 4, 5, 6, 7, 8, 9, 10, 11, 12, 13, 14, 15] mixed (by kernel_rfl) rfl ?_
      refine Ord.St.fl2 (T' := ?_) 0 [1, 2, 3, 4, 5, 6, 7, 8, 9, 10, 11, 12, 13, 14, 15] _ _ rfl (by kernel_rfl) rfl rfl rfl rfl (fun K w' hk => ?_) ?_
      rotate_left
      · go_step; exact hk
      refine Ord.St.fl2 (T' := ?_) 1 [2, 3, 4, 5, 6, 7, 8, 9, 10, 11, 12, 13, 14, 15] _ _ rfl (by kernel_rfl) rfl rfl rfl rfl (fun K w' hk => ?_) ?_
      rotate_left
      · go_step; exact hk
      refine Ord.St.fl2 (T' := ?_) 2 [3, 4, 5, 6, 7, 8, 9, 10, 11, 12, 13, 14, 15] _ _ rfl (by kernel_rfl) rfl rfl rfl rfl (fun K w' hk => ?_) ?_
      rotate_left
      · go_step; exact hk
      refine Ord.St.fl2 (T' := ?_) 3 [4, 5, 6, 7, 8, 9, 10, 11, 12, 13, 14, 15] _ _ rfl (by kernel_rfl) rfl rfl rfl rfl (fun K w' hk => ?_) ?_
      rotate_left
      · go_step; exact hk
      refine Ord.St.fl2 (T' := ?_) 4 [5, 6, 7, 8, 9, 10, 11, 12, 13, 14, 15] _ _ rfl (by kernel_rfl) rfl rfl rfl rfl (fun K w' hk => ?_) ?_
      rotate_left
      · go_step; exact hk
      refine Ord.St.fl2 (T' := ?_) 5 [6, 7, 8, 9, 10, 11, 12, 13, 14, 15] _ _ rfl (by kernel_rfl) rfl rfl rfl rfl (fun K w' hk => ?_) ?_
      rotate_left
      · go_step; exact hk
      refine Ord.St.fl2 (T' := ?_) 6 [7, 8, 9, 10, 11, 12, 13, 14, 15] _ _ rfl (by kernel_rfl) rfl rfl rfl rfl (fun K w' hk => ?_) ?_
      rotate_left
      · go_step; exact hk
      refine Ord.St.rd2 (T' := ?_) 7 [8, 9, 10, 11, 12, 13, 14, 15] _ _ rfl (by kernel_rfl) rfl rfl rfl rfl (fun K hk => ?_) ?_
      rotate_left
      · go_step; exact hk
      refine Ord.St.fl2 (T' := ?_) 8 [9, 10, 11, 12, 13, 14, 15] _ _ rfl (by kernel_rfl) rfl rfl rfl rfl (fun K w' hk => ?_) ?_
      rotate_left
      · go_step; exact hk
      refine Ord.St.fl2 (T' := ?_) 9 [10, 11, 12, 13, 14, 15] _ _ rfl (by kernel_rfl) rfl rfl rfl rfl (fun K w' hk => ?_) ?_
      rotate_left
      · go_step; exact hk
      refine Ord.St.fl2 (T' := ?_) 10 [11, 12, 13, 14, 15] _ _ rfl (by kernel_rfl) rfl rfl rfl rfl (fun K w' hk => ?_) ?_
      rotate_left
      · go_step; exact hk
      refine Ord.St.rd2 (T' := ?_) 11 [12, 13, 14, 15] _ _ rfl (by kernel_rfl) rfl rfl rfl rfl (fun K hk => ?_) ?_
      rotate_left
      · go_step; exact hk
      refine Ord.St.fl2 (T' := ?_) 12 [13, 14, 15] _ _ rfl (by kernel_rfl) rfl rfl rfl rfl (fun K w' hk => ?_) ?_
      rotate_left
      · go_step; exact hk
      refine Ord.St.ef 13 [14, 15] _ rfl (by kernel_rfl) (fun K hK => ?_)
      go_wp2_with fail
      refine ⟨rfl, hK _ _ ?_⟩; clear hK K
      refine Ord.St.fl2 (T' := ?_) 14 [15] _ _ rfl (by kernel_rfl) rfl rfl rfl rfl (fun K w' hk => ?_) ?_
      rotate_left
      · go_step; exact hk
      refine Ord.St.ef 15 [] _ rfl (by kernel_rfl) (fun K hK => ?_)
      go_wp2_with fail
      refine ⟨rfl, hK _ _ ?_⟩; clear hK K
      refine Ord.St.nil ?_
      go_wp2_with fail
      go_roundw
      case rel =>
        refine ⟨k + 1, by omega, by go_num, by go_num, ⟨_, HST.out, ?_⟩, ((HC.out.setCell (by simp) _).setCell (by simp) _).drew⟩
        rw [hl]
        have := row.set (i := n - 1 - k) (row.set (i := k) HR.out (.int .i64 y)) (.int .i64 x)
        simp only [refsCells, List.map_set] at this ⊢
        exact this
      case measure => simp [intOf]; omega
    · have hd : decide ((k : Int) < (n : Int) - 1 - k) = false := decide_eq_false (by omega)
      go_wp2_with fail
      go_end0
      rw [← swapped_done HL.out (by omega)]
      exact ⟨⟨_, rfl⟩, HR.out, HC.out⟩
set_option maxRecDepth 100000 in
set_option maxHeartbeats 1000000 in
theorem Rev_nil : Calls Try.prog 88 #[.slice none 0 0] w fun e w' => (∃ v, e = .returned v) ∧ w = w' := by
  go_enter Try.func88, Try.ntmps88
  go_wp2_with fail
  refine wp_loop_rounds 1 ?_
  rw [rounds_succ]
  go_wp2_with fail
  go_end0
  exact ⟨⟨_, rfl⟩, rfl⟩
theorem Rev_is {v : Value} {n : Nat} {l : List Nat} (h : row w 3 1 v n (refsCells l)) (hn : n ≤ 1000000) :
    Calls Try.prog 88 #[v] w fun e w' => (∃ v, e = .returned v) ∧ row w' 3 1 v n (refsCells l.reverse) ∧ Ch v.ownBlock.toList w w' := by
  rcases h.2 with ⟨rfl, rfl⟩ | ⟨g, cap, cur, rfl, _⟩
  · refine Rev_nil.mono ?_
    rintro e w' ⟨he, rfl⟩
    have h1 : l = [] := by have := h.1; simpa [refsCells] using this
    subst h1
    exact ⟨he, h, Ch.refl _ _⟩
  · refine (Rev_some h hn).mono ?_
    rintro e w' ⟨he, hr, hc⟩
    exact ⟨he, hr, by simpa using hc⟩
end
end Go.Proofs.Ytkedpifopclipaa
namespace Go.Proofs.Ytkedpifopclipaa
open Go.RowKit Go.Mem Go.Aig Go.Shelf
attribute [local go_sem] Oper.semAt_some
theorem fnvcone1 : Fnv 164 := fnv_of Try.func164 (by simp [Try.f164]) (by simp [Try.f164])
theorem infoInt : (Try.prog.info? 3).map (fun i => (i.zero, i.size, i.bytes)) = some (some (.int .i64 0), 1, 8) := by kernel_rfl
section
variable {w : World} {g : Nat} {G : Gra} {nb ncap : Nat} {iv : Value} {mb : Nat}
set_option maxRecDepth 100000 in
set_option maxHeartbeats 2000000 in
theorem Cone_yes (h : GM w g G nb ncap iv mb) {a : Option Addr} {l : List Nat} (cap : Nat) (hl : Sl w a (l.map fun (r : Nat) => (r : Int))) (halt : ∀ p, a = some p → p.block < w.heap.size)
    (hr : ∀ r ∈ l, r < 2 * G.nodes.length) :
    Calls Try.prog 18 #[.pointer (some ⟨g, 0, none⟩), .slice a l.length cap] w fun e w' => ∃ v, e = .returned (.tuple #[v, .int .i64 0]) ∧ row w' 3 1 v (cone G.nodes l).length (refsCells (cone G.nodes l)) ∧ (∀ k, v.ownBlock = some k → w.heap.size ≤ k) ∧ Ch [] w w' := by
  have hW1 : Ch [] w (w.alloc (.cells #[.pointer (some ⟨g, 0, none⟩)] 27)) := (Ch.refl _ _).alloc _
  have H1 := h.ch hW1 (by simp)
  have b1 : (w.alloc (.cells #[.pointer (some ⟨g, 0, none⟩)] 27)).cell? ⟨w.heap.size, 0, none⟩ = some (.pointer (some ⟨g, 0, none⟩)) := by go_simp
  have HN := none_no H1
  have hsz : G.nodes.length ≤ 65536 := by have := h.ok.room; have := h.ok.most; omega
  have hl1 : Sl (w.alloc (.cells #[.pointer (some ⟨g, 0, none⟩)] 27)) a (l.map fun (r : Nat) => (r : Int)) := ⟨fun i x hx => by
    obtain ⟨b, o, hao, hc⟩ := hl.cells i x hx
    exact ⟨b, o, hao, (hW1.cell (p := ⟨b, o + i, none⟩) (halt ⟨b, o, none⟩ hao) (by simp)).trans hc⟩, hl.bd⟩
  have hright : ((l.map fun (r : Nat) => (r : Int)).any fun x => !right G.nodes x) = false := by
    simp [right]
    intro x hx
    have := hr x hx; omega
  have HC := CFref_is cap 85 #[.pointer (some ⟨w.heap.size, 0, none⟩)] (fun x => !right G.nodes x) hl1 (fun x hx => Cone1_is H1 b1 x (by
    obtain ⟨r, hm, rfl⟩ := List.mem_map.1 hx
    have := hr r hm; omega) ) fnvCone1
  rw [hright, List.length_map] at HC
  have HCO := fun W => cone_is (w := W) g a l.length cap
  refine (callsIn_wide (n := 4)).1 ?_
  refine callsIn_of_wp_marks Try.func18 rfl trivial ?_ rfl
  simp only [Try.ntmps18, List.size_toArray, List.length_cons, List.length_nil, Nat.reduceAdd, Nat.reduceSub, Array.replicate_succ, Array.replicate_zero, List.push_toArray, List.append_toArray, List.nil_append, List.cons_append]
  refine wpIn_wide.2 ?_
  go_wp2_with fail
  refine HN.mono ?_
  rintro e w' ⟨rfl, rfl⟩
  go_wp2_with fail
  refine HC.mono ?_
  rintro e w' ⟨rfl, rfl⟩
  go_wp2_with fail
  refine (HCO _).mono ?_
  rintro e w' ⟨rfl, rfl⟩
  go_wp2_with fail
  have hzw : ((((w.alloc (.cells #[.pointer (some ⟨g, 0, none⟩)] 27)).alloc (.cells #[.slice none 0 0] 23)).alloc (.cells #[.pointer (some ⟨g, 0, none⟩)] 27)).alloc (.cells #[.slice a l.length cap] 28)).heap.size = w.heap.size + 4 := by simp
  have hc0 : Ch [] w ((((w.alloc (.cells #[.pointer (some ⟨g, 0, none⟩)] 27)).alloc (.cells #[.slice none 0 0] 23)).alloc (.cells #[.pointer (some ⟨g, 0, none⟩)] 27)).alloc (.cells #[.slice a l.length cap] 28)) := ((((Ch.refl _ _).alloc _).alloc _).alloc _).alloc _
  have hx0 : ((((w.alloc (.cells #[.pointer (some ⟨g, 0, none⟩)] 27)).alloc (.cells #[.slice none 0 0] 23)).alloc (.cells #[.pointer (some ⟨g, 0, none⟩)] 27)).alloc (.cells #[.slice a l.length cap] 28)).cell? ⟨w.heap.size + 2, 0, none⟩ = some (.pointer (some ⟨g, 0, none⟩)) := by go_simp
  have hy0 : ((((w.alloc (.cells #[.pointer (some ⟨g, 0, none⟩)] 27)).alloc (.cells #[.slice none 0 0] 23)).alloc (.cells #[.pointer (some ⟨g, 0, none⟩)] 27)).alloc (.cells #[.slice a l.length cap] 28)).cell? ⟨w.heap.size + 3, 0, none⟩ = some (.slice a l.length cap) := by go_simp
  have hbx0 : Boxed ((((w.alloc (.cells #[.pointer (some ⟨g, 0, none⟩)] 27)).alloc (.cells #[.slice none 0 0] 23)).alloc (.cells #[.pointer (some ⟨g, 0, none⟩)] 27)).alloc (.cells #[.slice a l.length cap] 28)) (w.heap.size + 1) 23 (.slice none 0 0) := by
    refine Boxed.alloc (Boxed.alloc ?_ _) _
    have := Boxed.new (w.alloc (.cells #[.pointer (some ⟨g, 0, none⟩)] 27)) 23 (.slice none 0 0)
    simpa using this
  have hl2 : Sl ((((w.alloc (.cells #[.pointer (some ⟨g, 0, none⟩)] 27)).alloc (.cells #[.slice none 0 0] 23)).alloc (.cells #[.pointer (some ⟨g, 0, none⟩)] 27)).alloc (.cells #[.slice a l.length cap] 28)) a (l.map fun (r : Nat) => (r : Int)) := ⟨fun i x hx => by
    obtain ⟨b, o, hao, hc⟩ := hl.cells i x hx
    exact ⟨b, o, hao, (hc0.cell (p := ⟨b, o + i, none⟩) (halt ⟨b, o, none⟩ hao) (by simp)).trans hc⟩, hl.bd⟩
  have hg0 := h.ch hc0 (by simp)
  have hlt := h.lt
  clear hl1 HN HC HCO hl b1 hW1
  generalize hW0 : (((w.alloc (.cells #[.pointer (some ⟨g, 0, none⟩)] 27)).alloc (.cells #[.slice none 0 0] 23)).alloc (.cells #[.pointer (some ⟨g, 0, none⟩)] 27)).alloc (.cells #[.slice a l.length cap] 28) = W0 at *
  clear hW0
  have hst := cone1_stops (w.heap.size + 1) Fence.wide 3 trivial rfl (by omega) hg0 hx0 (by omega) cap hy0 (by omega) hl2 (fun p hp => by have := halt p hp; exact ⟨by omega, by omega⟩) hr (by omega) (by omega) (by omega)
  refine (wpIn_wide (n := 4)).1 ?_
  have hli := coneFrom_len G.nodes G.nodes.length (met0 G.nodes.length l)
  refine wpIn_rangeFunc_B (n := 4) rfl (by omega) rfl trivial (fun args w => fnvcone1 args w) hst Kb.trans ?kb (Below.refl _ _) (fun _ => rfl)
    (fun pre W => (∃ v, Boxed W (w.heap.size + 1) 23 v ∧ W.ownsRow (w.heap.size + 4) 3 1 v pre.length (refsCells pre)) ∧ Ch [] w W ∧ W0.heap.size ≤ W.heap.size) ?hi ?h0
    (fun k => { tmps := #[.pointer (some ⟨g, 0, none⟩), .slice a l.length cap, .pointer (some ⟨w.heap.size, 0, none⟩), undef, .slice none 0 0, .int .i64 0, .pointer (some ⟨w.heap.size + 1, 0, none⟩), .int .i64 k, .bool false, .pointer (some ⟨g, 0, none⟩), .bool false, .bool false, .slice a l.length cap, .func (.func 85) #[] #[.pointer (some ⟨w.heap.size, 0, none⟩)], .bool false, .pointer (some ⟨g, 0, none⟩), .slice a l.length cap, .func (.func 164) #[] #[.pointer (some ⟨w.heap.size + 1 + 1, 0, none⟩), .pointer (some ⟨w.heap.size + 1 + 1 + 1, 0, none⟩)], .int .i64 k, undef, undef, undef, undef, undef, undef, undef], defers := [] }) ?assign ?body ?done
  case kb =>
    intro W q o o' hq ho hoc
    refine ⟨rfl, rfl, rfl, by simp, fun k hk _ => World.putObj_heap_other (by omega), fun b xs hb => ?_⟩
    by_cases hbq : b = q
    · subst hbq; rw [ho] at hb; cases hb; cases hoc
    · exact (World.putObj_heap_other hbq).trans hb
  case hi =>
    rintro pre A B ⟨⟨v, hv, hrow⟩, hc, hz⟩ hs
    refine ⟨⟨v, hs.keep _ _ hv (.inr ⟨_, _, _, rfl, by decide⟩), hrow.1, ?_⟩, ⟨hs.os.trans hc.os, hs.tape.trans hc.tape, hs.output.trans hc.output, Nat.le_trans hc.size hs.size, fun k hk hkn => ?_⟩, Nat.le_trans hz hs.size⟩
    · rcases hrow.2 with e1 | ⟨g2, cap', cur, e1, h0, hg2, rest⟩
      · exact .inl e1
      · exact .inr ⟨g2, cap', cur, e1, h0, hs.keep _ _ hg2 (.inr ⟨_, _, _, rfl, by decide⟩), rest⟩
    · have hkA := hc.block k hk hkn
      have hk2 : k < A.heap.size := Nat.lt_of_lt_of_le hk hc.size
      rw [← hkA]
      rw [Array.getElem?_eq_getElem hk2]
      exact hs.keep k _ (Array.getElem?_eq_getElem hk2) (.inl (by omega))
  case h0 => exact ⟨⟨_, hbx0, rfl, .inl ⟨rfl, rfl⟩⟩, hc0, Nat.le_refl _⟩
  case assign =>
    intro q x W K hK
    gi_wp2
    exact hK
  case body =>
    rintro q pre x W ⟨⟨v, hv, hrow⟩, hc, hWl⟩ hpx
    have hxl : pre.length + 1 ≤ 65536 := by
      have := hpx.length_le
      unfold coneDown at this
      simp at this
      omega
    have hvc := hv.cell
    obtain ⟨i0, hi, hz0, hz1, hz2⟩ := info_parts infoInt
    have hrowA : (W.alloc (.cells #[.int .i64 x] 3)).ownsRow (w.heap.size + 4) 3 1 v pre.length (refsCells pre) := hrow.alloc _
    have HV := Lib.hid hv; clear hv
    have HROW := Lib.hid hrow; clear hrow
    have HC := Lib.hid hc; clear hc
    have HROWA := Lib.hid hrowA; clear hrowA
    have hWz : w.heap.size + 4 ≤ W.heap.size := by omega
    have HZ := Lib.hid hzw; clear hzw
    have HC0 := Lib.hid hc0; clear hc0
    clear hx0 hy0 hbx0 hl2 hg0 hst hright H1
    gi_wp2_with (gi_at_builtin; go_loud (refine wpListIn_append_own _ rfl _ _ _ rfl (w.heap.size + 4) 3 i0 (.int .i64 0) 1 8 Try.underlying23 hi hz0 hz1 hz2 rfl (by decide) v pre.length (refsCells pre) rfl HROWA.out ⟨W.heap.size, 0, none⟩ 1 1 [.int .i64 x] rfl rfl (news_blk (blk.new' _ _ rfl)) (by simp [Value.oneCell']) (by unfold maxLen; omega) (by omega) (by simp; omega) ?_; intro v' w1 hown hgrow _; have hnr := HV.out.not_row (by decide) HROW.out; have hv1 := (HV.out.alloc (.cells #[.int .i64 x] 3)).kept hgrow hnr; have hv1c := hv1.cell; have hv1f := hv1.frozen; obtain ⟨g', cap', rfl⟩ := ownsRow_succ hown; have HG := Lib.hid hgrow; clear hgrow; have HO := Lib.hid hown; clear hown; have HV1 := Lib.hid hv1; clear hv1; have HNR := Lib.hid hnr; clear hnr))
    gi_wp2
    have hw := HG.out
    have hr := HROW.out
    have hob : ∀ k, v.ownBlock = some k → w.heap.size + 4 ≤ k ∧ ∃ cur fz, W.heap[k]? = some (.cells cur 3 fz) := fun k hk => by
      rcases hr.2 with ⟨rfl, _⟩ | ⟨g2, c2, cur, rfl, hb, hgb, _⟩
      · simp at hk
      · simp at hk; subst hk; exact ⟨hb, _, _, hgb⟩
    have hbb := HV.out
    have hsz1 := hw.size
    simp only [World.size_alloc] at hsz1
    have hkeep : ∀ k, k < W.heap.size → some k ≠ v.ownBlock → k ≠ w.heap.size + 1 → (w1.setCell ⟨w.heap.size + 1, 0, none⟩ (.slice (some ⟨g', 0, none⟩) (pre.length + 1) cap')).heap[k]? = W.heap[k]? := fun k hk hne hnb => by
      rw [Below.heap_setCell w1 _ _ k hnb, hw.block k (by simp; omega) hne]
      exact Below.heap_alloc W _ k hk
    refine ⟨fun k o hk ho => ?_, ⟨hw.os, hw.tape, hw.output, ?_, fun k hk hne => ?_, fun b xs hb => ?_⟩, ⟨_, HV1.out.set _, ?_⟩, ((HC.out.alloc _).grown HG.out ?_).setCell ?_ _, ?_⟩
    · rw [hkeep k (Array.getElem?_eq_some_iff.1 hk).1 ?_ ?_]; exact hk
      · intro e
        obtain ⟨_, cur, fz, hc⟩ := hob k e.symm
        rw [hk] at hc; cases hc; cases ho
      · rintro rfl
        rw [show W.heap[_]? = _ from hbb] at hk; cases hk; cases ho
    · simp [World.setCell]; omega
    · rw [hkeep k (by omega) ?_ hne]
      intro e
      have := (hob k e.symm).1
      have := HZ.out; omega
    · rw [hkeep b (Array.getElem?_eq_some_iff.1 hb).1 ?_ ?_]; exact hb
      · intro e
        obtain ⟨_, cur, fz, hc⟩ := hob b e.symm
        rw [hb] at hc; cases hc
      · rintro rfl
        rw [show W.heap[_]? = _ from hbb] at hb; cases hb
    · have hO := HO.out
      rw [show refsCells (pre ++ [x]) = refsCells pre ++ [.int .i64 x] from by simp [refsCells]]
      exact hO.kept (grownBy_setCell' w1 _ _) (.inr (HV1.out.not_row (by decide) hO).symm)
    · intro k hk
      exact .inr (by have := (hob k hk).1; omega)
    · right; simp
    · omega
  case done =>
    rintro D W hD ⟨⟨v, hv, hrow⟩, hc, hz⟩ hK
    have hvc := hv.cell
    clear hst hl2 hg0 hx0 hy0 hbx0 H1 hc0 h
    have hll : (coneDown G.nodes l).length = (cone G.nodes l).length := by simp [cone]
    have hob : ∀ k, v.ownBlock = some k → w.heap.size ≤ k ∧ ∃ cur fz, W.heap[k]? = some (.cells cur 3 fz) := fun k hk => by
      rcases hrow.2 with ⟨rfl, _⟩ | ⟨g2, c2, cur, rfl, hb, hgb, _⟩
      · simp at hk
      · simp at hk; subst hk; exact ⟨by omega, _, _, hgb⟩
    have hnr := hv.not_row (by decide) hrow
    have hrow0 : row W 3 1 v (coneDown G.nodes l).length (refsCells (coneDown G.nodes l)) := by
      refine ⟨hrow.1, ?_⟩
      rcases hrow.2 with e | ⟨g2, c2, cur, e, _, rest⟩
      · exact .inl e
      · exact .inr ⟨g2, c2, cur, e, Nat.zero_le _, rest⟩
    have hrev := Rev_is hrow0 (by show (coneFrom G.nodes G.nodes.length (met0 G.nodes.length l)).length ≤ _; omega)
    rw [hll] at hrev
    have HREV := Lib.hid hrev; clear hrev
    have HV := Lib.hid hv; clear hv
    have HNR := Lib.hid hnr; clear hnr
    have HC := Lib.hid hc; clear hc
    have HK := Lib.hid hK; clear hK
    have HOB := Lib.hid hob; clear hob
    clear hrow hrow0
    clear hli
    have HLL := Lib.hid hll; clear hll
    have HZW := Lib.hid hzw; clear hzw
    go_wp2_with fail
    refine HREV.out.mono ?_
    rintro e W2 ⟨⟨v', rfl⟩, hrow2, hc2⟩
    have hb2 : W2.cell? ⟨w.heap.size + 1, 0, none⟩ = some v := (hc2.cell (p := ⟨w.heap.size + 1, 0, none⟩) HV.out.lt (by simpa using fun e => HNR.out (by rw [e]))).trans hvc
    have hK2 : W2.heap[D]? = some (.deferred (some [])) := by
      refine (hc2.block D (Array.getElem?_eq_some_iff.1 HK.out).1 ?_).trans HK.out
      intro hm
      obtain ⟨_, cur, fz, hcur⟩ := HOB.out D (by simpa using hm)
      rw [HK.out] at hcur; cases hcur
    have HK2 := Lib.hid hK2; clear hK2
    have HR2 := Lib.hid hrow2; clear hrow2
    have HC2 := Lib.hid hc2; clear hc2
    go_wp2
    refine ⟨by simp, .inl ⟨_, _, rfl, run_takeDeferred HK2.out, ?_⟩⟩
    refine ⟨.tuple #[v, .int .i64 0], by simp [results, Try.results18, go_sem], v, rfl, ownsRow_putObj HR2.out _ HK2.out rfl, fun k hk => (HOB.out k hk).1, ?_⟩
    refine Ch.trans (F' := [D]) (HC.out.trans HC2.out (fun k hk => .inr (HOB.out k (by simpa using hk)).1)) ⟨rfl, rfl, rfl, by simp, fun k hk hn => World.putObj_heap_other (by simpa using hn)⟩ (fun k hk => .inr ?_)
    simp at hk
    have := HZW.out
    omega
end
end Go.Proofs.Ytkedpifopclipaa
namespace Go.Proofs.Ytkedpifopclipaa
open Go.RowKit Go.Mem Go.Aig
theorem cell_lt {w : World} {p : Addr} {v : Value} (h : w.cell? p = some v) : p.block < w.heap.size := by
  rcases Nat.lt_or_ge p.block w.heap.size with h1 | h1
  · exact h1
  · simp [World.cell?, Array.getElem?_eq_none h1] at h
theorem Sl.ch {F : List Nat} {w w' : World} {a : Option Addr} {xs : List Int} (h : Sl w a xs) (hc : Ch F w w') (hF : ∀ p, a = some p → p.block ∉ F) : Sl w' a xs :=
  ⟨fun i x hx => by
    obtain ⟨b, o, rfl, hcell⟩ := h.cells i x hx
    exact ⟨b, o, rfl, (hc.cell (p := ⟨b, o + i, none⟩) (cell_lt hcell) (hF ⟨b, o, none⟩ rfl)).trans hcell⟩, h.bd⟩
theorem take_eq_succ {xs ys : List Int} {k : Nat} {x y : Int} (h : xs.take k = ys.take k) (hx : xs[k]? = some x) (hy : ys[k]? = some y) (e : x = y) : xs.take (k + 1) = ys.take (k + 1) := by
  rw [List.take_add_one, List.take_add_one, h, hx, hy, e]
section
variable {w : World}
set_option maxRecDepth 100000 in
set_option maxHeartbeats 1000000 in
theorem Eqint_is {a b : Option Addr} {xs ys : List Int} (ca cb : Nat) (hx : Sl w a xs) (hy : Sl w b ys) :
    Calls Try.prog 101 #[.slice a xs.length ca, .slice b ys.length cb] w fun e w' => e = .returned (.bool (decide (xs = ys))) ∧ Ch [] w w' := by
  have hbx := hx.bd
  have hby := hy.bd
  have HX := Lib.hid hx; clear hx
  have HY := Lib.hid hy; clear hy
  by_cases hl : xs.length = ys.length
  · have hne : ((xs.length : Int) != (ys.length : Int)) = false := by simp [hl]
    generalize hd : decide (xs = ys) = d
    have HD := Lib.hid hd; clear hd
    have HL := Lib.hid hl; clear hl
    go_enter Try.func101, Try.ntmps101
    go_wp2_with fail
    go_loopw [13] (fun i wr => ∃ k : Nat, k ≤ xs.length ∧ i = .int .i64 k ∧ xs.take k = ys.take k ∧ Ch [] w wr) (fun i _ => xs.length - (intOf i).toNat)
    case atStart => exact ⟨0, Nat.zero_le _, rfl, rfl, Ch.refl _ _⟩
    case round =>
      obtain ⟨k, hk, rfl, ht, hc⟩ := hrel
      have HT := Lib.hid ht; clear ht
      by_cases hlt : k < xs.length
      · have hlt2 : k < ys.length := by have := HL.out; omega
        have hxk : xs[k]? = some xs[k] := List.getElem?_eq_getElem hlt
        have hyk : ys[k]? = some ys[k] := List.getElem?_eq_getElem hlt2
        obtain ⟨b1, o1, rfl, c1⟩ := (HX.out.ch hc (by simp)).cells k _ hxk
        obtain ⟨b2, o2, rfl, c2⟩ := (HY.out.ch hc (by simp)).cells k _ hyk
        generalize xs[k] = x at *
        generalize ys[k] = y at *
        have HXK := Lib.hid hxk; clear hxk
        have HYK := Lib.hid hyk; clear hyk
        have HC := Lib.hid hc; clear hc
        by_cases hxy : x = y
        · have hb : (x != y) = false := by simp [hxy]
          have HE := Lib.hid hxy; clear hxy
          go_wp2_with fail
          refine Ord.St.door (fun _ => True) [.fl, .fl, .fl, .rd, .fl, .fl, .fl, .rd, .fl] [0, 0, 3, 7, 0, 0, 48, 112, 255] [0, 1, 2, 3, 4, 5, 6, 7, 8] mixed (by kernel_rfl) rfl ?_
          refine Ord.St.fl2 (T' := ?_) 0 [1, 2, 3, 4, 5, 6, 7, 8] _ _ rfl (by kernel_rfl) rfl rfl rfl rfl (fun K w' hk => ?_) ?_
          rotate_left
          · go_step; exact hk
          refine Ord.St.fl2 (T' := ?_) 1 [2, 3, 4, 5, 6, 7, 8] _ _ rfl (by kernel_rfl) rfl rfl rfl rfl (fun K w' hk => ?_) ?_
          rotate_left
          · go_step; exact hk
          refine Ord.St.fl2 (T' := ?_) 2 [3, 4, 5, 6, 7, 8] _ _ rfl (by kernel_rfl) rfl rfl rfl rfl (fun K w' hk => ?_) ?_
          rotate_left
          · go_step; exact hk
          refine Ord.St.rd2 (T' := ?_) 3 [4, 5, 6, 7, 8] _ _ rfl (by kernel_rfl) rfl rfl rfl rfl (fun K hk => ?_) ?_
          rotate_left
          · go_step; exact hk
          refine Ord.St.fl2 (T' := ?_) 4 [5, 6, 7, 8] _ _ rfl (by kernel_rfl) rfl rfl rfl rfl (fun K w' hk => ?_) ?_
          rotate_left
          · go_step; exact hk
          refine Ord.St.fl2 (T' := ?_) 5 [6, 7, 8] _ _ rfl (by kernel_rfl) rfl rfl rfl rfl (fun K w' hk => ?_) ?_
          rotate_left
          · go_step; exact hk
          refine Ord.St.fl2 (T' := ?_) 6 [7, 8] _ _ rfl (by kernel_rfl) rfl rfl rfl rfl (fun K w' hk => ?_) ?_
          rotate_left
          · go_step; exact hk
          refine Ord.St.rd2 (T' := ?_) 7 [8] _ _ rfl (by kernel_rfl) rfl rfl rfl rfl (fun K hk => ?_) ?_
          rotate_left
          · go_step; exact hk
          refine Ord.St.fl2 (T' := ?_) 8 [] _ _ rfl (by kernel_rfl) rfl rfl rfl rfl (fun K w' hk => ?_) ?_
          rotate_left
          · go_step; exact hk
          refine Ord.St.nil ?_
          go_wp2_with fail
          go_roundw
          case rel => exact ⟨k + 1, by omega, by go_num, take_eq_succ HT.out HXK.out HYK.out HE.out, HC.out.drew⟩
          case measure => simp [intOf]; omega
        · have hb : (x != y) = true := by simp [hxy]
          have hdf : d = false := by
            rw [← HD.out]
            refine decide_eq_false fun e => hxy ?_
            have h1 := HXK.out
            rw [e, HYK.out] at h1
            cases h1; rfl
          have HDF := Lib.hid hdf; clear hdf
          clear hxy
          go_wp2_with fail
          refine Ord.St.door (fun _ => True) [.fl, .fl, .fl, .rd, .fl, .fl, .fl, .rd, .fl] [0, 0, 3, 7, 0, 0, 48, 112, 255] [0, 1, 2, 3, 4, 5, 6, 7, 8] mixed (by kernel_rfl) rfl ?_
          refine Ord.St.fl2 (T' := ?_) 0 [1, 2, 3, 4, 5, 6, 7, 8] _ _ rfl (by kernel_rfl) rfl rfl rfl rfl (fun K w' hk => ?_) ?_
          rotate_left
          · go_step; exact hk
          refine Ord.St.fl2 (T' := ?_) 1 [2, 3, 4, 5, 6, 7, 8] _ _ rfl (by kernel_rfl) rfl rfl rfl rfl (fun K w' hk => ?_) ?_
          rotate_left
          · go_step; exact hk
          refine Ord.St.fl2 (T' := ?_) 2 [3, 4, 5, 6, 7, 8] _ _ rfl (by kernel_rfl) rfl rfl rfl rfl (fun K w' hk => ?_) ?_
          rotate_left
          · go_step; exact hk
          refine Ord.St.rd2 (T' := ?_) 3 [4, 5, 6, 7, 8] _ _ rfl (by kernel_rfl) rfl rfl rfl rfl (fun K hk => ?_) ?_
          rotate_left
          · go_step; exact hk
          refine Ord.St.fl2 (T' := ?_) 4 [5, 6, 7, 8] _ _ rfl (by kernel_rfl) rfl rfl rfl rfl (fun K w' hk => ?_) ?_
          rotate_left
          · go_step; exact hk
          refine Ord.St.fl2 (T' := ?_) 5 [6, 7, 8] _ _ rfl (by kernel_rfl) rfl rfl rfl rfl (fun K w' hk => ?_) ?_
          rotate_left
          · go_step; exact hk
          refine Ord.St.fl2 (T' := ?_) 6 [7, 8] _ _ rfl (by kernel_rfl) rfl rfl rfl rfl (fun K w' hk => ?_) ?_
          rotate_left
          · go_step; exact hk
          refine Ord.St.rd2 (T' := ?_) 7 [8] _ _ rfl (by kernel_rfl) rfl rfl rfl rfl (fun K hk => ?_) ?_
          rotate_left
          · go_step; exact hk
          refine Ord.St.fl2 (T' := ?_) 8 [] _ _ rfl (by kernel_rfl) rfl rfl rfl rfl (fun K w' hk => ?_) ?_
          rotate_left
          · go_step; exact hk
          refine Ord.St.nil ?_
          go_wp2_with fail
          go_ret
          rw [HDF.out]
          exact ⟨rfl, HC.out.drew⟩
      · have hdt : d = true := by
          rw [← HD.out]
          have h1 := HT.out
          rw [List.take_of_length_le (by omega), List.take_of_length_le (by have := HL.out; omega)] at h1
          exact decide_eq_true h1
        have HDT := Lib.hid hdt; clear hdt
        have HC := Lib.hid hc; clear hc
        go_wp2_with fail
        go_ret
        rw [HDT.out]
        exact ⟨rfl, HC.out⟩
  · have hne : ((xs.length : Int) != (ys.length : Int)) = true := by rw [bne_iff_ne]; omega
    have hd : decide (xs = ys) = false := decide_eq_false fun e => hl (by rw [e])
    rw [hd]
    clear hd
    go_enter Try.func101, Try.ntmps101
    go_wp2_with fail
    go_ret
    exact ⟨rfl, Ch.refl _ _⟩
end
end Go.Proofs.Ytkedpifopclipaa
namespace Go.Aig
/-- the node of a number, if it is a reference -/
def nodeAt (ns : List Nd) (r : Int) : Option Nd := if 0 ≤ r then ns[r.toNat / 2]? else none
def kindOf (ns : List Nd) (r : Int) : Nat := match nodeAt ns r with | some x => x.k | none => 0
def isAndAt (ns : List Nd) (r : Int) : Bool := kindOf ns r == 3
def lOf (ns : List Nd) (r : Int) : Nat := match nodeAt ns r with | some x => if x.k = 3 then x.l else 0 | none => 0
def rOf (ns : List Nd) (r : Int) : Nat := match nodeAt ns r with | some x => if x.k = 3 then x.r else 0 | none => 0
theorem nodeAt_none {ns : List Nd} {r : Int} (h : nodeAt ns r = none) : right ns r = false := by
  unfold nodeAt at h
  unfold right
  refine decide_eq_false ?_
  rintro ⟨h0, h1⟩
  rw [if_pos h0, List.getElem?_eq_none_iff] at h
  omega
theorem nodeAt_some {ns : List Nd} {r : Int} {x : Nd} (h : nodeAt ns r = some x) : 0 ≤ r ∧ ns[r.toNat / 2]? = some x := by
  unfold nodeAt at h
  split at h
  · exact ⟨by assumption, h⟩
  · cases h
end Go.Aig
namespace Go.Proofs.Ytkedpifopclipaa
open Go.RowKit Go.Mem Go.Aig
section
variable {w : World} {g : Nat} {G : Gra} {F : List Nat}
theorem Len_g (h : GIn w g G F) : Calls Try.prog 26 #[.pointer (some ⟨g, 0, none⟩)] w fun e w' => e = .returned (.int .i64 G.nodes.length) ∧ w = w' := by
  obtain ⟨_, _, _, _, h, rfl⟩ := h; exact Len_is h
theorem Right_g (h : GIn w g G F) (r : Int) (hr : r ≤ 9223372036854775807) : Calls Try.prog 86 #[.pointer (some ⟨g, 0, none⟩), .int .i64 r] w fun e w' => e = .returned (.bool (right G.nodes r)) ∧ w = w' := by
  obtain ⟨_, _, _, _, h, rfl⟩ := h; exact Right_is h r hr
theorem Kind_g (h : GIn w g G F) (r : Int) (hr : r ≤ 9223372036854775807) : Calls Try.prog 40 #[.pointer (some ⟨g, 0, none⟩), .int .i64 r] w fun e w' => e = .returned (.int .u8 (kindOf G.nodes r)) ∧ w = w' := by
  obtain ⟨_, _, _, _, h, rfl⟩ := h
  unfold kindOf
  cases hn : nodeAt G.nodes r with
  | none => exact Kind_no h r hr (nodeAt_none hn)
  | some x =>
    obtain ⟨h0, h1⟩ := nodeAt_some hn
    obtain ⟨n, rfl⟩ := Int.eq_ofNat_of_zero_le h0
    exact Kind_is h h1
set_option maxRecDepth 100000 in
set_option maxHeartbeats 400000 in
theorem Sides_off {nb ncap mb : Nat} {iv : Value} (h : GM w g G nb ncap iv mb) (r : Int) (hr : r ≤ 9223372036854775807) (hn : right G.nodes r = false) :
    Calls Try.prog 102 #[.pointer (some ⟨g, 0, none⟩), .int .i64 r] w fun e w' => e = .returned (.tuple #[.int .i64 0, .int .i64 0, .bool false]) ∧ Ch [] w w' := by
  have HK := Kind_no h r hr hn
  clear h
  go_enter Try.func102, Try.ntmps102
  go_wp2_with fail
  refine HK.mono ?_
  rintro e w' ⟨rfl, rfl⟩
  go_wp2_with fail
  go_ret3
  exact ⟨rfl, Ch.refl _ _⟩
theorem Sides_g (h : GIn w g G F) (r : Int) (hr : r ≤ 9223372036854775807) : Calls Try.prog 102 #[.pointer (some ⟨g, 0, none⟩), .int .i64 r] w fun e w' => e = .returned (.tuple #[.int .i64 (lOf G.nodes r), .int .i64 (rOf G.nodes r), .bool (isAndAt G.nodes r)]) ∧ Ch [] w w' := by
  obtain ⟨_, _, _, _, h, rfl⟩ := h
  unfold lOf rOf isAndAt kindOf
  cases hn : nodeAt G.nodes r with
  | none => exact Sides_off h r hr (nodeAt_none hn)
  | some x =>
    obtain ⟨h0, h1⟩ := nodeAt_some hn
    obtain ⟨n, rfl⟩ := Int.eq_ofNat_of_zero_le h0
    by_cases hk : x.k = 3
    · simp only [hk, if_true]
      exact Sides_is h h1 hk
    · have e : (x.k == 3) = false := by simp [hk]
      simp only [hk, if_false, e]
      exact Sides_no h h1 hk
theorem Input_g (h : GIn w g G F) : Calls Try.prog 78 #[.pointer (some ⟨g, 0, none⟩)] w fun e w' => e = .returned (.tuple #[.int .i64 (doInput G).2.1, .int .i64 (doInput G).2.2]) ∧ GTo w g (doInput G).1 F w' := by
  obtain ⟨_, _, _, _, h, rfl⟩ := h; exact Input_is h
theorem And_g (h : GIn w g G F) (a b : Int) (ba : a ≤ 9223372036854775807) (bb : b ≤ 9223372036854775807) : Calls Try.prog 69 #[.pointer (some ⟨g, 0, none⟩), .int .i64 a, .int .i64 b] w fun e w' => e = .returned (.tuple #[.int .i64 (doAnd G a b).2.1, .int .i64 (doAnd G a b).2.2]) ∧ GTo w g (doAnd G a b).1 F w' := by
  obtain ⟨_, _, _, _, h, rfl⟩ := h; exact And_is h a b ba bb
theorem Inputs_g (h : GIn w g G F) : Calls Try.prog 30 #[.pointer (some ⟨g, 0, none⟩)] w fun e w' => ∃ v, e = .returned v ∧ row w' 45 1 v (inputs G.nodes).length (refsCells (inputs G.nodes)) ∧ (∀ k, v.ownBlock = some k → w.heap.size ≤ k) ∧ Ch [] w w' := by
  obtain ⟨_, _, _, _, h, rfl⟩ := h; exact Inputs_is h
theorem Cone_g (h : GIn w g G F) {a : Option Addr} {l : List Nat} (n cap : Nat) (hn : l.length = n) (hl : Sl w a (l.map fun (r : Nat) => (r : Int))) (halt : ∀ p, a = some p → p.block < w.heap.size) (hr : ∀ r ∈ l, r < 2 * G.nodes.length) :
    Calls Try.prog 18 #[.pointer (some ⟨g, 0, none⟩), .slice a n cap] w fun e w' => ∃ v, e = .returned (.tuple #[v, .int .i64 0]) ∧ row w' 3 1 v (cone G.nodes l).length (refsCells (cone G.nodes l)) ∧ (∀ k, v.ownBlock = some k → w.heap.size ≤ k) ∧ Ch [] w w' := by
  subst hn
  obtain ⟨_, _, _, _, h, rfl⟩ := h
  exact Cone_yes h cap hl halt hr
end
/-- a graph that was made since a world w0, and all of it -/
structure Own (w0 w : World) (g : Nat) (G : Gra) (F : List Nat) : Prop where
  gin : GIn w g G F
  own : ∀ k ∈ F, w0.heap.size ≤ k
  ch : Ch [] w0 w
theorem Own.to {w0 w w' : World} {g : Nat} {G G' : Gra} {F : List Nat} (h : Own w0 w g G F) (ht : GTo w g G' F w') : ∃ F', Own w0 w' g G' F' := by
  obtain ⟨F', h1, h2, h3, _⟩ := ht
  exact ⟨F', h1, fun k hk => (h3 k hk).elim (h.own k) (fun e => Nat.le_trans h.ch.size e), h.ch.trans h2 (fun k hk => .inr (h.own k hk))⟩
end Go.Proofs.Ytkedpifopclipaa
namespace Go.Ord
section
variable {P : Program} {l : List Oper} {ks : List Kd} {A : List Nat} {C : World → Prop} {Q : Act → World → Prop}
/-- the look at one of the effects that may come up -/
def chkB (ops : Array Oper) (ks : List Kd) (R R' : List Nat) (i : Nat) : Bool := R.contains i && readyIn ops R i && decide (R.erase i = R') && decide (kd ks i = .ef)
theorem chkB_spec {ops : Array Oper} {R R' : List Nat} {i : Nat} (h : chkB ops ks R R' i = true) : i ∈ R ∧ readyIn ops R i = true ∧ R.erase i = R' ∧ kd ks i = .ef := by
  simp only [chkB, Bool.and_eq_true, decide_eq_true_eq] at h
  exact ⟨by simpa using h.1.1.1, h.1.1.2, h.1.2, h.2⟩
theorem ef_op {R R' : List Nat} {a : Act} {w : World} (i : Nat) (o : Oper) (hil : l[i]? = some o) (hchk : chkB l.toArray ks R R' i = true)
    (h : ∀ K : Act → World → Prop, (∀ a w, C w → St P l ks A C Q R' a w → K a w) → wpList P l.toArray (only K) [o] a w) (hn : R.Nodup) (hu : Up l.toArray R) (hlt : ∀ k ∈ R, k < l.toArray.size) (hs : Stat l.toArray ks A) :
    wpOp P l.toArray (only Q) i (fun a' w' => post ks A l.toArray.size C i w w' ∧ allOrd l.toArray (wpOp P l.toArray (only Q)) ks A C Q (R.length - 1) (R.erase i) a' w') a w := by
  have hi : l.toArray[i]? = some o := by simpa using hil
  have ⟨hm, hri, hR, hk⟩ := chkB_spec hchk
  have h1 := h (fun a w => C w ∧ St P l ks A C Q R' a w) (fun _ _ hc hh => ⟨hc, hh⟩)
  unfold wpOp
  simp only [hi]
  unfold wpList at h1
  have key : ∀ a' w', (wpList P l.toArray (only (fun a w => C w ∧ St P l ks A C Q R' a w)) [] a' w') → post ks A l.toArray.size C i w w' ∧ allOrd l.toArray (wpOp P l.toArray (only Q)) ks A C Q (R.length - 1) (R.erase i) a' w' := by
    intro a' w' hh
    refine ⟨?_, ?_⟩
    · unfold post; rw [if_pos hk]; intro _; exact hh.2.1
    subst hR
    have := hh.2.2 (hn.erase _) (hu.erase hn hri) (fun k hk => hlt k (List.mem_of_mem_erase hk)) hs
    rwa [List.length_erase_of_mem hm] at this
  split
  · rename_i hw
    rw [if_pos hw] at h1
    have h1 := h1.resolve_right fun hh => only_lets _ hh.2
    left
    have h2 := Oper.wp_mono (K' := fun a' w' => post ks A l.toArray.size C i w w' ∧ allOrd l.toArray (wpOp P l.toArray (only Q)) ks A C Q (R.length - 1) (R.erase i) a' w') key h1
    unfold Oper.wp at h2 ⊢
    generalize (execOp a.eval o).run P w = r at h2 ⊢
    cases r with
    | ok n w' =>
      cases n <;> simp only [Oper.upon] at h2 ⊢
      case value u => exact h2
      case skip => exact h2
      case defer d => exact h2
      case enter f args =>
        refine Calls.mono h2 fun e w'' he => ?_
        cases e with
        | returned u => exact he
        | panicked c => cases he.1
        | outgrown => exact (only_lets _ he).elim
      case row row args => exact h2
    | halt x w' =>
      cases x <;> simp only [Oper.upon] at h2 ⊢
      case panic u => cases h2.1
  · rename_i hw
    rw [if_neg hw] at h1
    exact key _ _ h1
def chkR (ops : Array Oper) (R rs : List Nat) : Bool := decide (R.filter (readyIn ops R) = rs)
/-- two effects may come up now: each of them first -/
theorem St.two {R : List Nat} {a : Act} {w : World} (i j : Nat) (Ri Rj : List Nat) (oi oj : Oper) (hir : chkR l.toArray R [i, j] = true) (hil : l[i]? = some oi) (hjl : l[j]? = some oj) (hci : chkB l.toArray ks R Ri i = true) (hcj : chkB l.toArray ks R Rj j = true)
    (h1 : ∀ K : Act → World → Prop, (∀ a w, C w → St P l ks A C Q Ri a w → K a w) → wpList P l.toArray (only K) [oi] a w)
    (h2 : ∀ K : Act → World → Prop, (∀ a w, C w → St P l ks A C Q Rj a w → K a w) → wpList P l.toArray (only K) [oj] a w) : St P l ks A C Q R a w := by
  intro hn hu hlt hs
  have hm : i ∈ R := (chkB_spec hci).1
  have hlen : R.length = R.length - 1 + 1 := by have := List.length_pos_of_mem hm; omega
  rw [hlen]
  refine branch (rs := [i, j]) (by unfold chkR at hir; simpa using hir) fun k hk => ?_
  simp only [List.mem_cons, List.not_mem_nil, or_false] at hk
  rcases hk with rfl | rfl
  · exact ef_op _ oi hil hci h1 hn hu hlt hs
  · exact ef_op _ oj hjl hcj h2 hn hu hlt hs
/-- the world behind a new block under a name -/
theorem St.alw {R : List Nat} {a : Act} {w : World} {o : Obj} (h : ∀ W, W = w.alloc o → St P l ks A C Q R a W) : St P l ks A C Q R a (w.alloc o) := h _ rfl
end
end Go.Ord
namespace Go.Proofs.Ytkedpifopclipaa
open Go.RowKit Go.Mem Go.Aig
/-- a slice that is read: its cells, one for each element -/
structure Sv (w : World) (a : Option Addr) (xs : List Value) : Prop where
  cells : ∀ (i : Nat) (v : Value), xs[i]? = some v → ∃ b o, a = some ⟨b, o, none⟩ ∧ w.cell? ⟨b, o + i, none⟩ = some v
  bd : xs.length ≤ 9223372036854775807
theorem Sv.ch {F : List Nat} {w w' : World} {a : Option Addr} {xs : List Value} (h : Sv w a xs) (hc : Ch F w w') (hF : ∀ p, a = some p → p.block ∉ F) : Sv w' a xs :=
  ⟨fun i x hx => by
    obtain ⟨b, o, rfl, hcell⟩ := h.cells i x hx
    exact ⟨b, o, rfl, (hc.cell (p := ⟨b, o + i, none⟩) (cell_lt hcell) (hF ⟨b, o, none⟩ rfl)).trans hcell⟩, h.bd⟩
theorem Sv.sl {w : World} {a : Option Addr} {l : List Nat} (h : Sv w a (refsCells l)) : Sl w a (l.map fun (r : Nat) => (r : Int)) :=
  ⟨fun i x hx => h.cells i (.int .i64 x) (by
    simp only [refsCells, List.getElem?_map, Option.map_eq_some_iff] at hx ⊢
    obtain ⟨r, hr, rfl⟩ := hx
    exact ⟨r, hr, rfl⟩), by have := h.bd; simpa [refsCells] using this⟩
theorem row.sv {w : World} {e : TypeId} {v : Value} {n : Nat} {xs : List Value} {a : Option Addr} {m c : Nat} (h : row w e 1 v n xs) (hv : v = .slice a m c) (hn : n ≤ 1000000) : Sv w a xs := by
  subst hv
  have h1 := h.1
  refine ⟨fun i x hx => ?_, by omega⟩
  rcases h.2 with ⟨e1, e2⟩ | ⟨b, cap, cur, e1, _⟩
  · have := (List.getElem?_eq_some_iff.1 hx).1
    omega
  · cases e1
    refine ⟨b, 0, rfl, ?_⟩
    have := h.cells (g := b) rfl i x hx
    rw [Addr.add_lit] at this
    simpa using this
theorem alw_ch {W w : World} {o : Obj} (h : W = w.alloc o) : Ch [] w W := h ▸ (Ch.refl _ _).alloc _
theorem alw_blk {W w : World} {xs : List Value} {T : TypeId} (h : W = w.alloc (.cells xs.toArray T)) : blk W w.heap.size xs := h ▸ blk.new' _ _ rfl
end Go.Proofs.Ytkedpifopclipaa
namespace Go.Aig
/-- the value of a reference, over the values of the nodes -/
def rv (vs : List Bool) (r : Nat) : Bool := Bool.xor (vs.getD (r / 2) false) (decide (r % 2 = 1))
def nvStep (env : Nat → Bool) (s : List Bool × Nat) (x : Nd) : List Bool × Nat :=
  if x.k = 3 then (s.1 ++ [rv s.1 x.l && rv s.1 x.r], s.2) else if x.k = 2 then (s.1 ++ [env s.2], s.2 + 1) else (s.1 ++ [false], s.2)
/-- the values of the nodes, and how many inputs there are -/
def nv (env : Nat → Bool) (ns : List Nd) : List Bool × Nat := ns.foldl (nvStep env) ([], 0)
def bv (env : Nat → Bool) (ns : List Nd) (r : Nat) : Bool := rv (nv env ns).1 r
theorem nv_snoc (env : Nat → Bool) (ns : List Nd) (x : Nd) : nv env (ns ++ [x]) = nvStep env (nv env ns) x := by unfold nv; rw [List.foldl_append]; rfl
theorem split_at {ns : List Nd} {n : Nat} {x : Nd} (h : ns[n]? = some x) : ns = ns.take n ++ [x] ++ ns.drop (n + 1) := by
  obtain ⟨hlt, rfl⟩ := List.getElem?_eq_some_iff.1 h
  rw [List.append_assoc, List.singleton_append, List.getElem_cons_drop, List.take_append_drop]
theorem WF.sides {ns : List Nd} (h : WF ns) {n : Nat} {x : Nd} (hx : ns[n]? = some x) (hk : x.k = 3) : 2 ≤ x.l ∧ x.l < x.r ∧ x.l / 2 ≠ x.r / 2 ∧ x.r < 2 * n ∧ x.d = 1 + max (dep ns x.l) (dep ns x.r) := by
  rcases Nat.eq_zero_or_pos n with h0 | h0
  · subst h0
    rw [h.const] at hx; cases hx; simp at hk
  · rcases h.other n x hx h0 with rfl | ⟨_, h1⟩
    · simp at hk
    · exact h1
end Go.Aig
namespace Go.Proofs.Ytkedpifopclipaa
open Go.RowKit Go.Mem Go.Aig
def rnCells (x : Nd) : List Value := [.int .i64 x.k, .int .i64 x.l, .int .i64 x.r]
def rCells : List Nd → List Value
  | [] => []
  | x :: ns => rnCells x ++ rCells ns
theorem rCells_length : ∀ ns : List Nd, (rCells ns).length = ns.length * 3
  | [] => rfl
  | x :: ns => by simp [rCells, rCells_length ns, rnCells]; omega
theorem rCells_append : ∀ (ns ms : List Nd), rCells (ns ++ ms) = rCells ns ++ rCells ms
  | [], _ => rfl
  | x :: ns, ms => by simp [rCells, rCells_append ns ms]
theorem rCells_get : ∀ {ns : List Nd} {n : Nat} {x : Nd} {j : Nat} {v : Value}, ns[n]? = some x → (rnCells x)[j]? = some v → (rCells ns)[n * 3 + j]? = some v
  | [], n, x, j, v, h, _ => by simp at h
  | y :: ns, 0, x, j, v, h, hv => by
    simp at h; subst h
    have : j < 3 := by have := (List.getElem?_eq_some_iff.1 hv).1; simpa [rnCells] using this
    simp only [rCells]
    rw [List.getElem?_append_left (by simp [rnCells]; omega)]
    simpa using hv
  | y :: ns, n + 1, x, j, v, h, hv => by
    simp only [rCells]
    rw [List.getElem?_append_right (by simp [rnCells]; omega)]
    have := rCells_get (ns := ns) (n := n) (x := x) (by simpa using h) hv
    rw [← this]
    congr 1
    simp [rnCells]
    omega
theorem rCells_one : ∀ (ns : List Nd) (u : Value), u ∈ rCells ns → u.oneCell' = true
  | [], u, h => by cases h
  | x :: ns, u, h => by
    rcases List.mem_append.1 h with h | h
    · simp [rnCells] at h
      rcases h with rfl | rfl | rfl <;> rfl
    · exact rCells_one ns u h
/-- a graph of the reference, as a value: its nodes lie in a block -/
structure RG (w : World) (rb cap : Nat) (G : Gra) : Prop where
  cells : ∀ j u, (rCells G.nodes)[j]? = some u → w.cell? ⟨rb, j, none⟩ = some u
  lt : rb < w.heap.size
  le : G.nodes.length ≤ cap
  mx : cap ≤ 9223372036854775807
  ok : Ok G
theorem RG.ch {F : List Nat} {a w : World} {rb cap : Nat} {G : Gra} (h : RG a rb cap G) (hc : Ch F a w) (hF : rb ∉ F) : RG w rb cap G :=
  ⟨fun j u hu => (hc.cell (p := ⟨rb, j, none⟩) h.lt hF).trans (h.cells j u hu), Nat.lt_of_lt_of_le h.lt hc.size, h.le, h.mx, h.ok⟩
theorem RG.node {w : World} {rb cap : Nat} {G : Gra} (h : RG w rb cap G) {n : Nat} {x : Nd} (hx : G.nodes[n]? = some x) :
    w.cell? ⟨rb, n * 3, none⟩ = some (.int .i64 x.k) ∧ w.cell? ⟨rb, n * 3 + 1, none⟩ = some (.int .i64 x.l) ∧ w.cell? ⟨rb, n * 3 + 2, none⟩ = some (.int .i64 x.r) :=
  ⟨h.cells (n * 3 + 0) _ (rCells_get hx (j := 0) rfl), h.cells _ _ (rCells_get hx (j := 1) rfl), h.cells _ _ (rCells_get hx (j := 2) rfl)⟩
theorem RG.len {w : World} {rb cap : Nat} {G : Gra} (h : RG w rb cap G) : G.nodes.length ≤ 65536 ∧ 0 < G.nodes.length ∧ G.most ≤ 65536 := by
  have := h.ok.room; have := h.ok.most; have := h.ok.wf.pos; omega
/-- what a function of the reference returns: a graph, a reference, an error -/
def RTo (w : World) (rb : Nat) (R : Res) (e : Ending) (w' : World) : Prop := ∃ rb' cap', e = .returned (.tuple #[.agg #[.int .i64 R.1.most, .slice (some ⟨rb', 0, none⟩) R.1.nodes.length cap'], .int .i64 R.2.1, .int .i64 R.2.2]) ∧ RG w' rb' cap' R.1 ∧ Ch [] w w' ∧ (rb' = rb ∨ w.heap.size ≤ rb')
theorem infoRNode : (Try.prog.info? 229).map (fun i => (i.zero, i.size, i.bytes)) = some (some (.agg #[.int .i64 0, .int .i64 0, .int .i64 0]), 3, 24) := by kernel_rfl
theorem slRNodes : SliceTy Try.prog 120 229 3 24 (.agg #[.int .i64 0, .int .i64 0, .int .i64 0]) := ⟨Try.underlying120, infoRNode, rfl, by decide⟩
section
set_option maxRecDepth 100000 in
set_option maxHeartbeats 400000 in
theorem rNot_is (w : World) (r : Nat) (hr : r ≤ 9223372036854775806) : Calls Try.prog 199 #[.int .i64 r] w fun e w' => e = .returned (.int .i64 (neg r : Nat)) ∧ w = w' := by
  by_cases h : r % 2 = 0
  · have e : neg r = r + 1 := by unfold neg; rw [if_pos h]
    have q : ((r : Int) % 2 == 0) = true := by simp; omega
    rw [e]
    clear e h
    go_enter Try.func199, Try.ntmps199
    go_wp2_with fail
    go_ret
    exact ⟨ret_int (by omega), rfl⟩
  · have e : neg r = r - 1 := by unfold neg; rw [if_neg h]
    have q : ((r : Int) % 2 == 0) = false := by simp; omega
    have h1 : 1 ≤ r := by omega
    rw [e]
    clear e h
    go_enter Try.func199, Try.ntmps199
    go_wp2_with fail
    go_ret
    exact ⟨ret_int (by omega), rfl⟩
set_option maxRecDepth 100000 in
set_option maxHeartbeats 400000 in
theorem rNew_yes (w : World) (most : Nat) (h1 : 1 ≤ most) (h2 : most ≤ 65536) : Calls Try.prog 148 #[.int .i64 most] w fun e w' => ∃ rb cap, e = .returned (.tuple #[.agg #[.int .i64 (newG most).most, .slice (some ⟨rb, 0, none⟩) (newG most).nodes.length cap], .int .i64 0]) ∧ RG w' rb cap (newG most) ∧ Ch [] w w' ∧ w.heap.size ≤ rb := by
  have HO := Lib.hid (newG_ok h1 h2)
  go_enter Try.func148, Try.ntmps148
  go_wp2_with fail
  have hb : blk ((w.alloc (.cells #[.int .i64 most, .slice (some ⟨w.heap.size + 1, 0, none⟩) 1 1] 122)).alloc (.cells #[.int .i64 1, .int .i64 0, .int .i64 0] 229)) (w.heap.size + 1) (rCells (newG most).nodes) := blk.new' (rCells (newG most).nodes) 229 (by simp)
  exact bodyPost_ret (v := .tuple #[.agg #[.int .i64 most, .slice (some ⟨w.heap.size + 1, 0, none⟩) 1 1], .int .i64 0]) (by simp [results, Try.results148, go_sem]) rfl ⟨_, 1, rfl, ⟨fun j u hu => hb.cell hu, hb.lt, Nat.le_refl _, by omega, HO.out⟩, ((Ch.refl _ _).alloc _).alloc _, by omega⟩
theorem row_new0 {w W : World} {e : TypeId} {size : Nat} (h : W = w.alloc (.cells #[] e)) : row W e size (.slice (some ⟨w.heap.size, 0, none⟩) 0 0) 0 [] :=
  ⟨by simp, .inr ⟨_, 0, #[], rfl, Nat.zero_le _, by rw [h]; exact heap_alloc_new w _, Nat.le_refl _, by unfold maxLen; omega, by simp, by simp⟩⟩
theorem new_lo {W0 w : World} (h : Ch [] W0 w) : ∀ k ∈ (Value.slice (some ⟨w.heap.size, 0, none⟩) 0 0).ownBlock.toList, W0.heap.size ≤ k := by
  intro k hk
  simp at hk
  subst hk
  exact h.size
theorem new_ne {w : World} {b : Nat} {xs : List Value} (h : blk w b xs) : ∀ k, (Value.slice (some ⟨w.heap.size, 0, none⟩) 0 0).ownBlock = some k → k ≠ b := by
  intro k hk
  simp at hk
  have := h.lt
  omega
theorem row_ne {w : World} {e : TypeId} {size : Nat} {v : Value} {n : Nat} {xs : List Value} (h : row w e size v n xs) : ∀ k, v.ownBlock = some k → k ≠ w.heap.size := fun k hk => by
  have := (h.lt k hk).2
  omega
theorem grow_ne {w : World} {b : Nat} {xs : List Value} {v v' : Value} (h : blk w b xs) (hx : ∀ k, v.ownBlock = some k → k ≠ b) (hf : ∀ k, v'.ownBlock = some k → v.ownBlock = some k ∨ w.heap.size ≤ k) : ∀ k, v'.ownBlock = some k → k ≠ b := fun k hk =>
  (hf k hk).elim (hx k) (fun e => by have := h.lt; omega)
theorem grow_lo {W0 w : World} {v v' : Value} (h : Ch [] W0 w) (hl : ∀ k ∈ v.ownBlock.toList, W0.heap.size ≤ k) (hf : ∀ k, v'.ownBlock = some k → v.ownBlock = some k ∨ w.heap.size ≤ k) : ∀ k ∈ v'.ownBlock.toList, W0.heap.size ≤ k := fun k hk =>
  (hf k (by simpa using hk)).elim (fun e => hl k (by simpa using e)) (fun e => Nat.le_trans h.size e)
theorem not_own {v : Value} {b : Nat} (hx : ∀ k, v.ownBlock = some k → k ≠ b) : b ∉ v.ownBlock.toList := fun hin => hx b (Option.mem_toList.1 hin) rfl
theorem row_cap {w : World} {e : TypeId} {size : Nat} {a : Option Addr} {n c m : Nat} {xs : List Value} (h : row w e size (.slice a n c) m xs) : m ≤ c ∧ c ≤ 9223372036854775807 := by
  rcases h.2 with ⟨e1, h0⟩ | ⟨g', cap', cur, e1, _, _, h1, h2, _⟩
  · cases e1; omega
  · cases e1; exact ⟨h1, by unfold maxLen at h2; exact h2⟩
/-- the world under a name -/
theorem wp_alw {P : Program} {c : Code} {Q : Exit → Act → World → Prop} {a : Act} {w : World} (h : ∀ W, W = w → Code.wp P c Q a W) : Code.wp P c Q a w := h w rfl
set_option maxRecDepth 100000 in
set_option maxHeartbeats 1000000 in
theorem rPut_no {w : World} {rb cap : Nat} {G : Gra} (h : RG w rb cap G) (x : Nd) (hm : G.most ≤ G.nodes.length) : Calls Try.prog 149 #[.agg #[.int .i64 G.most, .slice (some ⟨rb, 0, none⟩) G.nodes.length cap], .agg #[.int .i64 x.k, .int .i64 x.l, .int .i64 x.r]] w (RTo w rb (put G x)) := by
  have e : put G x = (G, 0, 201) := by unfold put; rw [if_pos hm]
  rw [e]
  have H := Lib.hid h; clear h
  have hd : decide (G.most ≤ G.nodes.length) = true := decide_eq_true hm
  clear e
  go_enter Try.func149, Try.ntmps149
  go_wp2_with fail
  have hc : Ch [] w (((w.alloc (.cells #[.int .i64 G.most, .slice (some ⟨rb, 0, none⟩) G.nodes.length cap] 122)).alloc (.cells #[.int .i64 x.k, .int .i64 x.l, .int .i64 x.r] 229)).alloc (.cells #[.int .i64 G.most, .slice (some ⟨rb, 0, none⟩) G.nodes.length cap] 122)) := (((Ch.refl _ _).alloc _).alloc _).alloc _
  exact bodyPost_ret (v := .tuple #[.agg #[.int .i64 G.most, .slice (some ⟨rb, 0, none⟩) G.nodes.length cap], .int .i64 0, .int .i64 201]) (by simp [results, Try.results149, go_sem]) rfl ⟨rb, cap, rfl, H.out.ch hc (by simp), hc, .inl rfl⟩
set_option maxRecDepth 100000 in
set_option maxHeartbeats 1000000 in
theorem rPut_yes {w : World} {rb cap : Nat} {G : Gra} (h : RG w rb cap G) (x : Nd) (hm : G.nodes.length < G.most) (ho2 : Ok { G with nodes := G.nodes ++ [x] }) : Calls Try.prog 149 #[.agg #[.int .i64 G.most, .slice (some ⟨rb, 0, none⟩) G.nodes.length cap], .agg #[.int .i64 x.k, .int .i64 x.l, .int .i64 x.r]] w (RTo w rb (put G x)) := by
  have e : put G x = ({ G with nodes := G.nodes ++ [x] }, 2 * G.nodes.length, 0) := by unfold put; rw [if_neg (by omega)]
  rw [e]
  have HO2 := Lib.hid ho2; clear ho2
  have H := Lib.hid h; clear h
  have hd : decide (G.most ≤ G.nodes.length) = false := decide_eq_false (by omega)
  clear e
  go_enter Try.func149, Try.ntmps149
  go_wp2_with fail
  refine wp_alw ?_
  intro W0 hW0
  have hc0 : Ch [] w W0 := by rw [hW0]; exact (((Ch.refl _ _).alloc _).alloc _).alloc _
  have b2 : blk W0 w.heap.size [.int .i64 G.most, .slice (some ⟨rb, 0, none⟩) G.nodes.length cap] := by rw [hW0]; exact ((blk.new' (w := w) [.int .i64 G.most, .slice (some ⟨rb, 0, none⟩) G.nodes.length cap] 122 rfl).alloc _).alloc _
  have b3 : blk W0 (w.heap.size + 1) [.int .i64 x.k, .int .i64 x.l, .int .i64 x.r] := by rw [hW0]; exact (blk.new' [.int .i64 x.k, .int .i64 x.l, .int .i64 x.r] 229 (by simp)).alloc _
  have b4 : blk W0 (w.heap.size + 1 + 1) [.int .i64 0, .slice none 0 0] := by rw [hW0]; exact blk.new' [.int .i64 0, .slice none 0 0] 122 (by simp)
  clear hW0
  have H0 := H.out.ch hc0 (by simp)
  have hrb := H.out.lt
  obtain ⟨hl, hp, hmo⟩ := H0.len
  have hle := H0.le
  have hmx := H0.mx
  have B2 := Lib.hid b2; clear b2
  have B3 := Lib.hid b3; clear b3
  have B4 := Lib.hid b4; clear b4
  have HC0 := Lib.hid hc0; clear hc0
  have HH := Lib.hid H0; clear H0 H hd
  obtain ⟨n, hn⟩ : ∃ n, G.nodes.length = n := ⟨_, rfl⟩
  have HN := Lib.hid hn
  rw [hn] at hl hp hle hm
  have hs0 := HC0.out.size
  refine Ord.St.door (fun w' => Ch [] W0 w') [.ef, .fl, .ho, .ef, .ho, .ef, .ef, .fl, .ef] [0, 0, 2, 7, 0, 16, 63, 127, 255] [0, 1, 2, 3, 4, 5, 6, 7, 8] mixed (by kernel_rfl) rfl ?_
  obtain ⟨Wc, hWc⟩ : ∃ Wc, Wc = W0.drew := ⟨_, rfl⟩
  rw [← hWc]
  have hcur : Ch [] W0 Wc := by rw [hWc]; exact (Ch.refl _ _).drew
  clear hWc
  refine Ord.St.fl2 (T' := ?_) 1 [0, 2, 3, 4, 5, 6, 7, 8] _ _ rfl (by kernel_rfl) rfl rfl rfl rfl (fun K w' hk => ?_) ?_
  rotate_left
  · go_step; exact hk
  refine Ord.St.ho2 (T' := ?_) 2 [0, 3, 4, 5, 6, 7, 8] _ _ rfl (by kernel_rfl) rfl rfl rfl rfl ?_ (fun K w' hw' hk => ?_) ?_
  rotate_left
  · trivial
  · have y1 := (B2.out.ch hw' (by simp)).cell (i := 1) rfl; have z0 := (B3.out.ch hw' (by simp)).cell (i := 0) rfl; have z1 := (B3.out.ch hw' (by simp)).cell (i := 1) rfl; have z2 := (B3.out.ch hw' (by simp)).cell (i := 2) rfl; go_step; exact hk
  refine Ord.St.ho2 (T' := ?_) 4 [0, 3, 5, 6, 7, 8] _ _ rfl (by kernel_rfl) rfl rfl rfl rfl ?_ (fun K w' hw' hk => ?_) ?_
  rotate_left
  · trivial
  · have y1 := (B2.out.ch hw' (by simp)).cell (i := 1) rfl; have z0 := (B3.out.ch hw' (by simp)).cell (i := 0) rfl; have z1 := (B3.out.ch hw' (by simp)).cell (i := 1) rfl; have z2 := (B3.out.ch hw' (by simp)).cell (i := 2) rfl; go_step; exact hk
  refine Ord.St.two 0 5 [3, 5, 6, 7, 8] [0, 3, 6, 7, 8] _ _ (by kernel_rfl) rfl rfl (by kernel_rfl) (by kernel_rfl) (fun K hK => ?_) (fun K hK => ?_)
  · go_wp2_with fail
    refine ⟨rfl, hK _ _ ?_ ?_⟩
    · exact hcur.alloc _
    clear hK K
    refine Ord.St.alw ?_; intro Wn hWn
    have hrow := row_new0 (e := 229) (size := 3) hWn
    have hlo := new_lo hcur
    try have hx := new_ne hb5
    try replace hb5 := hb5.ch (alw_ch hWn) (by simp)
    replace hcur := hcur.trans (alw_ch hWn) (by simp)
    clear hWn
    refine Ord.St.two 3 5 [5, 6, 7, 8] [3, 6, 7, 8] _ _ (by kernel_rfl) rfl rfl (by kernel_rfl) (by kernel_rfl) (fun K hK => ?_) (fun K hK => ?_)
    · have hnews : ∀ j u, (rCells G.nodes)[j]? = some u → _ := (HH.out.ch hcur (by simp)).cells
      have HNW := Lib.hid hnews; clear hnews
      have HROW := Lib.hid hrow; clear hrow
      go_wp2_with (at_builtin; go_loud (refine wpList_append_row slRNodes rfl _ _ rfl (v := .slice (some ⟨_, 0, none⟩) 0 0) (n := 0) (xs := []) rfl HROW.out (ad := ⟨rb, 0, none⟩) (m := n) (c := cap) (news := rCells G.nodes) rfl (by rw [rCells_length, HN.out]) (by intro j u hu; rw [Addr.add_lit, Nat.zero_add]; exact HNW.out j u hu) (rCells_one _) (by omega) (by omega) ?_; intro v1 wA hr1 hcA hfA; rw [Nat.zero_add, List.nil_append] at hr1; obtain ⟨ba, rca, rfl⟩ := row.parts hr1 (by omega)))
      refine ⟨rfl, hK _ _ ?_ ?_⟩
      · exact hcur.trans hcA (fun k hk => .inr (hlo k hk))
      clear hK K
      have hrow := hr1
      try have hx2 := grow_ne hb5 hx hfA
      try replace hb5 := hb5.ch hcA (not_own hx)
      try clear hx
      try have hx := hx2
      have hlo2 := grow_lo hcur hlo hfA
      replace hcur := hcur.trans hcA (fun k hk => .inr (hlo k hk))
      clear hlo
      have hlo := hlo2
      clear hcA hfA hr1 HROW HNW hlo2
      refine Ord.St.efC 5 [6, 7, 8] _ rfl (by kernel_rfl) (fun K hK => ?_)
      go_wp2_with fail
      refine ⟨rfl, hK _ _ ?_ ?_⟩
      · exact hcur.alloc _
      clear hK K
      refine Ord.St.alw ?_; intro Wn hWn
      have hb5 := alw_blk (xs := [.int .i64 x.k, .int .i64 x.l, .int .i64 x.r]) hWn
      try have hx := row_ne hrow
      try replace hrow := hrow.ch (alw_ch hWn) (by simp)
      replace hcur := hcur.trans (alw_ch hWn) (by simp)
      clear hWn
      refine Ord.St.ef 6 [7, 8] _ rfl (by kernel_rfl) (fun K hK => ?_)
      have HROW := Lib.hid hrow; clear hrow
      have HX := Lib.hid hx; clear hx
      have HB5 := Lib.hid hb5; clear hb5
      have HLO := Lib.hid hlo; clear hlo
      have HCUR := Lib.hid hcur; clear hcur
      go_wp2_with (at_builtin; go_loud (refine wpList_append_row slRNodes rfl _ _ rfl (v := .slice (some ⟨ba, 0, none⟩) n rca) (n := n) (xs := rCells G.nodes) rfl HROW.out (ad := ⟨_, 0, none⟩) (m := 1) (c := 1) (news := [.int .i64 x.k, .int .i64 x.l, .int .i64 x.r]) rfl rfl (news_blk HB5.out) (by simp [Value.oneCell']) (by omega) (by omega) ?_; intro v2 wB hr2 hcB hfB; obtain ⟨bb, rcb, rfl⟩ := row.parts hr2 (by omega); have hlo2 := grow_lo HCUR.out HLO.out hfB; have hcur := HCUR.out.trans hcB (fun k hk => .inr (HLO.out k hk))))
      refine ⟨rfl, hK _ _ ?_⟩; clear hK K
      clear hcB hfB
      have b2 := B2.out.ch hcur (by simp)
      have b4 := B4.out.ch hcur (by simp)
      have hne2 : bb ≠ w.heap.size := by have := hlo2 bb (by simp); have := B2.out.lt; omega
      have hne4 : bb ≠ w.heap.size + 1 + 1 := by have := hlo2 bb (by simp); have := B4.out.lt; omega
      have hwb : w.heap.size ≤ bb := by have := hlo2 bb (by simp); omega
      have y1 := b2.cell (i := 1) rfl
      have f1 := b2.frozen (i := 1)
      have BB2 := Lib.hid b2; clear b2
      have BB4 := Lib.hid b4; clear b4
      have HR2 := Lib.hid hr2; clear hr2
      clear hlo2
      refine Ord.St.fl2 (T' := ?_) 7 [8] _ _ rfl (by kernel_rfl) rfl rfl rfl rfl (fun K w' hk => ?_) ?_
      rotate_left
      · go_step; exact hk
      refine Ord.St.ef 8 [] _ rfl (by kernel_rfl) (fun K hK => ?_)
      go_wp2_with fail
      refine ⟨rfl, hK _ _ ?_⟩; clear hK K
      refine Ord.St.nil ?_
      go_wp2_with fail
      refine wp_alw ?_
      intro W5 hW5
      have b2 : blk W5 w.heap.size [.int .i64 G.most, .slice (some ⟨bb, 0, none⟩) (n + 1) rcb] := by rw [hW5]; exact BB2.out.set _
      have hc5 : Ch [w.heap.size] wB W5 := by rw [hW5]; exact (Ch.refl _ _).setCell (by simp) _
      have b4 := BB4.out.ch hc5 (by simp; omega)
      have hr5 := HR2.out.ch hc5 (by intro k hk; simp at hk; subst hk; simpa using hne2)
      have hc05 : Ch [] w W5 := (HC0.out.trans hcur (by simp)).trans hc5 (by simp)
      have y0 := b2.cell (i := 0) rfl
      have y1 := b2.cell (i := 1) rfl
      have z0 := b4.cell (i := 0) rfl
      have z1 := b4.cell (i := 1) rfl
      have f0 := b4.frozen (i := 0)
      have f1' := b4.frozen (i := 1)
      have BB2' := Lib.hid b2; clear b2
      have BB4' := Lib.hid b4; clear b4
      have HR5 := Lib.hid hr5; clear hr5
      have HC5 := Lib.hid hc05; clear hc05 hc5
      clear hW5 BB2 BB4 HR2 f1
      refine Ord.St.door (fun w' => w'.cell? ⟨w.heap.size, 1, none⟩ = some (.slice (some ⟨bb, 0, none⟩) (n + 1) rcb)) [.rd, .fl, .ho, .fl, .fl, .fl, .ef, .fl, .fl] [0, 0, 2, 6, 14, 30, 1, 127, 255] [0, 1, 2, 3, 4, 5, 6, 7, 8] mixed (by kernel_rfl) rfl ?_
      refine Ord.St.rd2 (T' := ?_) 0 [1, 2, 3, 4, 5, 6, 7, 8] _ _ rfl (by kernel_rfl) rfl rfl rfl rfl (fun K hk => ?_) ?_
      rotate_left
      · go_step; exact hk
      refine Ord.St.fl2 (T' := ?_) 1 [2, 3, 4, 5, 6, 7, 8] _ _ rfl (by kernel_rfl) rfl rfl rfl rfl (fun K w' hk => ?_) ?_
      rotate_left
      · go_step; exact hk
      refine Ord.St.ho2 (T' := ?_) 2 [3, 4, 5, 6, 7, 8] _ _ rfl (by kernel_rfl) rfl rfl rfl rfl ?_ (fun K w' hw' hk => ?_) ?_
      rotate_left
      · trivial
      · skip; go_step; exact hk
      refine Ord.St.fl2 (T' := ?_) 3 [4, 5, 6, 7, 8] _ _ rfl (by kernel_rfl) rfl rfl rfl rfl (fun K w' hk => ?_) ?_
      rotate_left
      · go_step; exact hk
      refine Ord.St.fl2 (T' := ?_) 4 [5, 6, 7, 8] _ _ rfl (by kernel_rfl) rfl rfl rfl rfl (fun K w' hk => ?_) ?_
      rotate_left
      · go_step; exact hk
      refine Ord.St.fl2 (T' := ?_) 5 [6, 7, 8] _ _ rfl (by kernel_rfl) rfl rfl rfl rfl (fun K w' hk => ?_) ?_
      rotate_left
      · go_step; exact hk
      refine Ord.St.efC 6 [7, 8] _ rfl (by kernel_rfl) (fun K hK => ?_)
      go_wp2_with fail
      refine ⟨rfl, hK _ _ ?_ ?_⟩
      · go_simp
      clear hK K
      refine Ord.St.fl2 (T' := ?_) 7 [8] _ _ rfl (by kernel_rfl) rfl rfl rfl rfl (fun K w' hk => ?_) ?_
      rotate_left
      · go_step; exact hk
      refine Ord.St.fl2 (T' := ?_) 8 [] _ _ rfl (by kernel_rfl) rfl rfl rfl rfl (fun K w' hk => ?_) ?_
      rotate_left
      · go_step; exact hk
      refine Ord.St.nil ?_
      go_wp2_with fail
      have hc9 : Ch [w.heap.size + 1 + 1] W5 ((W5.setCell ⟨w.heap.size + 1 + 1, 0, none⟩ (.int .i64 G.most)).setCell ⟨w.heap.size + 1 + 1, 1, none⟩ (.slice (some ⟨bb, 0, none⟩) (n + 1) rcb)).drew := (((Ch.refl _ _).setCell (by simp) _).setCell (by simp) _).drew
      have hr9 := HR5.out.ch hc9 (by intro k hk; simp at hk; subst hk; simpa using hne4)
      have hcap := row_cap hr9
      refine bodyPost_ret (v := .tuple #[.agg #[.int .i64 G.most, .slice (some ⟨bb, 0, none⟩) (n + 1) rcb], .int .i64 (2 * n), .int .i64 0]) (by simp [results, Try.results149, go_sem, z0, z1]) rfl ?_
      refine ⟨bb, rcb, ?_, ⟨fun j u hu => ?_, ?_, ?_, hcap.2, HO2.out⟩, HC5.out.trans hc9 (fun k hk => .inr (by simp at hk; omega)), .inr hwb⟩
      · simp [HN.out]
      · rw [rCells_append] at hu; have := hr9.cells (g := bb) rfl j u (by simpa [rCells, rnCells] using hu); rwa [Addr.add_lit, Nat.zero_add] at this
      · exact (hr9.lt bb rfl).2
      · simpa [HN.out] using hcap.1
    · go_wp2_with fail
      refine ⟨rfl, hK _ _ ?_ ?_⟩
      · exact hcur.alloc _
      clear hK K
      refine Ord.St.alw ?_; intro Wn hWn
      have hb5 := alw_blk (xs := [.int .i64 x.k, .int .i64 x.l, .int .i64 x.r]) hWn
      try have hx := row_ne hrow
      try replace hrow := hrow.ch (alw_ch hWn) (by simp)
      replace hcur := hcur.trans (alw_ch hWn) (by simp)
      clear hWn
      refine Ord.St.efC 3 [6, 7, 8] _ rfl (by kernel_rfl) (fun K hK => ?_)
      have hnews : ∀ j u, (rCells G.nodes)[j]? = some u → _ := (HH.out.ch hcur (by simp)).cells
      have HNW := Lib.hid hnews; clear hnews
      have HROW := Lib.hid hrow; clear hrow
      go_wp2_with (at_builtin; go_loud (refine wpList_append_row slRNodes rfl _ _ rfl (v := .slice (some ⟨_, 0, none⟩) 0 0) (n := 0) (xs := []) rfl HROW.out (ad := ⟨rb, 0, none⟩) (m := n) (c := cap) (news := rCells G.nodes) rfl (by rw [rCells_length, HN.out]) (by intro j u hu; rw [Addr.add_lit, Nat.zero_add]; exact HNW.out j u hu) (rCells_one _) (by omega) (by omega) ?_; intro v1 wA hr1 hcA hfA; rw [Nat.zero_add, List.nil_append] at hr1; obtain ⟨ba, rca, rfl⟩ := row.parts hr1 (by omega)))
      refine ⟨rfl, hK _ _ ?_ ?_⟩
      · exact hcur.trans hcA (fun k hk => .inr (hlo k hk))
      clear hK K
      have hrow := hr1
      try have hx2 := grow_ne hb5 hx hfA
      try replace hb5 := hb5.ch hcA (not_own hx)
      try clear hx
      try have hx := hx2
      have hlo2 := grow_lo hcur hlo hfA
      replace hcur := hcur.trans hcA (fun k hk => .inr (hlo k hk))
      clear hlo
      have hlo := hlo2
      clear hcA hfA hr1 HROW HNW hlo2
      refine Ord.St.ef 6 [7, 8] _ rfl (by kernel_rfl) (fun K hK => ?_)
      have HROW := Lib.hid hrow; clear hrow
      have HX := Lib.hid hx; clear hx
      have HB5 := Lib.hid hb5; clear hb5
      have HLO := Lib.hid hlo; clear hlo
      have HCUR := Lib.hid hcur; clear hcur
      go_wp2_with (at_builtin; go_loud (refine wpList_append_row slRNodes rfl _ _ rfl (v := .slice (some ⟨ba, 0, none⟩) n rca) (n := n) (xs := rCells G.nodes) rfl HROW.out (ad := ⟨_, 0, none⟩) (m := 1) (c := 1) (news := [.int .i64 x.k, .int .i64 x.l, .int .i64 x.r]) rfl rfl (news_blk HB5.out) (by simp [Value.oneCell']) (by omega) (by omega) ?_; intro v2 wB hr2 hcB hfB; obtain ⟨bb, rcb, rfl⟩ := row.parts hr2 (by omega); have hlo2 := grow_lo HCUR.out HLO.out hfB; have hcur := HCUR.out.trans hcB (fun k hk => .inr (HLO.out k hk))))
      refine ⟨rfl, hK _ _ ?_⟩; clear hK K
      clear hcB hfB
      have b2 := B2.out.ch hcur (by simp)
      have b4 := B4.out.ch hcur (by simp)
      have hne2 : bb ≠ w.heap.size := by have := hlo2 bb (by simp); have := B2.out.lt; omega
      have hne4 : bb ≠ w.heap.size + 1 + 1 := by have := hlo2 bb (by simp); have := B4.out.lt; omega
      have hwb : w.heap.size ≤ bb := by have := hlo2 bb (by simp); omega
      have y1 := b2.cell (i := 1) rfl
      have f1 := b2.frozen (i := 1)
      have BB2 := Lib.hid b2; clear b2
      have BB4 := Lib.hid b4; clear b4
      have HR2 := Lib.hid hr2; clear hr2
      clear hlo2
      refine Ord.St.fl2 (T' := ?_) 7 [8] _ _ rfl (by kernel_rfl) rfl rfl rfl rfl (fun K w' hk => ?_) ?_
      rotate_left
      · go_step; exact hk
      refine Ord.St.ef 8 [] _ rfl (by kernel_rfl) (fun K hK => ?_)
      go_wp2_with fail
      refine ⟨rfl, hK _ _ ?_⟩; clear hK K
      refine Ord.St.nil ?_
      go_wp2_with fail
      refine wp_alw ?_
      intro W5 hW5
      have b2 : blk W5 w.heap.size [.int .i64 G.most, .slice (some ⟨bb, 0, none⟩) (n + 1) rcb] := by rw [hW5]; exact BB2.out.set _
      have hc5 : Ch [w.heap.size] wB W5 := by rw [hW5]; exact (Ch.refl _ _).setCell (by simp) _
      have b4 := BB4.out.ch hc5 (by simp; omega)
      have hr5 := HR2.out.ch hc5 (by intro k hk; simp at hk; subst hk; simpa using hne2)
      have hc05 : Ch [] w W5 := (HC0.out.trans hcur (by simp)).trans hc5 (by simp)
      have y0 := b2.cell (i := 0) rfl
      have y1 := b2.cell (i := 1) rfl
      have z0 := b4.cell (i := 0) rfl
      have z1 := b4.cell (i := 1) rfl
      have f0 := b4.frozen (i := 0)
      have f1' := b4.frozen (i := 1)
      have BB2' := Lib.hid b2; clear b2
      have BB4' := Lib.hid b4; clear b4
      have HR5 := Lib.hid hr5; clear hr5
      have HC5 := Lib.hid hc05; clear hc05 hc5
      clear hW5 BB2 BB4 HR2 f1
      refine Ord.St.door (fun w' => w'.cell? ⟨w.heap.size, 1, none⟩ = some (.slice (some ⟨bb, 0, none⟩) (n + 1) rcb)) [.rd, .fl, .ho, .fl, .fl, .fl, .ef, .fl, .fl] [0, 0, 2, 6, 14, 30, 1, 127, 255] [0, 1, 2, 3, 4, 5, 6, 7, 8] mixed (by kernel_rfl) rfl ?_
      refine Ord.St.rd2 (T' := ?_) 0 [1, 2, 3, 4, 5, 6, 7, 8] _ _ rfl (by kernel_rfl) rfl rfl rfl rfl (fun K hk => ?_) ?_
      rotate_left
      · go_step; exact hk
      refine Ord.St.fl2 (T' := ?_) 1 [2, 3, 4, 5, 6, 7, 8] _ _ rfl (by kernel_rfl) rfl rfl rfl rfl (fun K w' hk => ?_) ?_
      rotate_left
      · go_step; exact hk
      refine Ord.St.ho2 (T' := ?_) 2 [3, 4, 5, 6, 7, 8] _ _ rfl (by kernel_rfl) rfl rfl rfl rfl ?_ (fun K w' hw' hk => ?_) ?_
      rotate_left
      · trivial
      · skip; go_step; exact hk
      refine Ord.St.fl2 (T' := ?_) 3 [4, 5, 6, 7, 8] _ _ rfl (by kernel_rfl) rfl rfl rfl rfl (fun K w' hk => ?_) ?_
      rotate_left
      · go_step; exact hk
      refine Ord.St.fl2 (T' := ?_) 4 [5, 6, 7, 8] _ _ rfl (by kernel_rfl) rfl rfl rfl rfl (fun K w' hk => ?_) ?_
      rotate_left
      · go_step; exact hk
      refine Ord.St.fl2 (T' := ?_) 5 [6, 7, 8] _ _ rfl (by kernel_rfl) rfl rfl rfl rfl (fun K w' hk => ?_) ?_
      rotate_left
      · go_step; exact hk
      refine Ord.St.efC 6 [7, 8] _ rfl (by kernel_rfl) (fun K hK => ?_)
      go_wp2_with fail
      refine ⟨rfl, hK _ _ ?_ ?_⟩
      · go_simp
      clear hK K
      refine Ord.St.fl2 (T' := ?_) 7 [8] _ _ rfl (by kernel_rfl) rfl rfl rfl rfl (fun K w' hk => ?_) ?_
      rotate_left
      · go_step; exact hk
      refine Ord.St.fl2 (T' := ?_) 8 [] _ _ rfl (by kernel_rfl) rfl rfl rfl rfl (fun K w' hk => ?_) ?_
      rotate_left
      · go_step; exact hk
      refine Ord.St.nil ?_
      go_wp2_with fail
      have hc9 : Ch [w.heap.size + 1 + 1] W5 ((W5.setCell ⟨w.heap.size + 1 + 1, 0, none⟩ (.int .i64 G.most)).setCell ⟨w.heap.size + 1 + 1, 1, none⟩ (.slice (some ⟨bb, 0, none⟩) (n + 1) rcb)).drew := (((Ch.refl _ _).setCell (by simp) _).setCell (by simp) _).drew
      have hr9 := HR5.out.ch hc9 (by intro k hk; simp at hk; subst hk; simpa using hne4)
      have hcap := row_cap hr9
      refine bodyPost_ret (v := .tuple #[.agg #[.int .i64 G.most, .slice (some ⟨bb, 0, none⟩) (n + 1) rcb], .int .i64 (2 * n), .int .i64 0]) (by simp [results, Try.results149, go_sem, z0, z1]) rfl ?_
      refine ⟨bb, rcb, ?_, ⟨fun j u hu => ?_, ?_, ?_, hcap.2, HO2.out⟩, HC5.out.trans hc9 (fun k hk => .inr (by simp at hk; omega)), .inr hwb⟩
      · simp [HN.out]
      · rw [rCells_append] at hu; have := hr9.cells (g := bb) rfl j u (by simpa [rCells, rnCells] using hu); rwa [Addr.add_lit, Nat.zero_add] at this
      · exact (hr9.lt bb rfl).2
      · simpa [HN.out] using hcap.1
  · go_wp2_with fail
    refine ⟨rfl, hK _ _ ?_ ?_⟩
    · exact hcur.alloc _
    clear hK K
    refine Ord.St.alw ?_; intro Wn hWn
    have hb5 := alw_blk (xs := [.int .i64 x.k, .int .i64 x.l, .int .i64 x.r]) hWn
    try have hx := row_ne hrow
    try replace hrow := hrow.ch (alw_ch hWn) (by simp)
    replace hcur := hcur.trans (alw_ch hWn) (by simp)
    clear hWn
    refine Ord.St.efC 0 [3, 6, 7, 8] _ rfl (by kernel_rfl) (fun K hK => ?_)
    go_wp2_with fail
    refine ⟨rfl, hK _ _ ?_ ?_⟩
    · exact hcur.alloc _
    clear hK K
    refine Ord.St.alw ?_; intro Wn hWn
    have hrow := row_new0 (e := 229) (size := 3) hWn
    have hlo := new_lo hcur
    try have hx := new_ne hb5
    try replace hb5 := hb5.ch (alw_ch hWn) (by simp)
    replace hcur := hcur.trans (alw_ch hWn) (by simp)
    clear hWn
    refine Ord.St.efC 3 [6, 7, 8] _ rfl (by kernel_rfl) (fun K hK => ?_)
    have hnews : ∀ j u, (rCells G.nodes)[j]? = some u → _ := (HH.out.ch hcur (by simp)).cells
    have HNW := Lib.hid hnews; clear hnews
    have HROW := Lib.hid hrow; clear hrow
    go_wp2_with (at_builtin; go_loud (refine wpList_append_row slRNodes rfl _ _ rfl (v := .slice (some ⟨_, 0, none⟩) 0 0) (n := 0) (xs := []) rfl HROW.out (ad := ⟨rb, 0, none⟩) (m := n) (c := cap) (news := rCells G.nodes) rfl (by rw [rCells_length, HN.out]) (by intro j u hu; rw [Addr.add_lit, Nat.zero_add]; exact HNW.out j u hu) (rCells_one _) (by omega) (by omega) ?_; intro v1 wA hr1 hcA hfA; rw [Nat.zero_add, List.nil_append] at hr1; obtain ⟨ba, rca, rfl⟩ := row.parts hr1 (by omega)))
    refine ⟨rfl, hK _ _ ?_ ?_⟩
    · exact hcur.trans hcA (fun k hk => .inr (hlo k hk))
    clear hK K
    have hrow := hr1
    try have hx2 := grow_ne hb5 hx hfA
    try replace hb5 := hb5.ch hcA (not_own hx)
    try clear hx
    try have hx := hx2
    have hlo2 := grow_lo hcur hlo hfA
    replace hcur := hcur.trans hcA (fun k hk => .inr (hlo k hk))
    clear hlo
    have hlo := hlo2
    clear hcA hfA hr1 HROW HNW hlo2
    refine Ord.St.ef 6 [7, 8] _ rfl (by kernel_rfl) (fun K hK => ?_)
    have HROW := Lib.hid hrow; clear hrow
    have HX := Lib.hid hx; clear hx
    have HB5 := Lib.hid hb5; clear hb5
    have HLO := Lib.hid hlo; clear hlo
    have HCUR := Lib.hid hcur; clear hcur
    go_wp2_with (at_builtin; go_loud (refine wpList_append_row slRNodes rfl _ _ rfl (v := .slice (some ⟨ba, 0, none⟩) n rca) (n := n) (xs := rCells G.nodes) rfl HROW.out (ad := ⟨_, 0, none⟩) (m := 1) (c := 1) (news := [.int .i64 x.k, .int .i64 x.l, .int .i64 x.r]) rfl rfl (news_blk HB5.out) (by simp [Value.oneCell']) (by omega) (by omega) ?_; intro v2 wB hr2 hcB hfB; obtain ⟨bb, rcb, rfl⟩ := row.parts hr2 (by omega); have hlo2 := grow_lo HCUR.out HLO.out hfB; have hcur := HCUR.out.trans hcB (fun k hk => .inr (HLO.out k hk))))
    refine ⟨rfl, hK _ _ ?_⟩; clear hK K
    clear hcB hfB
    have b2 := B2.out.ch hcur (by simp)
    have b4 := B4.out.ch hcur (by simp)
    have hne2 : bb ≠ w.heap.size := by have := hlo2 bb (by simp); have := B2.out.lt; omega
    have hne4 : bb ≠ w.heap.size + 1 + 1 := by have := hlo2 bb (by simp); have := B4.out.lt; omega
    have hwb : w.heap.size ≤ bb := by have := hlo2 bb (by simp); omega
    have y1 := b2.cell (i := 1) rfl
    have f1 := b2.frozen (i := 1)
    have BB2 := Lib.hid b2; clear b2
    have BB4 := Lib.hid b4; clear b4
    have HR2 := Lib.hid hr2; clear hr2
    clear hlo2
    refine Ord.St.fl2 (T' := ?_) 7 [8] _ _ rfl (by kernel_rfl) rfl rfl rfl rfl (fun K w' hk => ?_) ?_
    rotate_left
    · go_step; exact hk
    refine Ord.St.ef 8 [] _ rfl (by kernel_rfl) (fun K hK => ?_)
    go_wp2_with fail
    refine ⟨rfl, hK _ _ ?_⟩; clear hK K
    refine Ord.St.nil ?_
    go_wp2_with fail
    refine wp_alw ?_
    intro W5 hW5
    have b2 : blk W5 w.heap.size [.int .i64 G.most, .slice (some ⟨bb, 0, none⟩) (n + 1) rcb] := by rw [hW5]; exact BB2.out.set _
    have hc5 : Ch [w.heap.size] wB W5 := by rw [hW5]; exact (Ch.refl _ _).setCell (by simp) _
    have b4 := BB4.out.ch hc5 (by simp; omega)
    have hr5 := HR2.out.ch hc5 (by intro k hk; simp at hk; subst hk; simpa using hne2)
    have hc05 : Ch [] w W5 := (HC0.out.trans hcur (by simp)).trans hc5 (by simp)
    have y0 := b2.cell (i := 0) rfl
    have y1 := b2.cell (i := 1) rfl
    have z0 := b4.cell (i := 0) rfl
    have z1 := b4.cell (i := 1) rfl
    have f0 := b4.frozen (i := 0)
    have f1' := b4.frozen (i := 1)
    have BB2' := Lib.hid b2; clear b2
    have BB4' := Lib.hid b4; clear b4
    have HR5 := Lib.hid hr5; clear hr5
    have HC5 := Lib.hid hc05; clear hc05 hc5
    clear hW5 BB2 BB4 HR2 f1
    refine Ord.St.door (fun w' => w'.cell? ⟨w.heap.size, 1, none⟩ = some (.slice (some ⟨bb, 0, none⟩) (n + 1) rcb)) [.rd, .fl, .ho, .fl, .fl, .fl, .ef, .fl, .fl] [0, 0, 2, 6, 14, 30, 1, 127, 255] [0, 1, 2, 3, 4, 5, 6, 7, 8] mixed (by kernel_rfl) rfl ?_
    refine Ord.St.rd2 (T' := ?_) 0 [1, 2, 3, 4, 5, 6, 7, 8] _ _ rfl (by kernel_rfl) rfl rfl rfl rfl (fun K hk => ?_) ?_
    rotate_left
    · go_step; exact hk
    refine Ord.St.fl2 (T' := ?_) 1 [2, 3, 4, 5, 6, 7, 8] _ _ rfl (by kernel_rfl) rfl rfl rfl rfl (fun K w' hk => ?_) ?_
    rotate_left
    · go_step; exact hk
    refine Ord.St.ho2 (T' := ?_) 2 [3, 4, 5, 6, 7, 8] _ _ rfl (by kernel_rfl) rfl rfl rfl rfl ?_ (fun K w' hw' hk => ?_) ?_
    rotate_left
    · trivial
    · skip; go_step; exact hk
    refine Ord.St.fl2 (T' := ?_) 3 [4, 5, 6, 7, 8] _ _ rfl (by kernel_rfl) rfl rfl rfl rfl (fun K w' hk => ?_) ?_
    rotate_left
    · go_step; exact hk
    refine Ord.St.fl2 (T' := ?_) 4 [5, 6, 7, 8] _ _ rfl (by kernel_rfl) rfl rfl rfl rfl (fun K w' hk => ?_) ?_
    rotate_left
    · go_step; exact hk
    refine Ord.St.fl2 (T' := ?_) 5 [6, 7, 8] _ _ rfl (by kernel_rfl) rfl rfl rfl rfl (fun K w' hk => ?_) ?_
    rotate_left
    · go_step; exact hk
    refine Ord.St.efC 6 [7, 8] _ rfl (by kernel_rfl) (fun K hK => ?_)
    go_wp2_with fail
    refine ⟨rfl, hK _ _ ?_ ?_⟩
    · go_simp
    clear hK K
    refine Ord.St.fl2 (T' := ?_) 7 [8] _ _ rfl (by kernel_rfl) rfl rfl rfl rfl (fun K w' hk => ?_) ?_
    rotate_left
    · go_step; exact hk
    refine Ord.St.fl2 (T' := ?_) 8 [] _ _ rfl (by kernel_rfl) rfl rfl rfl rfl (fun K w' hk => ?_) ?_
    rotate_left
    · go_step; exact hk
    refine Ord.St.nil ?_
    go_wp2_with fail
    have hc9 : Ch [w.heap.size + 1 + 1] W5 ((W5.setCell ⟨w.heap.size + 1 + 1, 0, none⟩ (.int .i64 G.most)).setCell ⟨w.heap.size + 1 + 1, 1, none⟩ (.slice (some ⟨bb, 0, none⟩) (n + 1) rcb)).drew := (((Ch.refl _ _).setCell (by simp) _).setCell (by simp) _).drew
    have hr9 := HR5.out.ch hc9 (by intro k hk; simp at hk; subst hk; simpa using hne4)
    have hcap := row_cap hr9
    refine bodyPost_ret (v := .tuple #[.agg #[.int .i64 G.most, .slice (some ⟨bb, 0, none⟩) (n + 1) rcb], .int .i64 (2 * n), .int .i64 0]) (by simp [results, Try.results149, go_sem, z0, z1]) rfl ?_
    refine ⟨bb, rcb, ?_, ⟨fun j u hu => ?_, ?_, ?_, hcap.2, HO2.out⟩, HC5.out.trans hc9 (fun k hk => .inr (by simp at hk; omega)), .inr hwb⟩
    · simp [HN.out]
    · rw [rCells_append] at hu; have := hr9.cells (g := bb) rfl j u (by simpa [rCells, rnCells] using hu); rwa [Addr.add_lit, Nat.zero_add] at this
    · exact (hr9.lt bb rfl).2
    · simpa [HN.out] using hcap.1
  go_wp2_with fail

end
end Go.Proofs.Ytkedpifopclipaa
namespace Go.Proofs.Ytkedpifopclipaa
open Go.RowKit Go.Mem Go.Aig
theorem rPut_is {w : World} {rb cap : Nat} {G : Gra} (h : RG w rb cap G) (x : Nd) (ho : G.nodes.length < G.most → Ok { G with nodes := G.nodes ++ [x] }) : Calls Try.prog 149 #[.agg #[.int .i64 G.most, .slice (some ⟨rb, 0, none⟩) G.nodes.length cap], .agg #[.int .i64 x.k, .int .i64 x.l, .int .i64 x.r]] w (RTo w rb (put G x)) := by
  rcases Nat.lt_or_ge G.nodes.length G.most with hm | hm
  · exact rPut_yes h x hm (ho hm)
  · exact rPut_no h x hm
theorem neg_eq {a b : Nat} : a = neg b ↔ b = neg a := by unfold neg; constructor <;> intro h <;> (repeat' split at h) <;> (repeat' split) <;> omega
/-- the and of two references, the lesser one first -/
theorem and_sort (G : Gra) {a b l r : Nat} (hl : min a b = l) (hr : max a b = r) :
    ((l = 0 ∨ l = neg r) → and G a b = (G, 0, 0)) ∧ (¬ (l = 0 ∨ l = neg r) → (l = 1 ∨ l = r) → and G a b = (G, r, 0)) ∧
    (¬ (l = 0 ∨ l = neg r) → ¬ (l = 1 ∨ l = r) → andIs a b = .node l r ∧ (∀ n, findAnd G.nodes l r = some n → and G a b = (G, 2 * n, 0)) ∧ (findAnd G.nodes l r = none → and G a b = put G ⟨3, l, r, 1 + max (dep G.nodes a) (dep G.nodes b)⟩)) := by
  have e1 : (a = neg b) ↔ (l = neg r) := by
    rcases Nat.le_total a b with h | h
    · rw [Nat.min_eq_left h] at hl; rw [Nat.max_eq_right h] at hr; subst hl; subst hr; exact Iff.rfl
    · rw [Nat.min_eq_right h] at hl; rw [Nat.max_eq_left h] at hr; subst hl; subst hr; exact neg_eq
  have e2 : (a = b) ↔ (l = r) := by omega
  have hi : andIs a b = if l = 0 ∨ l = neg r then .known 0 else if l = 1 ∨ l = r then .known r else .node l r := by
    unfold andIs
    rw [hl, hr]
    simp only [e1, e2]
  refine ⟨fun h => ?_, fun h h2 => ?_, fun h h2 => ?_⟩
  · unfold Aig.and; rw [hi, if_pos h]
  · unfold Aig.and; rw [hi, if_neg h, if_pos h2]
  · rw [if_neg h, if_neg h2] at hi
    refine ⟨hi, fun n hn => ?_, fun hn => ?_⟩
    · unfold Aig.and; rw [hi]; simp only [hn]
    · unfold Aig.and; rw [hi]; simp only [hn]
theorem findAnd_at {ns : List Nd} {l r k : Nat} {x : Nd} (hx : ns[k]? = some x) (h : isAnd l r x = true) (hno : ∀ (j : Nat) y, j < k → ns[j]? = some y → isAnd l r y = false) : findAnd ns l r = some k := by
  unfold findAnd
  obtain ⟨hlt, e⟩ := List.getElem?_eq_some_iff.1 hx
  rw [List.findIdx?_eq_some_iff_getElem]
  exact ⟨hlt, by rw [e]; exact h, fun j hj => by simp [hno j _ hj (List.getElem?_eq_getElem (by omega))]⟩
theorem findAnd_no {ns : List Nd} {l r : Nat} (hno : ∀ (j : Nat) y, j < ns.length → ns[j]? = some y → isAnd l r y = false) : findAnd ns l r = none := by
  unfold findAnd
  rw [List.findIdx?_eq_none_iff]
  intro y hy
  obtain ⟨j, hj⟩ := List.mem_iff_getElem?.1 hy
  exact hno j y (List.getElem?_eq_some_iff.1 hj).1 hj
/-- the same graph is returned -/
theorem RTo.self {w w' : World} {rb cap : Nat} {G : Gra} (h : RG w rb cap G) (hc : Ch [] w w') (r e : Nat) : RTo w rb (G, r, e) (.returned (.tuple #[.agg #[.int .i64 G.most, .slice (some ⟨rb, 0, none⟩) G.nodes.length cap], .int .i64 r, .int .i64 e])) w' :=
  ⟨rb, cap, rfl, h.ch hc (by simp), hc, .inl rfl⟩
section
set_option maxRecDepth 100000 in
set_option maxHeartbeats 2000000 in
theorem rAnd_le {w : World} {rb cap : Nat} {G : Gra} (h : RG w rb cap G) {a b : Nat} (ha : a < 2 * G.nodes.length) (hb : b < 2 * G.nodes.length) (hab : decide (b < a) = false) : Calls Try.prog 150 #[.agg #[.int .i64 G.most, .slice (some ⟨rb, 0, none⟩) G.nodes.length cap], .int .i64 a, .int .i64 b] w (RTo w rb (and G a b)) := by
  obtain ⟨hl, hp, hmo⟩ := h.len
  have hle := h.le
  have hmx := h.mx
  have hrb := h.lt
  have hs := and_sort G (a := a) (b := b) (l := a) (r := b) (by have := of_decide_eq_false hab; omega) (by have := of_decide_eq_false hab; omega)
  have hlr : a ≤ b := by have := of_decide_eq_false hab; omega
  have hNot := fun (W : World) => rNot_is W b (by omega)
  have HNOT := Lib.hid hNot; clear hNot
  have hc2 : Ch [] w ((w.alloc (.cells #[.int .i64 G.most, .slice (some ⟨rb, 0, none⟩) G.nodes.length cap] 122)).alloc (.cells #[.int .i64 G.most, .slice (some ⟨rb, 0, none⟩) G.nodes.length cap] 122)) := ((Ch.refl _ _).alloc _).alloc _
  have HC2 := Lib.hid hc2; clear hc2
  have H := Lib.hid h; clear h
  by_cases h0 : a = 0
  · have hq := hs.1 (.inl h0)
    have q0 : ((a : Int) == 0) = true := by simp [h0]
    rw [hq]
    have HF := Lib.hid (RTo.self H.out HC2.out 0 0)
    clear hs hq h0
    go_enter Try.func150, Try.ntmps150
    go_wp2_with fail
    exact bodyPost_ret (v := .tuple #[.agg #[.int .i64 G.most, .slice (some ⟨rb, 0, none⟩) G.nodes.length cap], .int .i64 0, .int .i64 0]) (by simp [results, Try.results150, go_sem]) rfl HF.out
  have q0 : ((a : Int) == 0) = false := by simp; omega
  by_cases h1 : a = neg b
  · have hq := hs.1 (.inr h1)
    have q1 : ((a : Int) == (neg b : Nat)) = true := by rw [← h1]; simp
    rw [hq]
    have HF := Lib.hid (RTo.self H.out HC2.out 0 0)
    clear hs hq h0 h1
    go_enter Try.func150, Try.ntmps150
    go_wp2_with fail
    refine (HNOT.out _).mono ?_
    rintro e w' ⟨rfl, rfl⟩
    generalize neg b = nr at *
    go_wp2_with fail
    exact bodyPost_ret (v := .tuple #[.agg #[.int .i64 G.most, .slice (some ⟨rb, 0, none⟩) G.nodes.length cap], .int .i64 0, .int .i64 0]) (by simp [results, Try.results150, go_sem]) rfl HF.out
  have q1 : ((a : Int) == (neg b : Nat)) = false := by simp; omega
  have hno : ¬ (a = 0 ∨ a = neg b) := by simp [h0, h1]
  clear h0 h1
  by_cases h2 : a = 1
  · have hq := hs.2.1 hno (.inl h2)
    have q2 : ((a : Int) == 1) = true := by simp [h2]
    rw [hq]
    have HF := Lib.hid (RTo.self H.out HC2.out b 0)
    clear hs hq h2 hno
    go_enter Try.func150, Try.ntmps150
    go_wp2_with fail
    refine (HNOT.out _).mono ?_
    rintro e w' ⟨rfl, rfl⟩
    generalize neg b = nr at *
    go_wp2_with fail
    exact bodyPost_ret (v := .tuple #[.agg #[.int .i64 G.most, .slice (some ⟨rb, 0, none⟩) G.nodes.length cap], .int .i64 b, .int .i64 0]) (by simp [results, Try.results150, go_sem]) rfl HF.out
  have q2 : ((a : Int) == 1) = false := by simp; omega
  by_cases h3 : a = b
  · have hq := hs.2.1 hno (.inr h3)
    have q3 : ((a : Int) == (b : Int)) = true := by simp [h3]
    rw [hq]
    have HF := Lib.hid (RTo.self H.out HC2.out b 0)
    clear hs hq h2 hno h3
    go_enter Try.func150, Try.ntmps150
    go_wp2_with fail
    refine (HNOT.out _).mono ?_
    rintro e w' ⟨rfl, rfl⟩
    generalize neg b = nr at *
    go_wp2_with fail
    exact bodyPost_ret (v := .tuple #[.agg #[.int .i64 G.most, .slice (some ⟨rb, 0, none⟩) G.nodes.length cap], .int .i64 b, .int .i64 0]) (by simp [results, Try.results150, go_sem]) rfl HF.out
  have q3 : ((a : Int) == (b : Int)) = false := by simp; omega
  obtain ⟨hi, hfs, hfn⟩ := hs.2.2 hno (by simp [h2, h3])
  have hok : findAnd G.nodes a b = none → G.nodes.length < G.most → Ok { G with nodes := G.nodes ++ [⟨3, a, b, 1 + max (dep G.nodes a) (dep G.nodes b)⟩] } := fun hf hm => ⟨H.out.ok.wf.and hi ha hb hf, by simp; omega, H.out.ok.most⟩
  generalize 1 + max (dep G.nodes a) (dep G.nodes b) = dd at *
  have HOK := Lib.hid hok; clear hok
  have HFS := Lib.hid hfs; clear hfs
  have HFN := Lib.hid hfn; clear hfn
  clear hs hno h2 h3 hi
  go_enter Try.func150, Try.ntmps150
  go_wp2_with fail
  refine (HNOT.out _).mono ?_
  rintro e w' ⟨rfl, rfl⟩
  generalize neg b = nr at *
  go_wp2_with fail
  refine wp_alw ?_
  intro W0 hW0
  have hc0 : Ch [] w W0 := by rw [hW0]; exact ((Ch.refl _ _).alloc _).alloc _
  have b2 : blk W0 w.heap.size [.int .i64 G.most, .slice (some ⟨rb, 0, none⟩) G.nodes.length cap] := by rw [hW0]; exact (blk.new' (w := w) [.int .i64 G.most, .slice (some ⟨rb, 0, none⟩) G.nodes.length cap] 122 rfl).alloc _
  have b4 : blk W0 (w.heap.size + 1) [.int .i64 0, .slice none 0 0] := by rw [hW0]; exact blk.new' [.int .i64 0, .slice none 0 0] 122 (by simp)
  clear hW0 HNOT HC2
  have H0 := H.out.ch hc0 (by simp)
  have y0 := b2.cell (i := 0) rfl
  have y1 := b2.cell (i := 1) rfl
  have z0 := b4.cell (i := 0) rfl
  have z1 := b4.cell (i := 1) rfl
  have f0 := b4.frozen (i := 0)
  have f1 := b4.frozen (i := 1)
  have B2 := Lib.hid b2; clear b2
  have B4 := Lib.hid b4; clear b4
  have HC0 := Lib.hid hc0; clear hc0
  have HH := Lib.hid H0; clear H0
  go_loop [9] (fun i => ∃ k : Nat, k ≤ G.nodes.length ∧ i = .int .i64 k ∧ ∀ (j : Nat) (x : Nd), j < k → G.nodes[j]? = some x → isAnd a b x = false) (fun i => G.nodes.length - (intOf i).toNat)
  case atStart => exact ⟨0, Nat.zero_le _, rfl, fun j x hj => by omega⟩
  case round =>
    obtain ⟨k, hk, rfl, hno⟩ := hrel
    have HNO := Lib.hid hno; clear hno
    by_cases hlt : k < G.nodes.length
    · obtain ⟨x, hx⟩ : ∃ x, G.nodes[k]? = some x := ⟨_, List.getElem?_eq_getElem hlt⟩
      obtain ⟨c0, c1, c2⟩ := HH.out.node hx
      have HX := Lib.hid hx; clear hx
      have hstep : isAnd a b x = false → ∀ (j : Nat) (y : Nd), j < k + 1 → G.nodes[j]? = some y → isAnd a b y = false := fun hf j y hj hy => by
        by_cases e : j = k
        · subst e; rw [HX.out] at hy; cases hy; exact hf
        · exact HNO.out j y (by omega) hy
      have HST := Lib.hid hstep; clear hstep
      by_cases hk3 : x.k = 3
      · have p0 : ((x.k : Int) == 3) = true := by simp [hk3]
        by_cases hxl : x.l = a
        · have p1 : ((x.l : Int) == (a : Int)) = true := by simp [hxl]
          by_cases hxr : x.r = b
          · have p2 : ((x.r : Int) == (b : Int)) = true := by simp [hxr]
            have hq := HFS.out k (findAnd_at HX.out (by simp [isAnd, hk3, hxl, hxr]) HNO.out)
            rw [hq]
            have HQ := Lib.hid hq
            clear hk3 hxl hxr hq
            go_wp2_with fail
            have hc9 : Ch [w.heap.size + 1] W0 ((W0.setCell ⟨w.heap.size + 1, 0, none⟩ (.int .i64 G.most)).setCell ⟨w.heap.size + 1, 1, none⟩ (.slice (some ⟨rb, 0, none⟩) G.nodes.length cap)) := ((Ch.refl _ _).setCell (by simp) _).setCell (by simp) _
            refine bodyPost_ret (v := .tuple #[.agg #[.int .i64 G.most, .slice (some ⟨rb, 0, none⟩) G.nodes.length cap], .int .i64 (2 * k), .int .i64 0]) (by simp [results, Try.results150, go_sem, z0, z1]) rfl ?_
            have := RTo.self H.out (HC0.out.trans hc9 (fun k hk => .inr (by simp at hk; omega))) (2 * k) 0
            simpa using this
          · have p2 : ((x.r : Int) == (b : Int)) = false := by simp; omega
            have hf := HST.out (by simp [isAnd, hxr])
            have HF := Lib.hid hf; clear hf HST
            clear hk3 hxl hxr
            go_wp2_with fail
            go_round
            case rel => exact ⟨k + 1, by omega, by go_num, HF.out⟩
            case measure => simp [intOf]; omega
        · have p1 : ((x.l : Int) == (a : Int)) = false := by simp; omega
          have hf := HST.out (by simp [isAnd, hxl])
          have HF := Lib.hid hf; clear hf HST
          clear hk3 hxl
          go_wp2_with fail
          go_round
          case rel => exact ⟨k + 1, by omega, by go_num, HF.out⟩
          case measure => simp [intOf]; omega
      · have p0 : ((x.k : Int) == 3) = false := by simp; omega
        have hf := HST.out (by simp [isAnd, hk3])
        have HF := Lib.hid hf; clear hf HST
        clear hk3
        go_wp2_with fail
        go_round
        case rel => exact ⟨k + 1, by omega, by go_num, HF.out⟩
        case measure => simp [intOf]; omega
    · have hkn : k = G.nodes.length := by omega
      have hnone := findAnd_no (ns := G.nodes) (l := a) (r := b) (fun j y hj hy => HNO.out j y (by omega) hy)
      have hq := HFN.out hnone
      have HQ := Lib.hid hq
      have hP : Calls Try.prog 149 #[.agg #[.int .i64 G.most, .slice (some ⟨rb, 0, none⟩) G.nodes.length cap], .agg #[.int .i64 3, .int .i64 a, .int .i64 b]] W0 (RTo W0 rb (put G ⟨3, a, b, dd⟩)) := rPut_is HH.out ⟨3, a, b, dd⟩ (HOK.out hnone)
      have HP := Lib.hid hP; clear hP
      clear hq hnone hkn
      generalize put G ⟨3, a, b, dd⟩ = RR at *
      go_wp2_with fail
      refine HP.out.mono ?_
      rintro e w5 ⟨rb', cap', rfl, hrg, hch, hfr⟩
      have y0 := hch.cell (cell_lt z0) (by simp)
      have y1 := hch.cell (cell_lt z1) (by simp)
      rw [z0] at y0
      rw [z1] at y1
      have g0 := (B4.out.ch hch (by simp)).frozen (i := 0)
      have g1 := (B4.out.ch hch (by simp)).frozen (i := 1)
      have hne : rb' ≠ w.heap.size + 1 := by
        rcases hfr with e | e
        · omega
        · have := B4.out.lt; omega
      have HRG := Lib.hid hrg; clear hrg
      have HCH := Lib.hid hch; clear hch
      clear z0 z1 f0 f1
      go_wp2_with fail
      have hc9 : Ch [w.heap.size + 1] w5 ((w5.setCell ⟨w.heap.size + 1, 0, none⟩ (.int .i64 RR.1.most)).setCell ⟨w.heap.size + 1, 1, none⟩ (.slice (some ⟨rb', 0, none⟩) RR.1.nodes.length cap')) := ((Ch.refl _ _).setCell (by simp) _).setCell (by simp) _
      refine bodyPost_ret (v := .tuple #[.agg #[.int .i64 RR.1.most, .slice (some ⟨rb', 0, none⟩) RR.1.nodes.length cap'], .int .i64 RR.2.1, .int .i64 RR.2.2]) (by simp [results, Try.results150, go_sem, y0, y1]) rfl ?_
      have hs0 := HC0.out.size
      rw [HQ.out]
      exact ⟨rb', cap', rfl, HRG.out.ch hc9 (by simpa using hne), (HC0.out.trans HCH.out (by simp)).trans hc9 (fun k hk => .inr (by simp at hk; omega)), hfr.imp id (fun e => by omega)⟩
set_option maxRecDepth 100000 in
set_option maxHeartbeats 2000000 in
theorem rAnd_gt {w : World} {rb cap : Nat} {G : Gra} (h : RG w rb cap G) {a b : Nat} (ha : a < 2 * G.nodes.length) (hb : b < 2 * G.nodes.length) (hab : decide (b < a) = true) : Calls Try.prog 150 #[.agg #[.int .i64 G.most, .slice (some ⟨rb, 0, none⟩) G.nodes.length cap], .int .i64 a, .int .i64 b] w (RTo w rb (and G a b)) := by
  obtain ⟨hl, hp, hmo⟩ := h.len
  have hle := h.le
  have hmx := h.mx
  have hrb := h.lt
  have hs := and_sort G (a := a) (b := b) (l := b) (r := a) (by have := of_decide_eq_true hab; omega) (by have := of_decide_eq_true hab; omega)
  have hlr : b ≤ a := by have := of_decide_eq_true hab; omega
  have hNot := fun (W : World) => rNot_is W a (by omega)
  have HNOT := Lib.hid hNot; clear hNot
  have hc2 : Ch [] w ((w.alloc (.cells #[.int .i64 G.most, .slice (some ⟨rb, 0, none⟩) G.nodes.length cap] 122)).alloc (.cells #[.int .i64 G.most, .slice (some ⟨rb, 0, none⟩) G.nodes.length cap] 122)) := ((Ch.refl _ _).alloc _).alloc _
  have HC2 := Lib.hid hc2; clear hc2
  have H := Lib.hid h; clear h
  by_cases h0 : b = 0
  · have hq := hs.1 (.inl h0)
    have q0 : ((b : Int) == 0) = true := by simp [h0]
    rw [hq]
    have HF := Lib.hid (RTo.self H.out HC2.out 0 0)
    clear hs hq h0
    go_enter Try.func150, Try.ntmps150
    go_wp2_with fail
    exact bodyPost_ret (v := .tuple #[.agg #[.int .i64 G.most, .slice (some ⟨rb, 0, none⟩) G.nodes.length cap], .int .i64 0, .int .i64 0]) (by simp [results, Try.results150, go_sem]) rfl HF.out
  have q0 : ((b : Int) == 0) = false := by simp; omega
  by_cases h1 : b = neg a
  · have hq := hs.1 (.inr h1)
    have q1 : ((b : Int) == (neg a : Nat)) = true := by rw [← h1]; simp
    rw [hq]
    have HF := Lib.hid (RTo.self H.out HC2.out 0 0)
    clear hs hq h0 h1
    go_enter Try.func150, Try.ntmps150
    go_wp2_with fail
    refine (HNOT.out _).mono ?_
    rintro e w' ⟨rfl, rfl⟩
    generalize neg a = nr at *
    go_wp2_with fail
    exact bodyPost_ret (v := .tuple #[.agg #[.int .i64 G.most, .slice (some ⟨rb, 0, none⟩) G.nodes.length cap], .int .i64 0, .int .i64 0]) (by simp [results, Try.results150, go_sem]) rfl HF.out
  have q1 : ((b : Int) == (neg a : Nat)) = false := by simp; omega
  have hno : ¬ (b = 0 ∨ b = neg a) := by simp [h0, h1]
  clear h0 h1
  by_cases h2 : b = 1
  · have hq := hs.2.1 hno (.inl h2)
    have q2 : ((b : Int) == 1) = true := by simp [h2]
    rw [hq]
    have HF := Lib.hid (RTo.self H.out HC2.out a 0)
    clear hs hq h2 hno
    go_enter Try.func150, Try.ntmps150
    go_wp2_with fail
    refine (HNOT.out _).mono ?_
    rintro e w' ⟨rfl, rfl⟩
    generalize neg a = nr at *
    go_wp2_with fail
    exact bodyPost_ret (v := .tuple #[.agg #[.int .i64 G.most, .slice (some ⟨rb, 0, none⟩) G.nodes.length cap], .int .i64 a, .int .i64 0]) (by simp [results, Try.results150, go_sem]) rfl HF.out
  have q2 : ((b : Int) == 1) = false := by simp; omega
  by_cases h3 : b = a
  · have hq := hs.2.1 hno (.inr h3)
    have q3 : ((b : Int) == (a : Int)) = true := by simp [h3]
    rw [hq]
    have HF := Lib.hid (RTo.self H.out HC2.out a 0)
    clear hs hq h2 hno h3
    go_enter Try.func150, Try.ntmps150
    go_wp2_with fail
    refine (HNOT.out _).mono ?_
    rintro e w' ⟨rfl, rfl⟩
    generalize neg a = nr at *
    go_wp2_with fail
    exact bodyPost_ret (v := .tuple #[.agg #[.int .i64 G.most, .slice (some ⟨rb, 0, none⟩) G.nodes.length cap], .int .i64 a, .int .i64 0]) (by simp [results, Try.results150, go_sem]) rfl HF.out
  have q3 : ((b : Int) == (a : Int)) = false := by simp; omega
  obtain ⟨hi, hfs, hfn⟩ := hs.2.2 hno (by simp [h2, h3])
  have hok : findAnd G.nodes b a = none → G.nodes.length < G.most → Ok { G with nodes := G.nodes ++ [⟨3, b, a, 1 + max (dep G.nodes a) (dep G.nodes b)⟩] } := fun hf hm => ⟨H.out.ok.wf.and hi ha hb hf, by simp; omega, H.out.ok.most⟩
  generalize 1 + max (dep G.nodes a) (dep G.nodes b) = dd at *
  have HOK := Lib.hid hok; clear hok
  have HFS := Lib.hid hfs; clear hfs
  have HFN := Lib.hid hfn; clear hfn
  clear hs hno h2 h3 hi
  go_enter Try.func150, Try.ntmps150
  go_wp2_with fail
  refine (HNOT.out _).mono ?_
  rintro e w' ⟨rfl, rfl⟩
  generalize neg a = nr at *
  go_wp2_with fail
  refine wp_alw ?_
  intro W0 hW0
  have hc0 : Ch [] w W0 := by rw [hW0]; exact ((Ch.refl _ _).alloc _).alloc _
  have b2 : blk W0 w.heap.size [.int .i64 G.most, .slice (some ⟨rb, 0, none⟩) G.nodes.length cap] := by rw [hW0]; exact (blk.new' (w := w) [.int .i64 G.most, .slice (some ⟨rb, 0, none⟩) G.nodes.length cap] 122 rfl).alloc _
  have b4 : blk W0 (w.heap.size + 1) [.int .i64 0, .slice none 0 0] := by rw [hW0]; exact blk.new' [.int .i64 0, .slice none 0 0] 122 (by simp)
  clear hW0 HNOT HC2
  have H0 := H.out.ch hc0 (by simp)
  have y0 := b2.cell (i := 0) rfl
  have y1 := b2.cell (i := 1) rfl
  have z0 := b4.cell (i := 0) rfl
  have z1 := b4.cell (i := 1) rfl
  have f0 := b4.frozen (i := 0)
  have f1 := b4.frozen (i := 1)
  have B2 := Lib.hid b2; clear b2
  have B4 := Lib.hid b4; clear b4
  have HC0 := Lib.hid hc0; clear hc0
  have HH := Lib.hid H0; clear H0
  go_loop [9] (fun i => ∃ k : Nat, k ≤ G.nodes.length ∧ i = .int .i64 k ∧ ∀ (j : Nat) (x : Nd), j < k → G.nodes[j]? = some x → isAnd b a x = false) (fun i => G.nodes.length - (intOf i).toNat)
  case atStart => exact ⟨0, Nat.zero_le _, rfl, fun j x hj => by omega⟩
  case round =>
    obtain ⟨k, hk, rfl, hno⟩ := hrel
    have HNO := Lib.hid hno; clear hno
    by_cases hlt : k < G.nodes.length
    · obtain ⟨x, hx⟩ : ∃ x, G.nodes[k]? = some x := ⟨_, List.getElem?_eq_getElem hlt⟩
      obtain ⟨c0, c1, c2⟩ := HH.out.node hx
      have HX := Lib.hid hx; clear hx
      have hstep : isAnd b a x = false → ∀ (j : Nat) (y : Nd), j < k + 1 → G.nodes[j]? = some y → isAnd b a y = false := fun hf j y hj hy => by
        by_cases e : j = k
        · subst e; rw [HX.out] at hy; cases hy; exact hf
        · exact HNO.out j y (by omega) hy
      have HST := Lib.hid hstep; clear hstep
      by_cases hk3 : x.k = 3
      · have p0 : ((x.k : Int) == 3) = true := by simp [hk3]
        by_cases hxl : x.l = b
        · have p1 : ((x.l : Int) == (b : Int)) = true := by simp [hxl]
          by_cases hxr : x.r = a
          · have p2 : ((x.r : Int) == (a : Int)) = true := by simp [hxr]
            have hq := HFS.out k (findAnd_at HX.out (by simp [isAnd, hk3, hxl, hxr]) HNO.out)
            rw [hq]
            have HQ := Lib.hid hq
            clear hk3 hxl hxr hq
            go_wp2_with fail
            have hc9 : Ch [w.heap.size + 1] W0 ((W0.setCell ⟨w.heap.size + 1, 0, none⟩ (.int .i64 G.most)).setCell ⟨w.heap.size + 1, 1, none⟩ (.slice (some ⟨rb, 0, none⟩) G.nodes.length cap)) := ((Ch.refl _ _).setCell (by simp) _).setCell (by simp) _
            refine bodyPost_ret (v := .tuple #[.agg #[.int .i64 G.most, .slice (some ⟨rb, 0, none⟩) G.nodes.length cap], .int .i64 (2 * k), .int .i64 0]) (by simp [results, Try.results150, go_sem, z0, z1]) rfl ?_
            have := RTo.self H.out (HC0.out.trans hc9 (fun k hk => .inr (by simp at hk; omega))) (2 * k) 0
            simpa using this
          · have p2 : ((x.r : Int) == (a : Int)) = false := by simp; omega
            have hf := HST.out (by simp [isAnd, hxr])
            have HF := Lib.hid hf; clear hf HST
            clear hk3 hxl hxr
            go_wp2_with fail
            go_round
            case rel => exact ⟨k + 1, by omega, by go_num, HF.out⟩
            case measure => simp [intOf]; omega
        · have p1 : ((x.l : Int) == (b : Int)) = false := by simp; omega
          have hf := HST.out (by simp [isAnd, hxl])
          have HF := Lib.hid hf; clear hf HST
          clear hk3 hxl
          go_wp2_with fail
          go_round
          case rel => exact ⟨k + 1, by omega, by go_num, HF.out⟩
          case measure => simp [intOf]; omega
      · have p0 : ((x.k : Int) == 3) = false := by simp; omega
        have hf := HST.out (by simp [isAnd, hk3])
        have HF := Lib.hid hf; clear hf HST
        clear hk3
        go_wp2_with fail
        go_round
        case rel => exact ⟨k + 1, by omega, by go_num, HF.out⟩
        case measure => simp [intOf]; omega
    · have hkn : k = G.nodes.length := by omega
      have hnone := findAnd_no (ns := G.nodes) (l := b) (r := a) (fun j y hj hy => HNO.out j y (by omega) hy)
      have hq := HFN.out hnone
      have HQ := Lib.hid hq
      have hP : Calls Try.prog 149 #[.agg #[.int .i64 G.most, .slice (some ⟨rb, 0, none⟩) G.nodes.length cap], .agg #[.int .i64 3, .int .i64 b, .int .i64 a]] W0 (RTo W0 rb (put G ⟨3, b, a, dd⟩)) := rPut_is HH.out ⟨3, b, a, dd⟩ (HOK.out hnone)
      have HP := Lib.hid hP; clear hP
      clear hq hnone hkn
      generalize put G ⟨3, b, a, dd⟩ = RR at *
      go_wp2_with fail
      refine HP.out.mono ?_
      rintro e w5 ⟨rb', cap', rfl, hrg, hch, hfr⟩
      have y0 := hch.cell (cell_lt z0) (by simp)
      have y1 := hch.cell (cell_lt z1) (by simp)
      rw [z0] at y0
      rw [z1] at y1
      have g0 := (B4.out.ch hch (by simp)).frozen (i := 0)
      have g1 := (B4.out.ch hch (by simp)).frozen (i := 1)
      have hne : rb' ≠ w.heap.size + 1 := by
        rcases hfr with e | e
        · omega
        · have := B4.out.lt; omega
      have HRG := Lib.hid hrg; clear hrg
      have HCH := Lib.hid hch; clear hch
      clear z0 z1 f0 f1
      go_wp2_with fail
      have hc9 : Ch [w.heap.size + 1] w5 ((w5.setCell ⟨w.heap.size + 1, 0, none⟩ (.int .i64 RR.1.most)).setCell ⟨w.heap.size + 1, 1, none⟩ (.slice (some ⟨rb', 0, none⟩) RR.1.nodes.length cap')) := ((Ch.refl _ _).setCell (by simp) _).setCell (by simp) _
      refine bodyPost_ret (v := .tuple #[.agg #[.int .i64 RR.1.most, .slice (some ⟨rb', 0, none⟩) RR.1.nodes.length cap'], .int .i64 RR.2.1, .int .i64 RR.2.2]) (by simp [results, Try.results150, go_sem, y0, y1]) rfl ?_
      have hs0 := HC0.out.size
      rw [HQ.out]
      exact ⟨rb', cap', rfl, HRG.out.ch hc9 (by simpa using hne), (HC0.out.trans HCH.out (by simp)).trans hc9 (fun k hk => .inr (by simp at hk; omega)), hfr.imp id (fun e => by omega)⟩
theorem rAnd_is {w : World} {rb cap : Nat} {G : Gra} (h : RG w rb cap G) {a b : Nat} (ha : a < 2 * G.nodes.length) (hb : b < 2 * G.nodes.length) : Calls Try.prog 150 #[.agg #[.int .i64 G.most, .slice (some ⟨rb, 0, none⟩) G.nodes.length cap], .int .i64 a, .int .i64 b] w (RTo w rb (and G a b)) := by
  cases hd : decide (b < a)
  · exact rAnd_le h ha hb hd
  · exact rAnd_gt h ha hb hd
end
end Go.Proofs.Ytkedpifopclipaa
namespace Go.Aig
end Go.Aig
namespace Go.Proofs.Ytkedpifopclipaa
open Go.RowKit Go.Mem Go.Aig
theorem set2_ch {w W : World} {b : Nat} {u v : Value} (h : W = (w.setCell ⟨b, 0, none⟩ u).setCell ⟨b, 1, none⟩ v) : Ch [b] w W := by rw [h]; exact ((Ch.refl [b] _).setCell (by simp) _).setCell (by simp) _
theorem rg_ne {w : World} {rb cap : Nat} {G : Gra} (h : RG w rb cap G) : rb ≠ w.heap.size := by have := h.lt; omega
section
end
end Go.Proofs.Ytkedpifopclipaa
namespace Go.Proofs.Ytkedpifopclipaa
open Go.RowKit Go.Mem Go.Aig
section
set_option maxRecDepth 100000 in
set_option maxHeartbeats 1000000 in
theorem IFint_is {w : World} {a : Option Addr} {xs : List Int} (cap fid : Nat) (caps : Array Value) (p : Int → Bool) (h : Sl w a xs) (hf : ∀ x ∈ xs, Calls Try.prog fid (#[.int .i64 x] ++ caps) w fun e w' => e = .returned (.bool (p x)) ∧ w = w')
    (hfn : Fnv fid) :
    Calls Try.prog 89 #[.slice a xs.length cap, .func (.func fid) #[] caps] w fun e w' => e = .returned (.int .i64 (idxOf p xs)) ∧ w = w' := by
  have hbd := h.bd
  have hcf : ∀ (args : Array Value) (w : World), (callFunc fid args).run Try.prog w = .ok (.enter fid args) w := hfn
  have HF := Lib.hid hf; clear hf
  have H := Lib.hid h; clear h
  go_enter Try.func89, Try.ntmps89
  go_wp2_with fail
  go_loop [8] (fun i => ∃ k : Nat, k ≤ xs.length ∧ i = .int .i64 k ∧ ∀ (j : Nat) (y : Int), j < k → xs[j]? = some y → p y = false) (fun i => xs.length - (intOf i).toNat)
  case atStart => exact ⟨0, Nat.zero_le _, rfl, fun j y hj => by omega⟩
  case round =>
    obtain ⟨k, hk, rfl, hno⟩ := hrel
    have HN := Lib.hid hno; clear hno
    by_cases hlt : k < xs.length
    · obtain ⟨b, o, rfl, hc⟩ := H.out.at (by omega)
      have hx : xs[k]? = some xs[k] := List.getElem?_eq_getElem hlt
      have c1 := hc k _ hx
      have hcall := HF.out xs[k] (List.getElem_mem hlt)
      have HX := Lib.hid hx; clear hx hc
      generalize xs[k] = x at *
      have HC := Lib.hid hcall; clear hcall
      cases hp : p x
      · rw [hp] at HC
        go_wp2_with fail
        refine HC.out.mono ?_
        rintro e w' ⟨rfl, rfl⟩
        go_wp2_with fail
        go_round
        case rel => 
          refine ⟨k + 1, by omega, by go_num, fun j y hj hy => ?_⟩
          by_cases hjk : j = k
          · subst hjk; rw [HX.out] at hy; cases hy; exact hp
          · exact HN.out j y (by omega) hy
        case measure => simp [intOf]; omega
      · rw [hp] at HC
        go_wp2_with fail
        refine HC.out.mono ?_
        rintro e w' ⟨rfl, rfl⟩
        go_wp2_with fail
        go_ret
        exact ⟨ret_int (idxOf_yes HX.out hp HN.out).symm, rfl⟩
    · go_wp2_with fail
      go_ret
      exact ⟨ret_int (idxOf_no (fun j y hy => HN.out j y (by have := (List.getElem?_eq_some_iff.1 hy).1; omega) hy)).symm, rfl⟩

end
end Go.Proofs.Ytkedpifopclipaa
namespace Go.Proofs.Ytkedpifopclipaa
open Go.RowKit Go.Mem Go.Aig
theorem slInts : SliceTy Try.prog 23 3 1 8 (.int .i64 0) := ⟨Try.underlying23, infoInt, rfl, by decide⟩
/-- a row that a call grew, and all before it -/
theorem app_step {W0 w W W4 : World} {v v' : Value} (h0 : Ch [] W0 w) (h1 : Ch [] w W) (hlo : ∀ q ∈ v.ownBlock.toList, W0.heap.size ≤ q) (hC : Ch v.ownBlock.toList W W4) (hf : ∀ k, v'.ownBlock = some k → v.ownBlock = some k ∨ W.heap.size ≤ k) :
    Ch [] W0 W4 ∧ ∀ q ∈ v'.ownBlock.toList, W0.heap.size ≤ q := by
  refine ⟨(h0.trans h1 (by simp)).trans hC (fun k hk => .inr (hlo k hk)), fun q hq => ?_⟩
  rcases hf q (by simpa using hq) with e | e
  · exact hlo q (by simpa using e)
  · have := h0.size; have := h1.size; omega
section
set_option maxRecDepth 100000 in
set_option maxHeartbeats 2000000 in
theorem rInputs_is {w : World} {rb cap : Nat} {G : Gra} (h : RG w rb cap G) : Calls Try.prog 168 #[.agg #[.int .i64 G.most, .slice (some ⟨rb, 0, none⟩) G.nodes.length cap]] w fun e w' => ∃ v, e = .returned v ∧ row w' 3 1 v (inputs G.nodes).length (refsCells (inputs G.nodes)) ∧ (∀ q ∈ v.ownBlock.toList, w.heap.size ≤ q) ∧ Ch [] w w' := by
  obtain ⟨hl, hp, hmo⟩ := h.len
  have hle := h.le
  have hmx := h.mx
  have H := Lib.hid h; clear h
  go_enter Try.func168, Try.ntmps168
  go_wp2_with fail
  refine wp_alw ?_
  intro W0 hW0
  have hc0 : Ch [] w W0 := by rw [hW0]; exact (Ch.refl _ _).alloc _
  have b2 : blk W0 w.heap.size [.int .i64 G.most, .slice (some ⟨rb, 0, none⟩) G.nodes.length cap] := by rw [hW0]; exact blk.new' (w := w) [.int .i64 G.most, .slice (some ⟨rb, 0, none⟩) G.nodes.length cap] 122 rfl
  clear hW0
  have hr0 := H.out.ch hc0 (by simp)
  have B2 := Lib.hid b2; clear b2
  have HC0 := Lib.hid hc0; clear hc0
  have HR0 := Lib.hid hr0; clear hr0
  go_loopw [3, 4] (fun o i wr => ∃ k : Nat, k ≤ G.nodes.length ∧ i = .int .i64 k ∧ Ch [] W0 wr ∧ row wr 3 1 o (inputs (G.nodes.take k)).length (refsCells (inputs (G.nodes.take k))) ∧ ∀ q ∈ o.ownBlock.toList, W0.heap.size ≤ q) (fun _ i _ => G.nodes.length - (intOf i).toNat)
  case atStart => exact ⟨0, by omega, rfl, Ch.refl _ _, ⟨rfl, .inl ⟨rfl, rfl⟩⟩, by simp⟩
  case round =>
    obtain ⟨k, hk, rfl, hc, hrow, hlo⟩ := hrel
    obtain ⟨oa, oc, rfl⟩ := row.shape hrow
    have y1 := (B2.out.ch hc (by simp)).cell (i := 1) rfl
    by_cases hlt : k < G.nodes.length
    · obtain ⟨x, hx⟩ : ∃ x, G.nodes[k]? = some x := ⟨_, List.getElem?_eq_getElem hlt⟩
      obtain ⟨c0, c1, c2⟩ := (HR0.out.ch hc (by simp)).node hx
      have hsucc : inputs (G.nodes.take (k + 1)) = inputs (G.nodes.take k) ++ (if x.k = 2 then [2 * k] else []) := by
        have := inputsFrom_split [x] (G.nodes.take k) 0
        unfold inputs
        rw [List.take_add_one, hx]
        simp only [Option.toList_some]
        rw [this]
        have hlen : (G.nodes.take k).length = k := by rw [List.length_take]; omega
        simp only [inputsFrom, hlen, Nat.zero_add]
      have hil : (inputs (G.nodes.take k)).length ≤ k := by
        have key : ∀ (l : List Nd) (n : Nat), (inputsFrom l n).length ≤ l.length := fun l => by
          induction l with
          | nil => intro n; simp [inputsFrom]
          | cons a l ih => intro n; unfold inputsFrom; split <;> simp <;> have := ih (n + 1) <;> omega
        have := key (G.nodes.take k) 0
        rw [List.length_take] at this
        unfold inputs
        omega
      have HSU := Lib.hid hsucc; clear hsucc hx
      have HLO := Lib.hid hlo; clear hlo
      have HC := Lib.hid hc; clear hc
      by_cases h2 : x.k = 2
      · have q : ((x.k : Int) == 2) = true := by simp [h2]
        have hsu := HSU.out
        rw [if_pos h2] at hsu
        have HSU2 := Lib.hid hsu; clear hsu HSU h2
        have hcA : Ch [] wr (wr.alloc (.cells #[.int .i64 (2 * (k : Int))] 3)) := (Ch.refl _ _).alloc _
        have hrA := hrow.ch hcA (by simp)
        have hbA : blk (wr.alloc (.cells #[.int .i64 (2 * (k : Int))] 3)) wr.heap.size [.int .i64 (2 * (k : Int))] := blk.new' _ _ rfl
        have HRA := Lib.hid hrA; clear hrA hrow
        have HBA := Lib.hid hbA; clear hbA
        have HCA := Lib.hid hcA; clear hcA
        generalize inputs (G.nodes.take k) = L at *
        go_wp2_with (at_builtin; go_loud (refine wpList_append_row slInts rfl _ _ rfl (v := .slice oa L.length oc) (n := L.length) (xs := refsCells L) rfl HRA.out (ad := ⟨wr.heap.size, 0, none⟩) (m := 1) (c := 1) (news := [.int .i64 (2 * (k : Int))]) rfl rfl (news_blk HBA.out) (by simp [Value.oneCell']) (by omega) (by omega) ?_; intro v' w4 hown4 hC4 hf4; have HO4 := Lib.hid hown4; clear hown4; have HC4 := Lib.hid hC4; clear hC4; have HF4 := Lib.hid hf4; clear hf4))
        go_roundw
        case rel =>
          obtain ⟨q1, q2⟩ := app_step HC.out HCA.out HLO.out HC4.out HF4.out
          refine ⟨k + 1, by omega, by go_num, q1, ?_, q2⟩
          have := HO4.out
          rw [HSU2.out]
          simpa [refsCells] using this
        case measure => simp [intOf]; omega
      · have q : ((x.k : Int) == 2) = false := by simp; omega
        have hsu := HSU.out
        rw [if_neg h2, List.append_nil] at hsu
        have HSU2 := Lib.hid hsu; clear hsu HSU h2
        have HROW := Lib.hid hrow; clear hrow
        go_wp2_with fail
        go_roundw
        case rel => exact ⟨k + 1, by omega, by go_num, HC.out, by rw [HSU2.out]; exact HROW.out, HLO.out⟩
        case measure => simp [intOf]; omega
    · have hkn : k = G.nodes.length := by omega
      have hrow' := hrow
      rw [hkn, List.take_length] at hrow'
      rw [hkn, List.take_length] at hlo
      have HROW := Lib.hid hrow'
      have HLO := Lib.hid hlo; clear hlo hrow'
      have HC := Lib.hid hc; clear hc hkn
      have hlen : (inputs (G.nodes.take k)).length = (inputs G.nodes).length := by rw [List.take_of_length_le (by omega)]
      rw [hlen]
      clear hlen hrow
      go_wp2_with fail
      go_ret
      exact ⟨.slice oa (inputs G.nodes).length oc, rfl, HROW.out, fun q hq => by have := HLO.out q hq; have := HC0.out.size; omega, HC0.out.trans HC.out (by simp)⟩
end
end Go.Proofs.Ytkedpifopclipaa
namespace Go.Aig
end Go.Aig
namespace Go.Proofs.Ytkedpifopclipaa
open Go.RowKit Go.Mem Go.Aig
def intCells (l : List Int) : List Value := l.map fun z => .int .i64 z
section
end
end Go.Proofs.Ytkedpifopclipaa
namespace Go.Aig
def metDown (ns : List Nd) : Nat → List Bool → List Bool
  | 0, met => met
  | n + 1, met => metDown ns n (if met.getD n false = true then stepMet ns met n else met)
theorem setMark_far {met : List Bool} {r d : Nat} (h : r / 2 < d) : (setMark met r).getD d false = met.getD d false := by
  unfold setMark
  rw [List.getD_eq_getElem?_getD, List.getD_eq_getElem?_getD, List.getElem?_set, if_neg (by omega)]
theorem stepMet_far {ns : List Nd} (hw : WF ns) {met : List Bool} {n d : Nat} (h : n ≤ d) : (stepMet ns met n).getD d false = met.getD d false := by
  unfold stepMet
  split
  · rename_i x hx
    split
    · rename_i h3
      obtain ⟨s1, s2, s3, s4, _⟩ := hw.sides hx h3
      rw [setMark_far (by omega), setMark_far (by omega)]
    · rfl
  · rfl
theorem metDown_far {ns : List Nd} (hw : WF ns) : ∀ (n : Nat) (met : List Bool) (d : Nat), n ≤ d → (metDown ns n met).getD d false = met.getD d false
  | 0, met, d, _ => rfl
  | n + 1, met, d, h => by
    unfold metDown
    rw [metDown_far hw n _ d (by omega)]
    split
    · exact stepMet_far hw (by omega)
    · rfl
theorem coneFrom_filter {ns : List Nd} (hw : WF ns) : ∀ (n : Nat) (met : List Bool), (coneFrom ns n met).reverse = (List.range n).filter fun d => (metDown ns n met).getD d false
  | 0, _ => rfl
  | n + 1, met => by
    unfold coneFrom metDown
    rw [List.range_succ, List.filter_append]
    by_cases h : met.getD n false = true
    · rw [if_pos h, if_pos h, List.reverse_cons, coneFrom_filter hw n]
      have := metDown_far hw n (stepMet ns met n) n (Nat.le_refl _)
      rw [stepMet_far hw (Nat.le_refl _), h] at this
      simp only [List.filter_cons, this, if_true, List.filter_nil]
    · rw [if_neg h, if_neg h, coneFrom_filter hw n]
      have := metDown_far hw n met n (Nat.le_refl _)
      rw [show met.getD n false = false by simpa using h] at this
      have e : List.filter (fun d => (metDown ns n met).getD d false) [n] = [] := by simp only [List.filter_cons, this, List.filter_nil]; rfl
      rw [e, List.append_nil]
theorem cone_filter {ns : List Nd} (hw : WF ns) (l : List Nat) : cone ns l = (List.range ns.length).filter fun d => (metDown ns ns.length (met0 ns.length l)).getD d false := by
  unfold cone coneDown
  exact coneFrom_filter hw _ _
end Go.Aig
namespace Go.Proofs.Ytkedpifopclipaa
open Go.RowKit Go.Mem Go.Aig
section
end
end Go.Proofs.Ytkedpifopclipaa
namespace Go.Proofs.Ytkedpifopclipaa
open Go.RowKit Go.Mem Go.Aig
section
end
theorem Sl.of_ints {w : World} {e : TypeId} {a : Option Addr} {n cap : Nat} {l : List Int} (h : row w e 1 (.slice a n cap) n (intCells l)) (hn : n ≤ 1000000) : Sl w a l := by
  have hlen : l.length = n := by have := h.1; simpa [intCells] using this
  refine ⟨fun i x hx => ?_, by omega⟩
  obtain ⟨gb, go, hge, gc⟩ := (row.sv h rfl hn).cells i (.int .i64 x) (by simp [intCells, hx])
  exact ⟨gb, go, hge, gc⟩
theorem Eqint_same {w : World} {a b : Option Addr} {n : Nat} {l : List Int} (ca cb : Nat) (hn : l.length = n) (hx : Sl w a l) (hy : Sl w b l) : Calls Try.prog 101 #[.slice a n ca, .slice b n cb] w fun e w' => e = .returned (.bool true) ∧ Ch [] w w' := by
  subst hn
  have := Eqint_is ca cb hx hy
  rw [decide_eq_true rfl] at this
  exact this
end Go.Proofs.Ytkedpifopclipaa
namespace Go.Aig
theorem and_err {G : Gra} {a b : Nat} (h : (and G a b).2.2 ≠ 0) : and G a b = (G, 0, (and G a b).2.2) := by
  unfold and at h ⊢
  split
  · rename_i r hi; rw [hi] at h; exact absurd rfl h
  · rename_i l r hi
    rw [hi] at h
    dsimp only at h
    cases hf : findAnd G.nodes l r with
    | some n => rw [hf] at h; exact absurd rfl h
    | none =>
      rw [hf] at h
      dsimp only at h ⊢
      unfold put at h ⊢
      split
      · rfl
      · rename_i hm; rw [if_neg hm] at h; exact absurd rfl h
theorem any_no {ns : List Nd} {l : List Int} (h : ∀ x ∈ l, right ns x = true) : (l.any fun r => !right ns r) = false := by
  rw [List.any_eq_false]
  intro x hx
  rw [h x hx]; simp
theorem whole_ok {G : Gra} {l : List Int} (h : ∀ x ∈ l, right G.nodes x = true) (f : Mk → Mk × Nat) : whole G l f = if (f (G, 0)).1.2 ≠ 0 then (G, 0, (f (G, 0)).1.2) else ((f (G, 0)).1.1, (f (G, 0)).2, 0) := by
  unfold whole
  rw [any_no h, if_neg (by simp)]
theorem mand_zero (G : Gra) (a b : Nat) : mand (G, 0) a b = (((and G a b).1, (and G a b).2.2), (and G a b).2.1) := by unfold mand; rw [if_neg (by simp)]
theorem whole_and {G : Gra} {l : List Int} (h : ∀ x ∈ l, right G.nodes x = true) (a b : Nat) : whole G l (fun s => mand s a b) = and G a b := by
  rw [whole_ok h, mand_zero]
  dsimp only
  split
  · rename_i he; exact (and_err he).symm
  · rename_i he
    simp only [ne_eq, Decidable.not_not] at he
    rw [← he]
theorem right_nat {ns : List Nd} {x : Int} (h : right ns x = true) : ∃ r : Nat, x = r ∧ r < 2 * ns.length := by
  unfold right at h
  have := of_decide_eq_true h
  exact ⟨x.toNat, by omega, by omega⟩
end Go.Aig
namespace Go.Proofs.Ytkedpifopclipaa
open Go.RowKit Go.Mem Go.Aig
section
end
end Go.Proofs.Ytkedpifopclipaa
namespace Go.Aig
/-- the program's state beside that of the reference -/
structure Sim (G0 : Gra) (P R : Mk) : Prop where
  ok : Ok P.1
  ext : Ext G0 P.1
  rel : (R.2 = 0 ∧ P = R) ∨ (R.2 = 201 ∧ P.2 = 201)
  rok : Ok R.1
  rext : Ext G0 R.1
end Go.Aig
namespace Go.Proofs.Ytkedpifopclipaa
open Go.RowKit Go.Mem Go.Aig
theorem doAnd_r {G : Gra} {a b : Nat} (ha : a < 2 * G.nodes.length) (hb : b < 2 * G.nodes.length) : doAnd G a b = and G a b := by
  unfold doAnd
  rw [whole_and (by simp [right]; omega)]; rfl
/-- the maker in memory beside its graph -/
structure MIn (w : World) (g m : Nat) (P : Mk) (F : List Nat) : Prop where
  gin : GIn w g P.1 F
  bk : blk w m [.pointer (some ⟨g, 0, none⟩), .int .i64 P.2]
  apart : m ∉ F
section
variable {w : World} {g m : Nat}
end
end Go.Proofs.Ytkedpifopclipaa
namespace Go
open Go.RowKit Go.Mem
section
variable {F : Fence} {n : Nat} {P : Program}
def Books (B : Nat) (W W' : World) : Prop := W'.heap[B]? = W.heap[B]? ∧ W'.heap[B + 1]? = W.heap[B + 1]?
theorem Books.of_ch {B : Nat} {L : List Nat} {W W' : World} (hc : Ch L W W') (hB : B + 2 ≤ W.heap.size) (h : ∀ k ∈ L, k ≠ B ∧ k ≠ B + 1) : Books B W W' :=
  ⟨hc.block B (by omega) (fun hk => (h B hk).1 rfl), hc.block (B + 1) (by omega) (fun hk => (h (B + 1) hk).2 rfl)⟩
theorem ch_put {A : World} {l : Nat} {o' : Obj} {L : List Nat} (hl : l ∈ L) : Ch L A (A.putObj l o') := ⟨rfl, rfl, rfl, by simp, fun k _ hn => World.putObj_heap_other (fun e => by subst e; exact hn hl)⟩

end
end Go
namespace Go.Proofs.Ytkedpifopclipaa
open Go.RowKit Go.Mem Go.Aig
/-- the block of a slice, if it has one -/
def ablk (a : Option Addr) : List Nat := match a with | some p => [p.block] | none => []
theorem keep_cell {w W : World} {k o : Nat} (h : W.heap[k]? = w.heap[k]?) {v : Value} (hv : w.cell? ⟨k, o, none⟩ = some v) : W.cell? ⟨k, o, none⟩ = some v := (World.cell?_of_block h).trans hv
theorem Sl.keep {w W : World} {a : Option Addr} {l : List Int} (h : Sl w a l) (hk : ∀ k ∈ ablk a, W.heap[k]? = w.heap[k]?) : Sl W a l :=
  ⟨fun i x hx => by
    obtain ⟨b, o, rfl, hc⟩ := h.cells i x hx
    exact ⟨b, o, rfl, keep_cell (hk b (by simp [ablk])) hc⟩, h.bd⟩
end Go.Proofs.Ytkedpifopclipaa
namespace Go.Aig
def rightW (n : Int) : Bool := decide (1 ≤ n) && decide (n ≤ 17)
def badIn (G : Gra) (x : List Int) : Bool := x.any fun r => !right G.nodes r
def badAs (n0 : Nat) (x : List Int) : Bool := !rightW x.length || (x.length : Int) != n0
/-- what check finds wrong -/
def chk (G : Gra) (ws : List (List Int)) : Nat :=
  if ws.any (badAs (ws.headD []).length) then 230 else if ws.any (badIn G) then 200 else 0
end Go.Aig
namespace Go.Proofs.Ytkedpifopclipaa
open Go.RowKit Go.Mem Go.Aig
section
variable {w : World} {g : Nat} {G : Gra} {F : List Nat}
end
end Go.Proofs.Ytkedpifopclipaa
namespace Go.Aig
end Go.Aig
namespace Go.Proofs.Ytkedpifopclipaa
open Go.RowKit Go.Mem Go.Aig
/-- what is known between two rounds of a loop that makes a word -/
structure EI (w : World) (g m : Nat) (G : Gra) (X F : List Nat) (B ob mb n : Nat) (R : Mk) (out : List Nat) (W : World) (v : Value) (P : Mk) (l : List Nat) (F' : List Nat) : Prop where
  sim : Sim G P R
  out : R.2 = 0 → l = out
  len : l.length = n
  all : ∀ r ∈ l, r < 2 * P.1.nodes.length
  mem : MIn W g m P F'
  ch : Ch (m :: (X ++ F)) w W
  own : ∀ k ∈ F', k ∈ F ∨ B + 2 ≤ k
  map : F'[2]? = F[2]?
  ob : blk W ob [v]
  mb : blk W mb [.pointer (some ⟨m, 0, none⟩)]
  row : row W 45 1 v l.length (refsCells l)
  fresh : ∀ k, v.ownBlock = some k → B + 2 ≤ k ∧ k ∉ F'
section
variable {w : World} {g m : Nat} {G : Gra} {X F : List Nat} {B ob mb n : Nat} {R : Mk} {out : List Nat} {A A' : World} {v : Value} {P : Mk} {l F' : List Nat}
end
section
variable {w : World} {g m : Nat} {G : Gra} {X F : List Nat} {B ob mb : Nat} {R : Mk} {out : Nat} {A A' : World} {P : Mk} {r : Nat} {F' : List Nat}
end
theorem wp_named {P : Program} {c : Code} {Q : Exit → Act → World → Prop} {a : Act} {w : World} (h : ∀ W, W = w → c.wp P Q a W) : c.wp P Q a w := h w rfl
end Go.Proofs.Ytkedpifopclipaa
namespace Go.Proofs.Ytkedpifopclipaa
open Go.RowKit Go.Mem Go.Aig
attribute [local go_sem] Oper.semAt_some
section
variable {w : World} {g m : Nat} {G : Gra} {F : List Nat}
end
end Go.Proofs.Ytkedpifopclipaa
namespace Go.Aig
end Go.Aig
namespace Go.Proofs.Ytkedpifopclipaa
open Go.RowKit Go.Mem Go.Aig
attribute [local go_sem] Oper.semAt_some
theorem wpIn_named {F : Fence} {n : Nat} {P : Program} {c : Code} {Q : Exit → Act → World → Prop} {a : Act} {w : World} (h : ∀ W, W = w → c.wpIn F n P Q a W) : c.wpIn F n P Q a w := h w rfl
section
variable {w : World} {g m : Nat} {G : Gra} {F : List Nat}
/-- between two rounds of sum -/
structure ES (w : World) (g m : Nat) (G : Gra) (bc : Nat) (F : List Nat) (B ob mb n : Nat) (R : Mk × List Nat × Nat) (W : World) (v : Value) (P : Mk) (l F' : List Nat) (c : Nat) : Prop where
  ei : EI w g m G [bc] F B ob mb n R.1 R.2.1 W v P l F'
  cb : blk W bc [.int .i64 c]
  lt : c < 2 * P.1.nodes.length
  cR : R.1.2 = 0 → c = R.2.2
end
end Go.Proofs.Ytkedpifopclipaa
namespace Go.Aig
end Go.Aig
namespace Go.Proofs.Ytkedpifopclipaa
open Go.RowKit Go.Mem Go.Aig
attribute [local go_sem] Oper.semAt_some
section
variable {w : World} {g m : Nat} {G : Gra} {F : List Nat}
end
end Go.Proofs.Ytkedpifopclipaa
namespace Go.Aig
end Go.Aig
namespace Go.Proofs.Ytkedpifopclipaa
open Go.RowKit Go.Mem Go.Aig
attribute [local go_sem] Oper.semAt_some
section
variable {w : World} {g m : Nat} {G : Gra} {F : List Nat}
end
end Go.Proofs.Ytkedpifopclipaa
namespace Go.Aig
def nats (l : List Int) : List Nat := l.map Int.toNat
@[simp] theorem nats_len (l : List Int) : (nats l).length = l.length := by simp [nats]
theorem badIn_no {G : Gra} {x : List Int} (h : badIn G x = false) : (nats x).map (fun (r : Nat) => (r : Int)) = x ∧ ∀ r ∈ nats x, r < 2 * G.nodes.length := by
  unfold badIn at h
  rw [List.any_eq_false] at h
  have h1 : ∀ r ∈ x, 0 ≤ r ∧ r < 2 * G.nodes.length := fun r hr => by simpa [right] using h r hr
  clear h
  constructor
  · unfold nats
    rw [List.map_map]
    refine (List.map_congr_left (g := id) fun r hr => ?_).trans (List.map_id _)
    have := h1 r hr
    simp; omega
  · intro r hr
    obtain ⟨q, hq, rfl⟩ := List.mem_map.1 hr
    have := h1 q hq
    omega
end Go.Aig
namespace Go.Proofs.Ytkedpifopclipaa
open Go.RowKit Go.Mem Go.Aig
theorem calls_named {P : Program} {f : FuncId} {args : Array Value} {w : World} {R : Ending → World → Prop} (h : ∀ W, W = w → Calls P f args W R) : Calls P f args w R := h w rfl
section
variable {w : World} {g : Nat} {G : Gra} {F : List Nat}
end
end Go.Proofs.Ytkedpifopclipaa
namespace Go.Aig
end Go.Aig
namespace Go.Proofs.Ytkedpifopclipaa
open Go.RowKit Go.Mem Go.Aig
section
variable {w : World}
/-- a slice of truths that is read -/
abbrev Sb (w : World) (a : Option Addr) (l : List Bool) : Prop := Sv w a (l.map Value.bool)
end
end Go.Proofs.Ytkedpifopclipaa
namespace Go.Aig
def natInts (l : List Nat) : List Int := l.map fun (r : Nat) => (r : Int)
@[simp] theorem natInts_len (l : List Nat) : (natInts l).length = l.length := by simp [natInts]
end Go.Aig
namespace Go.Proofs.Ytkedpifopclipaa
open Go.RowKit Go.Mem Go.Aig
theorem refs_natInts (l : List Nat) : refsCells l = intCells (natInts l) := by simp [refsCells, intCells, natInts]
/-- where a walk began, and blocks that are kept as they are -/
structure Base where
  w : World
  K : List (Nat × List Value) := []
instance : Coe World Base := ⟨fun w => ⟨w, []⟩⟩
section
variable {w0 : Base} {w : World} {g : Nat} {G : Gra} {F : List Nat} {L : List (Value × List Int)}
end
end Go.Proofs.Ytkedpifopclipaa
namespace Go.Proofs.Ytkedpifopclipaa
open Go.RowKit Go.Mem Go.Aig
def sa2 : Gra := ⟨50, [⟨1, 0, 0, 0⟩, ⟨2, 0, 0, 0⟩, ⟨2, 0, 0, 0⟩]⟩
section
end
end Go.Proofs.Ytkedpifopclipaa
namespace Go.Aig
/-- a graph of inputs alone -/
def gIn (most n : Nat) : Gra := ⟨most, ⟨1, 0, 0, 0⟩ :: List.replicate n ⟨2, 0, 0, 0⟩⟩
/-- the references of n inputs behind s others -/
def rIn (s n : Nat) : List Nat := (List.range n).map fun i => 2 * (s + i + 1)
@[simp] theorem rIn_len (s n : Nat) : (rIn s n).length = n := by simp [rIn]
end Go.Aig
namespace Go.Proofs.Ytkedpifopclipaa
open Go.RowKit Go.Mem Go.Aig
end Go.Proofs.Ytkedpifopclipaa
namespace Go.Aig
end Go.Aig
namespace Go.Proofs.Ytkedpifopclipaa
open Go.RowKit Go.Mem Go.Aig
theorem slBools : SliceTy Try.prog 56 4 1 1 (.bool false) := ⟨Try.underlying56, infoBool, rfl, by decide⟩
theorem eqSliceNilB (w : World) (a : Option Addr) (n c : Nat) : (binOp .eql 56 (.slice a n c) (.slice none 0 0)).run Try.prog w = .ok (.bool a.isNone) w := by
  have h : Try.prog.underlying 56 = some (.slice 4) := Try.underlying56
  simp only [binOp]
  simp [run_equal_slice_nil w _ _ a n c h]
attribute [local go_sem] eqSliceNilB
section
variable {w : World}
set_option maxRecDepth 100000 in
set_option maxHeartbeats 1000000 in
theorem Clbool_is {a : Option Addr} {l : List Bool} (n c : Nat) (hn : l.length = n) (h : Sb w a l) (hm : n ≤ 1000000) : Calls Try.prog 96 #[.slice a n c] w fun e w' => ∃ v, e = .returned v ∧ row w' 4 1 v n (l.map Value.bool) ∧ (∀ q ∈ v.ownBlock.toList, w.heap.size ≤ q) ∧ Ch [] w w' := by
  subst hn
  cases a with
  | none =>
    have hl : l = [] := by
      cases l with
      | nil => rfl
      | cons y l =>
        obtain ⟨b, o, e, _⟩ := h.cells 0 (.bool y) rfl
        cases e
    subst hl
    clear h
    go_enter Try.func96, Try.ntmps96
    go_wp2_with fail
    go_ret
    exact ⟨_, rfl, ⟨rfl, .inl ⟨rfl, rfl⟩⟩, by simp, Ch.refl _ _⟩
  | some p =>
    have hO : row (w.alloc (.cells #[] 4)) 4 1 (.slice (some ⟨w.heap.size, 0, none⟩) 0 0) 0 [] := ⟨rfl, .inr ⟨w.heap.size, 0, #[], rfl, by omega, heap_alloc_new w _, by omega, by unfold maxLen; omega, rfl, rfl⟩⟩
    have hN : ∀ j u, (l.map Value.bool)[j]? = some u → (w.alloc (.cells #[] 4)).cell? (p.add j) = some u := fun j u hu => by
      obtain ⟨b, o, e, hc⟩ := h.cells j u hu
      cases e
      rw [Addr.add_lit]
      exact (((Ch.refl [] w).alloc _).cell (cell_lt hc) (by simp)).trans hc
    have h1 : ∀ u ∈ l.map Value.bool, u.oneCell' = true := fun u hu => by
      obtain ⟨r, _, rfl⟩ := List.mem_map.1 hu
      rfl
    have HO := Lib.hid hO; clear hO
    have HN := Lib.hid hN; clear hN h
    have H1 := Lib.hid h1; clear h1
    go_enter Try.func96, Try.ntmps96
    go_wp2_with (at_builtin; go_loud (refine wpList_append_row slBools rfl _ _ rfl (v := .slice (some ⟨w.heap.size, 0, none⟩) 0 0) (n := 0) (xs := []) rfl HO.out (ad := p) (m := l.length) (c := c) (news := l.map Value.bool) rfl (by simp) HN.out H1.out (by omega) (by omega) ?_; intro v' w2 hown hC2 hfresh; have HOWN := Lib.hid hown; clear hown; have HC2 := Lib.hid hC2; clear hC2; have HFR := Lib.hid hfresh; clear hfresh))
    go_ret
    have hown := HOWN.out
    rw [Nat.zero_add, List.nil_append] at hown
    refine ⟨_, rfl, hown, fun k hk => ?_, (((Ch.refl [] w).alloc (.cells #[] 4))).trans HC2.out (by simp)⟩
    rcases HFR.out k (by simpa using hk) with e | e
    · simp at e; omega
    · simp at e; omega
end
end Go.Proofs.Ytkedpifopclipaa
namespace Go.Proofs.Ytkedpifopclipaa
open Go.RowKit Go.Mem Go.Aig
theorem takeB_succ {xs ys : List Bool} {k : Nat} {x y : Bool} (h : xs.take k = ys.take k) (hx : xs[k]? = some x) (hy : ys[k]? = some y) (e : x = y) : xs.take (k + 1) = ys.take (k + 1) := by
  rw [List.take_add_one, List.take_add_one, h, hx, hy, e]
section
variable {w : World}
set_option maxRecDepth 100000 in
set_option maxHeartbeats 1000000 in
theorem Eqbool_is {a b : Option Addr} {xs ys : List Bool} (ca cb : Nat) (hx : Sb w a xs) (hy : Sb w b ys) :
    Calls Try.prog 47 #[.slice a xs.length ca, .slice b ys.length cb] w fun e w' => e = .returned (.bool (decide (xs = ys))) ∧ Ch [] w w' := by
  have hbx : xs.length ≤ 9223372036854775807 := by have := hx.bd; simpa using this
  have hby : ys.length ≤ 9223372036854775807 := by have := hy.bd; simpa using this
  have HX := Lib.hid hx; clear hx
  have HY := Lib.hid hy; clear hy
  by_cases hl : xs.length = ys.length
  · have hne : ((xs.length : Int) != (ys.length : Int)) = false := by simp [hl]
    generalize hd : decide (xs = ys) = d
    have HD := Lib.hid hd; clear hd
    have HL := Lib.hid hl; clear hl
    go_enter Try.func47, Try.ntmps47
    go_wp2_with fail
    go_loopw [13] (fun i wr => ∃ k : Nat, k ≤ xs.length ∧ i = .int .i64 k ∧ xs.take k = ys.take k ∧ Ch [] w wr) (fun i _ => xs.length - (intOf i).toNat)
    case atStart => exact ⟨0, Nat.zero_le _, rfl, rfl, Ch.refl _ _⟩
    case round =>
      obtain ⟨k, hk, rfl, ht, hc⟩ := hrel
      have HT := Lib.hid ht; clear ht
      by_cases hlt : k < xs.length
      · have hlt2 : k < ys.length := by have := HL.out; omega
        have hxk : xs[k]? = some xs[k] := List.getElem?_eq_getElem hlt
        have hyk : ys[k]? = some ys[k] := List.getElem?_eq_getElem hlt2
        obtain ⟨b1, o1, rfl, c1⟩ := (HX.out.ch hc (by simp)).cells k (.bool xs[k]) (by simp [hxk])
        obtain ⟨b2, o2, rfl, c2⟩ := (HY.out.ch hc (by simp)).cells k (.bool ys[k]) (by simp [hyk])
        generalize xs[k] = x at *
        generalize ys[k] = y at *
        have HXK := Lib.hid hxk; clear hxk
        have HYK := Lib.hid hyk; clear hyk
        have HC := Lib.hid hc; clear hc
        by_cases hxy : x = y
        · have hb : (!(x == y)) = false := by simp [hxy]
          have HE := Lib.hid hxy; clear hxy
          go_wp2_with fail
          refine Ord.St.door (fun _ => True) [.fl, .fl, .fl, .rd, .fl, .fl, .fl, .rd, .fl] [0, 0, 3, 7, 0, 0, 48, 112, 255] [0, 1, 2, 3, 4, 5, 6, 7, 8] mixed (by kernel_rfl) rfl ?_
          refine Ord.St.fl2 (T' := ?_) 0 [1, 2, 3, 4, 5, 6, 7, 8] _ _ rfl (by kernel_rfl) rfl rfl rfl rfl (fun K w' hk => ?_) ?_
          rotate_left
          · go_step; exact hk
          refine Ord.St.fl2 (T' := ?_) 1 [2, 3, 4, 5, 6, 7, 8] _ _ rfl (by kernel_rfl) rfl rfl rfl rfl (fun K w' hk => ?_) ?_
          rotate_left
          · go_step; exact hk
          refine Ord.St.fl2 (T' := ?_) 2 [3, 4, 5, 6, 7, 8] _ _ rfl (by kernel_rfl) rfl rfl rfl rfl (fun K w' hk => ?_) ?_
          rotate_left
          · go_step; exact hk
          refine Ord.St.rd2 (T' := ?_) 3 [4, 5, 6, 7, 8] _ _ rfl (by kernel_rfl) rfl rfl rfl rfl (fun K hk => ?_) ?_
          rotate_left
          · go_step; exact hk
          refine Ord.St.fl2 (T' := ?_) 4 [5, 6, 7, 8] _ _ rfl (by kernel_rfl) rfl rfl rfl rfl (fun K w' hk => ?_) ?_
          rotate_left
          · go_step; exact hk
          refine Ord.St.fl2 (T' := ?_) 5 [6, 7, 8] _ _ rfl (by kernel_rfl) rfl rfl rfl rfl (fun K w' hk => ?_) ?_
          rotate_left
          · go_step; exact hk
          refine Ord.St.fl2 (T' := ?_) 6 [7, 8] _ _ rfl (by kernel_rfl) rfl rfl rfl rfl (fun K w' hk => ?_) ?_
          rotate_left
          · go_step; exact hk
          refine Ord.St.rd2 (T' := ?_) 7 [8] _ _ rfl (by kernel_rfl) rfl rfl rfl rfl (fun K hk => ?_) ?_
          rotate_left
          · go_step; exact hk
          refine Ord.St.fl2 (T' := ?_) 8 [] _ _ rfl (by kernel_rfl) rfl rfl rfl rfl (fun K w' hk => ?_) ?_
          rotate_left
          · go_step; exact hk
          refine Ord.St.nil ?_
          go_wp2_with fail
          go_roundw
          case rel => exact ⟨k + 1, by omega, by go_num, takeB_succ HT.out HXK.out HYK.out HE.out, HC.out.drew⟩
          case measure => simp [intOf]; omega
        · have hb : (!(x == y)) = true := by simp [hxy]
          have hdf : d = false := by
            rw [← HD.out]
            refine decide_eq_false fun e => hxy ?_
            have h1 := HXK.out
            rw [e, HYK.out] at h1
            cases h1; rfl
          have HDF := Lib.hid hdf; clear hdf
          clear hxy
          go_wp2_with fail
          refine Ord.St.door (fun _ => True) [.fl, .fl, .fl, .rd, .fl, .fl, .fl, .rd, .fl] [0, 0, 3, 7, 0, 0, 48, 112, 255] [0, 1, 2, 3, 4, 5, 6, 7, 8] mixed (by kernel_rfl) rfl ?_
          refine Ord.St.fl2 (T' := ?_) 0 [1, 2, 3, 4, 5, 6, 7, 8] _ _ rfl (by kernel_rfl) rfl rfl rfl rfl (fun K w' hk => ?_) ?_
          rotate_left
          · go_step; exact hk
          refine Ord.St.fl2 (T' := ?_) 1 [2, 3, 4, 5, 6, 7, 8] _ _ rfl (by kernel_rfl) rfl rfl rfl rfl (fun K w' hk => ?_) ?_
          rotate_left
          · go_step; exact hk
          refine Ord.St.fl2 (T' := ?_) 2 [3, 4, 5, 6, 7, 8] _ _ rfl (by kernel_rfl) rfl rfl rfl rfl (fun K w' hk => ?_) ?_
          rotate_left
          · go_step; exact hk
          refine Ord.St.rd2 (T' := ?_) 3 [4, 5, 6, 7, 8] _ _ rfl (by kernel_rfl) rfl rfl rfl rfl (fun K hk => ?_) ?_
          rotate_left
          · go_step; exact hk
          refine Ord.St.fl2 (T' := ?_) 4 [5, 6, 7, 8] _ _ rfl (by kernel_rfl) rfl rfl rfl rfl (fun K w' hk => ?_) ?_
          rotate_left
          · go_step; exact hk
          refine Ord.St.fl2 (T' := ?_) 5 [6, 7, 8] _ _ rfl (by kernel_rfl) rfl rfl rfl rfl (fun K w' hk => ?_) ?_
          rotate_left
          · go_step; exact hk
          refine Ord.St.fl2 (T' := ?_) 6 [7, 8] _ _ rfl (by kernel_rfl) rfl rfl rfl rfl (fun K w' hk => ?_) ?_
          rotate_left
          · go_step; exact hk
          refine Ord.St.rd2 (T' := ?_) 7 [8] _ _ rfl (by kernel_rfl) rfl rfl rfl rfl (fun K hk => ?_) ?_
          rotate_left
          · go_step; exact hk
          refine Ord.St.fl2 (T' := ?_) 8 [] _ _ rfl (by kernel_rfl) rfl rfl rfl rfl (fun K w' hk => ?_) ?_
          rotate_left
          · go_step; exact hk
          refine Ord.St.nil ?_
          go_wp2_with fail
          go_ret
          rw [HDF.out]
          exact ⟨rfl, HC.out.drew⟩
      · have hdt : d = true := by
          rw [← HD.out]
          have h1 := HT.out
          rw [List.take_of_length_le (by omega), List.take_of_length_le (by have := HL.out; omega)] at h1
          exact decide_eq_true h1
        have HDT := Lib.hid hdt; clear hdt
        have HC := Lib.hid hc; clear hc
        go_wp2_with fail
        go_ret
        rw [HDT.out]
        exact ⟨rfl, HC.out⟩
  · have hne : ((xs.length : Int) != (ys.length : Int)) = true := by rw [bne_iff_ne]; omega
    have hd : decide (xs = ys) = false := decide_eq_false fun e => hl (by rw [e])
    rw [hd]
    clear hd
    go_enter Try.func47, Try.ntmps47
    go_wp2_with fail
    go_ret
    exact ⟨rfl, Ch.refl _ _⟩
end
end Go.Proofs.Ytkedpifopclipaa
namespace Go.Proofs.Ytkedpifopclipaa
open Go.ChangeShapes Go.WideShapes Go.ChangeAt Go.RowKit Go.Mem Go.Aig Go.Deep
theorem own : ownKnob Try.prog.godebug = none := by kernel_rfl
theorem laidOut : laidOutB Try.prog = true := by kernel_rfl
theorem list_of {α : Type} (P : Nat → α → Prop) : ∀ (n : Nat), (∀ i, i < n → ∃ x, P i x) → ∃ l : List α, l.length = n ∧ ∀ i x, l[i]? = some x → P i x
  | 0, _ => ⟨[], rfl, by simp⟩
  | n + 1, h => by
    obtain ⟨l, hl, hp⟩ := list_of P n (fun i hi => h i (by omega))
    obtain ⟨x, hx⟩ := h n (by omega)
    refine ⟨l ++ [x], by simp [hl], fun i y hy => ?_⟩
    by_cases hi : i < n
    · rw [List.getElem?_append_left (by omega)] at hy; exact hp i y hy
    · have hlt := (List.getElem?_eq_some_iff.1 hy).1
      simp at hlt
      have : i = n := by omega
      subst this
      rw [List.getElem?_append_right (by omega)] at hy
      simp [hl] at hy
      subst hy; exact hx
section
variable {H : Type} {enc : TypeId × Value → H} {W : World}
theorem wf_i64 {z : Int} (h : (Lit.int .i64 z).wf = true) : -9223372036854775808 ≤ z ∧ z ≤ 9223372036854775807 := by
  simpa [Lit.wf, IntKind.min, IntKind.max, IntKind.signed, IntKind.bits] using h
/-- a slice of numbers that came in -/
structure IntS (w : World) (a : Option Addr) (n cap : Nat) (l : List Int) : Prop where
  sl : Sl w a l
  len : l.length = n
  bd : ∀ r ∈ l, -9223372036854775808 ≤ r ∧ r ≤ 9223372036854775807
  le : n ≤ cap
  max : cap ≤ 9223372036854775807
structure BoolS (w : World) (a : Option Addr) (n cap : Nat) (l : List Bool) : Prop where
  sl : Sb w a l
  len : l.length = n
  le : n ≤ cap
  max : cap ≤ 9223372036854775807
set_option maxRecDepth 100000 in
theorem ints_open {fuel : Nat} {c : Value} {x : DataW H × List MemPlace} (hf : DataW.trod enc Try.prog W 0 (fun _ => true) true fuel 23 [c] = some x) :
    ∃ (a : Option Addr) (len cap : Nat) (L : List Int), c = .slice a len cap ∧ Sl W a L ∧ L.length = len ∧ (∀ z ∈ L, -9223372036854775808 ≤ z ∧ z ≤ 9223372036854775807) ∧ len ≤ cap ∧ cap ≤ 9223372036854775807 := by
  rcases open_slice Try.underlying23 hf with ⟨hcs, _⟩ | ⟨y, l, cp, m, n, D, Pl, hcs, _, hl, hm, hmm, _, hi⟩
  · simp at hcs
    subst hcs
    exact ⟨none, 0, 0, [], rfl, ⟨by simp, by simp⟩, rfl, by simp, by omega, by omega⟩
  · simp at hcs
    subst hcs
    have hm' : cp ≤ 9223372036854775807 := by unfold maxLen at hm; exact hm
    have hC : Try.prog.cellsOf 3 = 1 := by kernel_rfl
    have hspot : 0 < l → y.spot = none := fun h0 => by
      obtain ⟨cs', hc, _⟩ := hi 0 (by rw [hmm]; simp; omega)
      rw [hC] at hc
      obtain ⟨_, hcl, hat⟩ := World.cells?_some hc
      have e0 := hat 0 (by omega)
      rw [List.getElem?_eq_getElem (by omega)] at e0
      simpa [Addr.add] using World.cell?_spot e0
    have key : ∀ i, i < l → ∃ z : Int, (∃ b o, (some y : Option Addr) = some ⟨b, o, none⟩ ∧ W.cell? ⟨b, o + i, none⟩ = some (.int .i64 z)) ∧ (-9223372036854775808 ≤ z ∧ z ≤ 9223372036854775807) := by
      intro i hlt
      obtain ⟨cs', hc, ht⟩ := hi i (by rw [hmm]; simp; omega)
      rw [hC] at hc
      obtain ⟨_, hcl, hat⟩ := World.cells?_some hc
      match cs', hcl with
      | [c0], _ =>
        obtain ⟨z, hz, _, hw⟩ := DataW.trod_int Try.underlying3 ht
        have hb := wf_i64 hw
        simp at hz
        subst hz
        have e0 := hat 0 (by omega)
        simp at e0
        obtain ⟨b, o, spot⟩ := y
        have hsp : spot = none := hspot (by omega)
        subst hsp
        simp only [Addr.add_lit] at e0
        exact ⟨z, ⟨b, o, rfl, by simpa using e0⟩, hb⟩
    obtain ⟨ll, hll, hp⟩ := list_of _ l key
    refine ⟨some y, l, cp, ll, rfl, ⟨fun i s hs => (hp i s hs).1, by omega⟩, hll, fun s hs => ?_, hl, hm'⟩
    obtain ⟨i, hi2⟩ := List.mem_iff_getElem?.1 hs
    exact (hp i s hi2).2
theorem intS_open {a : Option Addr} {len cap : Nat} {d : DataW H} {p : List MemPlace} (h : DataW.Trod enc Try.prog W 0 (fun _ => true) true 23 (.slice a len cap) d p) : ∃ l, IntS W a len cap l := by
  obtain ⟨fuel, hf⟩ := h
  obtain ⟨a', len', cap', L, e, h1, h2, h3, h4, h5⟩ := ints_open (c := .slice a len cap) (by simpa [Value.cells] using hf)
  cases e
  exact ⟨L, h1, h2, h3, h4, h5⟩
set_option maxRecDepth 100000 in
theorem bools_open {fuel : Nat} {c : Value} {x : DataW H × List MemPlace} (hf : DataW.trod enc Try.prog W 0 (fun _ => true) true fuel 56 [c] = some x) :
    ∃ (a : Option Addr) (len cap : Nat) (L : List Bool), c = .slice a len cap ∧ Sb W a L ∧ L.length = len ∧ len ≤ cap ∧ cap ≤ 9223372036854775807 := by
  rcases open_slice Try.underlying56 hf with ⟨hcs, _⟩ | ⟨y, l, cp, m, n, D, Pl, hcs, _, hl, hm, hmm, _, hi⟩
  · simp at hcs
    subst hcs
    exact ⟨none, 0, 0, [], rfl, ⟨by simp, by simp⟩, rfl, by omega, by omega⟩
  · simp at hcs
    subst hcs
    have hm' : cp ≤ 9223372036854775807 := by unfold maxLen at hm; exact hm
    have hC : Try.prog.cellsOf 4 = 1 := by kernel_rfl
    have hspot : 0 < l → y.spot = none := fun h0 => by
      obtain ⟨cs', hc, _⟩ := hi 0 (by rw [hmm]; simp; omega)
      rw [hC] at hc
      obtain ⟨_, hcl, hat⟩ := World.cells?_some hc
      have e0 := hat 0 (by omega)
      rw [List.getElem?_eq_getElem (by omega)] at e0
      simpa [Addr.add] using World.cell?_spot e0
    have key : ∀ i, i < l → ∃ z : Bool, (∃ b o, (some y : Option Addr) = some ⟨b, o, none⟩ ∧ W.cell? ⟨b, o + i, none⟩ = some (.bool z)) := by
      intro i hlt
      obtain ⟨cs', hc, ht⟩ := hi i (by rw [hmm]; simp; omega)
      rw [hC] at hc
      obtain ⟨_, hcl, hat⟩ := World.cells?_some hc
      match cs', hcl with
      | [c0], _ =>
        obtain ⟨z, hz, _⟩ := DataW.trod_bool Try.underlying4 ht
        simp at hz
        subst hz
        have e0 := hat 0 (by omega)
        simp at e0
        obtain ⟨b, o, spot⟩ := y
        have hsp : spot = none := hspot (by omega)
        subst hsp
        simp only [Addr.add_lit] at e0
        exact ⟨z, b, o, rfl, by simpa using e0⟩
    obtain ⟨ll, hll, hp⟩ := list_of _ l key
    refine ⟨some y, l, cp, ll, rfl, ⟨fun i s hs => ?_, by rw [List.length_map]; omega⟩, hll, hl, hm'⟩
    rw [List.getElem?_map, Option.map_eq_some_iff] at hs
    obtain ⟨q, hq, rfl⟩ := hs
    exact hp i q hq
theorem boolS_open {a : Option Addr} {len cap : Nat} {d : DataW H} {p : List MemPlace} (h : DataW.Trod enc Try.prog W 0 (fun _ => true) true 56 (.slice a len cap) d p) : ∃ l, BoolS W a len cap l := by
  obtain ⟨fuel, hf⟩ := h
  obtain ⟨a', len', cap', L, e, h1, h2, h4, h5⟩ := bools_open (c := .slice a len cap) (by simpa [Value.cells] using hf)
  cases e
  exact ⟨L, h1, h2, h4, h5⟩
end
end Go.Proofs.Ytkedpifopclipaa
namespace Go.Aig
theorem List.snocRec {α : Type} {motive : List α → Prop} (nil : motive []) (snoc : ∀ l x, motive l → motive (l ++ [x])) (l : List α) : motive l := by
  have : ∀ n (l : List α), l.length = n → motive l := by
    intro n
    induction n with
    | zero => intro l hl; rw [List.eq_nil_of_length_eq_zero hl]; exact nil
    | succ n ih =>
      intro l hl
      have hne : l ≠ [] := by intro e; rw [e] at hl; simp at hl
      rw [← List.dropLast_concat_getLast hne]
      exact snoc _ _ (ih _ (by rw [List.length_dropLast]; omega))
  exact this l.length l rfl
/-- the word of a reference, over the words of the nodes; M has all bits -/
def wref (M : Nat) (vs : List Nat) (r : Nat) : Nat := if r % 2 = 1 then M ^^^ vs.getD (r / 2) 0 else vs.getD (r / 2) 0
def wvStep (M : Nat) (s : List Nat × List Nat) (x : Nd) : List Nat × List Nat :=
  if x.k = 3 then (s.1 ++ [wref M s.1 x.l &&& wref M s.1 x.r], s.2) else if x.k = 2 then (s.1 ++ [s.2.headD 0], s.2.tail) else (s.1 ++ [0], s.2)
/-- the words of the nodes, and those of the inputs that are left -/
def wvF (M : Nat) (ins : List Nat) (ns : List Nd) : List Nat × List Nat := ns.foldl (wvStep M) ([], ins)
theorem wvF_snoc (M : Nat) (ins : List Nat) (ns : List Nd) (x : Nd) : wvF M ins (ns ++ [x]) = wvStep M (wvF M ins ns) x := by unfold wvF; rw [List.foldl_append]; rfl
theorem wvF_len (M : Nat) (ins : List Nat) (ns : List Nd) : (wvF M ins ns).1.length = ns.length := by
  induction ns using List.snocRec with
  | nil => rfl
  | snoc ns x ih =>
    rw [wvF_snoc]
    unfold wvStep
    (repeat' split) <;> simp [ih]
theorem wvF_ext (M : Nat) (ins : List Nat) (ns : List Nd) (x : Nd) : ∃ v, (wvF M ins (ns ++ [x])).1 = (wvF M ins ns).1 ++ [v] := by
  rw [wvF_snoc]
  unfold wvStep
  (repeat' split) <;> exact ⟨_, rfl⟩
theorem wref_ext {M : Nat} {vs more : List Nat} {r : Nat} (h : r < 2 * vs.length) : wref M (vs ++ more) r = wref M vs r := by
  unfold wref
  rw [List.getD_eq_getElem?_getD, List.getD_eq_getElem?_getD, List.getElem?_append_left (by omega)]
theorem wref_bit {N k : Nat} (hk : k < N) (vs : List Nat) (r : Nat) : (wref (2 ^ N - 1) vs r).testBit k = rv (vs.map fun v => v.testBit k) r := by
  have hg : (vs.map fun v => v.testBit k).getD (r / 2) false = (vs.getD (r / 2) 0).testBit k := by
    rw [List.getD_eq_getElem?_getD, List.getD_eq_getElem?_getD, List.getElem?_map]
    cases vs[r / 2]? <;> simp
  unfold wref rv
  rw [hg]
  split
  · rename_i h
    rw [Nat.testBit_xor, Nat.testBit_two_pow_sub_one, decide_eq_true hk, decide_eq_true h, Bool.xor_comm]
  · rename_i h
    rw [decide_eq_false h, Bool.xor_false]
/-- bit by bit, the words are what the nodes are for one assignment -/
theorem wvF_bits {N k : Nat} (hk : k < N) (ins : List Nat) (ns : List Nd) :
    (wvF (2 ^ N - 1) ins ns).1.map (fun v => v.testBit k) = (nv (fun i => (ins.getD i 0).testBit k) ns).1 ∧ (wvF (2 ^ N - 1) ins ns).2 = ins.drop (nv (fun i => (ins.getD i 0).testBit k) ns).2 := by
  induction ns using List.snocRec with
  | nil => exact ⟨rfl, rfl⟩
  | snoc ns x ih =>
    obtain ⟨h1, h2⟩ := ih
    rw [wvF_snoc, nv_snoc]
    unfold wvStep nvStep
    split
    · refine ⟨?_, h2⟩
      simp only [List.map_append, List.map_cons, List.map_nil, h1, Nat.testBit_and, wref_bit hk]
    · split
      · refine ⟨?_, ?_⟩
        · simp only [List.map_append, List.map_cons, List.map_nil, h1, h2]
          congr 2
          rw [List.headD_eq_head?_getD, List.head?_drop, List.getD_eq_getElem?_getD]
        · simp only [h2, List.tail_drop]
      · refine ⟨?_, h2⟩
        simp only [List.map_append, List.map_cons, List.map_nil, h1, Nat.zero_testBit]
theorem wv_bv {N k : Nat} (hk : k < N) (ins : List Nat) (ns : List Nd) (r : Nat) : (wref (2 ^ N - 1) (wvF (2 ^ N - 1) ins ns).1 r).testBit k = bv (fun i => (ins.getD i 0).testBit k) ns r := by
  rw [wref_bit hk, (wvF_bits hk ins ns).1]
  rfl
theorem wref_lt {N : Nat} {vs : List Nat} (h : ∀ v ∈ vs, v < 2 ^ N) (r : Nat) : wref (2 ^ N - 1) vs r < 2 ^ N := by
  have hp : 0 < 2 ^ N := Nat.two_pow_pos N
  have hg : vs.getD (r / 2) 0 < 2 ^ N := by
    rw [List.getD_eq_getElem?_getD]
    cases hq : vs[r / 2]? with
    | none => exact hp
    | some v => exact h v (List.mem_of_getElem? hq)
  unfold wref
  split
  · exact Nat.xor_lt_two_pow (by omega) hg
  · exact hg
theorem wvF_lt {N : Nat} {ins : List Nat} (hi : ∀ v ∈ ins, v < 2 ^ N) (ns : List Nd) : (∀ v ∈ (wvF (2 ^ N - 1) ins ns).1, v < 2 ^ N) ∧ ∀ v ∈ (wvF (2 ^ N - 1) ins ns).2, v < 2 ^ N := by
  have hp : 0 < 2 ^ N := Nat.two_pow_pos N
  induction ns using List.snocRec with
  | nil => exact ⟨by simp [wvF], hi⟩
  | snoc ns x ih =>
    obtain ⟨h1, h2⟩ := ih
    rw [wvF_snoc]
    unfold wvStep
    split
    · refine ⟨fun v hv => ?_, h2⟩
      rcases List.mem_append.1 hv with hv | hv
      · exact h1 v hv
      · rw [List.mem_singleton.1 hv]
        exact Nat.and_lt_two_pow _ (wref_lt h1 _)
    · split
      · refine ⟨fun v hv => ?_, fun v hv => h2 v (List.mem_of_mem_tail hv)⟩
        rcases List.mem_append.1 hv with hv | hv
        · exact h1 v hv
        · rw [List.mem_singleton.1 hv]
          cases hq : (wvF (2 ^ N - 1) ins ns).2 with
          | nil => exact hp
          | cons a l => exact h2 a (by rw [hq]; exact List.mem_cons_self ..)
      · refine ⟨fun v hv => ?_, h2⟩
        rcases List.mem_append.1 hv with hv | hv
        · exact h1 v hv
        · rw [List.mem_singleton.1 hv]; exact hp
/-- how many inputs there are -/
theorem nv_count (env : Nat → Bool) (ns : List Nd) : (nv env ns).2 = (inputs ns).length := by
  have : ∀ (ns : List Nd) (n : Nat), (inputsFrom ns n).length = (ns.filter fun x => x.k == 2).length := by
    intro ns
    induction ns with
    | nil => intro n; rfl
    | cons x ns ih =>
      intro n
      unfold inputsFrom
      split
      · rename_i h; simp [h, ih]
      · rename_i h; simp [h, ih]
  unfold inputs
  rw [this]
  induction ns using List.snocRec with
  | nil => rfl
  | snoc ns x ih =>
    rw [nv_snoc, List.filter_append, List.length_append, ← ih]
    unfold nvStep
    split
    · rename_i h; simp [h]
    · split
      · rename_i h; simp [h]
      · rename_i h; simp [h]
end Go.Aig
namespace Go.Proofs.Ytkedpifopclipaa
open Go.RowKit Go.Mem Go.Aig
def u64s (l : List Nat) : List Value := l.map fun (r : Nat) => .int .u64 r
/-- the words of the four inputs -/
def inWords : List Nat := [43690, 52428, 61680, 65280]
/-- the word of a reference, over the words of the nodes -/
def wv (vs : List Nat) (r : Nat) : Nat := if r % 2 = 1 then vs.getD (r / 2) 0 ^^^ 65535 else vs.getD (r / 2) 0
end Go.Proofs.Ytkedpifopclipaa
namespace Go.Aig
/-- what the program tells of a node -/
theorem node_tells {G : Gra} (h : Ok G) {n : Nat} {x : Nd} (hx : G.nodes[n]? = some x) : kindOf G.nodes ((2 * n : Nat) : Int) = x.k ∧ lOf G.nodes ((2 * n : Nat) : Int) = x.l ∧ rOf G.nodes ((2 * n : Nat) : Int) = x.r ∧ x.k ≤ 3 := by
  have hn : nodeAt G.nodes ((2 * n : Nat) : Int) = some x := by
    unfold nodeAt
    rw [if_pos (by omega), Int.toNat_natCast, show 2 * n / 2 = n by omega, hx]
  unfold kindOf lOf rOf
  rw [hn]
  refine ⟨rfl, ?_, ?_, ?_⟩
  · show (if x.k = 3 then x.l else 0) = x.l
    by_cases h0 : n = 0
    · subst h0; rw [h.wf.const] at hx; cases hx; rfl
    · rcases h.wf.other n x hx (by omega) with e | e
      · rw [e]; rfl
      · rw [if_pos e.1]
  · show (if x.k = 3 then x.r else 0) = x.r
    by_cases h0 : n = 0
    · subst h0; rw [h.wf.const] at hx; cases hx; rfl
    · rcases h.wf.other n x hx (by omega) with e | e
      · rw [e]; rfl
      · rw [if_pos e.1]
  · by_cases h0 : n = 0
    · subst h0; rw [h.wf.const] at hx; cases hx; decide
    · rcases h.wf.other n x hx (by omega) with e | e
      · rw [e]; decide
      · omega
end Go.Aig
namespace Go.Proofs.Ytkedpifopclipaa
open Go.RowKit Go.Mem Go.Aig
section
variable {w : World} {g : Nat} {G : Gra} {F : List Nat}
end
end Go.Proofs.Ytkedpifopclipaa
namespace Go.Proofs.Ytkedpifopclipaa
open Go.RowKit Go.Mem Go.Aig
/-- all bits -/
abbrev U64 : Nat := 18446744073709551615
theorem u64_pow : (2 ^ 64 - 1 : Nat) = U64 := rfl
theorem infoU64 : (Try.prog.info? 183).map (fun i => (i.zero, i.size, i.bytes)) = some (some (.int .u64 0), 1, 8) := by kernel_rfl
theorem slU64s : SliceTy Try.prog 182 183 1 8 (.int .u64 0) := ⟨Try.underlying182, infoU64, rfl, by decide⟩
theorem run_make_u64s (w : World) (n : Nat) (hn : n ≤ 1000000) : (Instr.makeSlice 182 (.int .i64 n) (.int .i64 n)).run Try.prog w = .ok (.slice (some ⟨w.heap.size, 0, none⟩) n n) (w.alloc (.cells (u64s (List.replicate n 0)).toArray 183)) := by
  obtain ⟨i, hi, hz, hs, hb⟩ := info_parts infoU64
  have := run_make (P := Try.prog) w 182 183 i (.int .u64 0) Try.underlying182 hi hz .i64 .i64 n n (by omega) (by omega) (by rw [hb]; omega) (by omega)
  rw [this, hs]
  have e : madeCells (Value.int .u64 0).cells ((n : Int).toNat * 1) = (u64s (List.replicate n 0)).toArray := by
    apply Array.ext'
    have h := toList_madeCells_one (Value.int .u64 0) ((n : Int).toNat * 1)
    simpa [u64s, Value.cells] using h
  rw [e]; simp
theorem u64s_get {l : List Nat} {i v : Nat} (h : l[i]? = some v) : (u64s l)[i]? = some (.int .u64 v) := by simp [u64s, h]
section
variable {w : World}
set_option maxRecDepth 100000 in
set_option maxHeartbeats 2000000 in
theorem simof1_is {bx nb n c : Nat} {vs : List Nat} (hb : w.cell? ⟨bx, 0, none⟩ = some (.slice (some ⟨nb, 0, none⟩) n c)) (hk : blk w nb (u64s vs)) (hn : vs.length = n) (hlt : ∀ v ∈ vs, v < 2 ^ 64) (r : Nat) (hr : r < 2 * n) (hr2 : r ≤ 1000000) :
    Calls Try.prog 203 #[.int .i64 r, .pointer (some ⟨bx, 0, none⟩)] w fun e w' => e = .returned (.int .u64 (wref U64 vs r)) ∧ w = w' := by
  have hg : vs[r / 2]? = some vs[r / 2] := List.getElem?_eq_getElem (by omega)
  have hx := hlt _ (List.getElem_mem (show r / 2 < vs.length by omega))
  have c0 : w.cell? ⟨nb, r / 2, none⟩ = some (.int .u64 vs[r / 2]) := hk.cell (u64s_get hg)
  have hv : wref U64 vs r = if r % 2 = 1 then U64 ^^^ vs[r / 2] else vs[r / 2] := by unfold wref; rw [List.getD_eq_getElem?_getD, hg]; rfl
  rw [hv]
  generalize vs[r / 2] = x at *
  clear hg hk hlt hv
  by_cases h1 : r % 2 = 1
  · rw [if_pos h1]
    have hbb : ((r : Int) % 2 == 1) = true := by simp; omega
    have hnx := bits_xor_u64_nat U64 x (by decide) (by omega)
    have H1 := Lib.hid h1; clear h1
    have HNX := Lib.hid hnx; clear hnx
    have HN := Lib.hid hn; clear hn
    go_enter Try.func203, Try.ntmps203
    go_wp2_with fail
    go_ret
    exact ⟨ret_int (by first | exact HNX.out | (rw [show IntKind.u64.max = ((U64 : Nat) : Int) from by decide]; exact HNX.out)), rfl⟩
  · rw [if_neg h1]
    have hbb : ((r : Int) % 2 == 1) = false := by simp; omega
    have H1 := Lib.hid h1; clear h1
    have HN := Lib.hid hn; clear hn
    go_enter Try.func203, Try.ntmps203
    go_wp2_with fail
    go_ret
    exact ⟨rfl, rfl⟩
theorem fnvsimof1 : Fnv 203 := fnv_of Try.func203 (by simp [Try.f203]) (by simp [Try.f203])
set_option maxRecDepth 100000 in
set_option maxHeartbeats 400000 in
theorem simof_is (a : Option Addr) (n c : Nat) : Calls Try.prog 173 #[.slice a n c] w fun e w' => e = .returned (.func (.func 203) #[] #[.pointer (some ⟨w.heap.size, 0, none⟩)]) ∧ w' = w.alloc (.cells #[.slice a n c] 182) := by
  go_enter Try.func173, Try.ntmps173
  go_wp2_with fail
  go_ret
  exact ⟨rfl, rfl⟩
theorem isAnd_at {G : Gra} (hG : Ok G) {n : Nat} {x : Nd} (hx : G.nodes[n]? = some x) : isAndAt G.nodes ((2 * n : Nat) : Int) = (x.k == 3) := by
  have := (node_tells hG hx).1
  unfold isAndAt
  rw [this]
theorem Sv.ch2 {F : List Nat} {w w' : World} {a : Option Addr} {xs : List Value} (h : Sv w a xs) (hc : Ch F w w') (hF : 0 < xs.length → ∀ p, a = some p → p.block ∉ F) : Sv w' a xs :=
  ⟨fun i x hx => by
    obtain ⟨b, o, rfl, hcell⟩ := h.cells i x hx
    have hlt := (List.getElem?_eq_some_iff.1 hx).1
    exact ⟨b, o, rfl, (hc.cell (p := ⟨b, o + i, none⟩) (cell_lt hcell) (hF (by omega) ⟨b, o, none⟩ rfl)).trans hcell⟩, h.bd⟩
theorem u64s_len (l : List Nat) : (u64s l).length = l.length := by simp [u64s]
theorem set_mid (L : List Nat) (m v : Nat) (hm : 0 < m) : (u64s (L ++ List.replicate m 0)).set L.length (.int .u64 v) = u64s ((L ++ [v]) ++ List.replicate (m - 1) 0) := by
  obtain ⟨k, rfl⟩ : ∃ k, m = k + 1 := ⟨m - 1, by omega⟩
  unfold u64s
  rw [List.map_append, List.set_append_right _ _ (by simp)]
  simp [List.replicate_succ]
theorem set_zero (L : List Nat) (m : Nat) (hm : 0 < m) : u64s (L ++ List.replicate m 0) = u64s ((L ++ [0]) ++ List.replicate (m - 1) 0) := by
  obtain ⟨k, rfl⟩ : ∃ k, m = k + 1 := ⟨m - 1, by omega⟩
  simp [u64s, List.replicate_succ]
set_option maxRecDepth 100000 in
set_option maxHeartbeats 8000000 in
theorem simnodes_is {g : Nat} {G : Gra} {F : List Nat} (h : GIn w g G F) {xa : Option Addr} {ins : List Nat} (xc : Nat) (hS : Sv w xa (u64s ins)) (hi : (inputs G.nodes).length = ins.length) (hlt : ∀ v ∈ ins, v < 2 ^ 64) (hcap : ins.length ≤ xc) (hxc : xc ≤ 9223372036854775807) :
    Calls Try.prog 174 #[.pointer (some ⟨g, 0, none⟩), .slice xa ins.length xc] w fun e w' => e = .returned (.slice (some ⟨w.heap.size, 0, none⟩) G.nodes.length G.nodes.length) ∧ blk w' w.heap.size (u64s (wvF U64 ins G.nodes).1) ∧ Ch [] w w' := by
  have hok := h.ok
  have hroom := hok.room
  have hmost := hok.most
  obtain ⟨N, hN⟩ : ∃ N, N = G.nodes.length := ⟨_, rfl⟩
  have hN0 : N ≤ 65536 := by omega
  have hLen := Len_g h
  rw [← hN] at hLen ⊢
  have hE0 : wvF U64 ins (G.nodes.take 0) = ([], ins) := rfl
  have hEn : wvF U64 ins (G.nodes.take N) = wvF U64 ins G.nodes := by rw [List.take_of_length_le (by omega)]
  have hEs : ∀ (k : Nat) (x : Nd), G.nodes[k]? = some x → wvF U64 ins (G.nodes.take (k + 1)) = wvStep U64 (wvF U64 ins (G.nodes.take k)) x := fun k x hx => by
    rw [List.take_add_one, hx]; exact wvF_snoc _ _ _ _
  have hEl : ∀ k, k ≤ N → (wvF U64 ins (G.nodes.take k)).1.length = k := fun k hk => by rw [wvF_len, List.length_take]; omega
  have hEb := fun k => wvF_lt (N := 64) hlt (G.nodes.take k)
  rw [u64_pow] at hEb
  have hE2 : ∀ (k : Nat) (x : Nd), G.nodes[k]? = some x → x.k = 2 → 0 < (wvF U64 ins (G.nodes.take k)).2.length := fun k x hx hk2 => by
    have h1 := (wvF_bits (N := 64) (k := 0) (by omega) ins (G.nodes.take k)).2
    rw [u64_pow] at h1
    rw [h1, nv_count, List.length_drop]
    have hsp := split_at hx
    have h2 : (inputs (G.nodes.take (k + 1))).length = (inputs (G.nodes.take k)).length + 1 := by
      rw [List.take_add_one, hx]
      rw [show (some x).toList = [x] from rfl, inputs_input hk2, List.length_append]; rfl
    have h3 : (inputs (G.nodes.take (k + 1))).length ≤ (inputs G.nodes).length := by
      rw [← nv_count (fun _ => false), ← nv_count (fun _ => false)]
      have : ∀ (ms ns : List Nd), (nv (fun _ => false) ns).2 ≤ (nv (fun _ => false) (ns ++ ms)).2 := by
        intro ms
        induction ms with
        | nil => intro ns; simp
        | cons y ms ih =>
          intro ns
          rw [List.append_cons]
          refine Nat.le_trans ?_ (ih (ns ++ [y]))
          rw [nv_snoc]; unfold nvStep
          (repeat' split) <;> simp
      conv => rhs; rw [← List.take_append_drop (k + 1) G.nodes]
      exact this _ _
    omega
  obtain ⟨E, hE⟩ : ∃ E : Nat → List Nat × List Nat, E = fun k => wvF U64 ins (G.nodes.take k) := ⟨_, rfl⟩
  have hEk : ∀ k, wvF U64 ins (G.nodes.take k) = E k := fun k => by rw [hE]
  simp only [hEk] at hE0 hEn hEs hEl hEb hE2
  rw [← hEn]
  clear hE hEk hEn
  have hmk := run_make_u64s w N (by omega)
  have hnt : ∀ (k : Nat) (x : Nd), G.nodes[k]? = some x → kindOf G.nodes (2 * (k : Int)) = x.k ∧ lOf G.nodes (2 * (k : Int)) = x.l ∧ rOf G.nodes (2 * (k : Int)) = x.r ∧ isAndAt G.nodes (2 * (k : Int)) = (x.k == 3) ∧ x.k ≤ 3 := fun k x hx => by
    obtain ⟨a1, a2, a3, a4⟩ := node_tells hok hx
    have a5 := isAnd_at hok hx
    rw [show ((2 * k : Nat) : Int) = 2 * (k : Int) by omega] at a1 a2 a3 a5
    exact ⟨a1, a2, a3, a5, a4⟩
  have hwf := hok.wf
  have HWF := Lib.hid hwf; clear hwf
  have HNT := Lib.hid hnt; clear hnt
  have H := Lib.hid h; clear h
  have HS := Lib.hid hS; clear hS
  have HE0 := Lib.hid hE0; clear hE0
  have HES := Lib.hid hEs; clear hEs
  have HEL := Lib.hid hEl; clear hEl
  have HEB := Lib.hid hEb; clear hEb
  have HE2 := Lib.hid hE2; clear hE2
  have HN := Lib.hid hN; clear hN hi hlt
  have hcf : ∀ args w, (callFunc 203 args).run Try.prog w = .ok (.enter 203 args) w := fnvsimof1
  go_enter Try.func174, Try.ntmps174
  go_wp2_with fail
  refine hLen.mono ?_
  rintro e w' ⟨rfl, rfl⟩
  go_upto_region 2 with fail
  refine wp_alw ?_
  intro W1 hW1
  have hbo : blk W1 w.heap.size (u64s (List.replicate N 0)) := by rw [hW1]; exact blk.new' _ _ rfl
  have hc1 : Ch [] w W1 := by rw [hW1]; exact (Ch.refl _ _).alloc _
  have hz1 : W1.heap.size = w.heap.size + 1 := by rw [hW1]; simp
  clear hW1 hmk hLen
  have hOf := simof_is (w := W1) (some ⟨w.heap.size, 0, none⟩) N N
  have HOF := Lib.hid hOf; clear hOf
  have HBO := Lib.hid hbo; clear hbo
  have HC1 := Lib.hid hc1; clear hc1
  go_wp2_with fail
  refine HOF.out.mono ?_
  rintro e W2 ⟨rfl, hW2⟩
  have hbx := alw_blk (xs := [.slice (some ⟨w.heap.size, 0, none⟩) N N]) hW2
  have hc2 := HC1.out.trans (alw_ch hW2) (by simp)
  have hbo := HBO.out.ch (alw_ch hW2) (by simp)
  clear hW2 HBO HC1 HOF
  rw [hz1] at hbx
  simp only [hz1]
  clear hz1
  have HBX := Lib.hid hbx; clear hbx
  have HBO := Lib.hid hbo; clear hbo
  have HC2 := Lib.hid hc2; clear hc2
  go_wp2_with fail
  go_loopw [1, 19] (fun u i wr => ∃ (k : Nat) (xk : Option Addr) (ck : Nat), k ≤ N ∧ i = .int .i64 k ∧ u = .slice xk (E k).2.length ck ∧ (E k).2.length ≤ ck ∧ ck ≤ 9223372036854775807 ∧ Sv wr xk (u64s (E k).2) ∧ blk wr w.heap.size (u64s ((E k).1 ++ List.replicate (N - k) 0)) ∧ blk wr (w.heap.size + 1) [.slice (some ⟨w.heap.size, 0, none⟩) N N] ∧ Ch [] w wr ∧ (∀ p, xk = some p → 0 < (E k).2.length → p.block < w.heap.size)) (fun _ i _ => N - (intOf i).toNat)
  case atStart =>
    refine ⟨0, xa, xc, by omega, rfl, by rw [HE0.out], by rw [HE0.out]; exact hcap, hxc, by rw [HE0.out]; exact HS.out.ch HC2.out (by simp), by rw [HE0.out]; exact HBO.out, HBX.out, HC2.out, fun p hp h0 => ?_⟩
    rw [HE0.out] at h0
    obtain ⟨b, o, e, hc⟩ := HS.out.cells 0 _ (List.getElem?_eq_getElem (show 0 < (u64s ins).length by simpa [u64s] using h0))
    rw [hp] at e; cases e
    exact cell_lt hc
  case round =>
    clear HBX HBO HC2
    obtain ⟨k, xk, ck, hk, rfl, rfl, hck, hck2, hsv, hbo, hbx, hc, hlo⟩ := hrel
    by_cases hkn : k < N
    · obtain ⟨x, hx⟩ : ∃ x, G.nodes[k]? = some x := ⟨_, List.getElem?_eq_getElem (by rw [← HN.out]; exact hkn)⟩
      obtain ⟨t1, t2, t3, t4, t5⟩ := HNT.out k x hx
      have hes := HES.out k x hx
      have hel := HEL.out k hk
      have heb := HEB.out k
      have he2 := HE2.out k x hx
      have hsides : x.k = 3 → x.l < 2 * k ∧ x.r < 2 * k := fun e => by have := HWF.out.sides hx e; omega
      have hg := H.out.same hc (by simp)
      have hSd := Sides_g hg (2 * (k : Int)) (by omega)
      rw [t2, t3, t4] at hSd
      generalize hEE : E (k + 1) = EN at hes
      generalize E k = ES at hes hel heb he2 hck hsv hbo hlo ⊢
      obtain ⟨L, I⟩ := ES
      simp only at hel heb he2 hck hsv hbo hlo ⊢
      unfold wvStep at hes
      have HSD := Lib.hid hSd; clear hSd
      have HG := Lib.hid hg; clear hg
      have HSV := Lib.hid hsv; clear hsv
      have HLO := Lib.hid hlo; clear hlo
      have HBO := Lib.hid hbo; clear hbo
      have HBX := Lib.hid hbx; clear hbx
      have HEL' := Lib.hid hel; clear hel
      have HEB' := Lib.hid heb; clear heb
      have HC := Lib.hid hc; clear hc
      by_cases h3 : x.k = 3
      · rw [if_pos h3] at hes
        subst hes
        obtain ⟨hl, hr⟩ := hsides h3
        have h33 : (x.k == 3) = true := by rw [h3]; rfl
        rw [h33] at HSD
        have HEE := Lib.hid hEE; clear hEE
        clear t1 t2 t3 t4 t5 h3 h33 he2 hsides hx
        generalize x.l = a at *
        generalize x.r = b at *
        go_wp2_with fail
        refine HSD.out.mono ?_
        rintro e w3 ⟨rfl, hc3⟩
        have hbo := HBO.out.ch hc3 (by simp)
        have hbx := HBX.out.ch hc3 (by simp)
        have hlen : (L ++ List.replicate (N - k) 0).length = N := by rw [List.length_append, List.length_replicate, HEL'.out]; omega
        have hbd : ∀ v ∈ L ++ List.replicate (N - k) 0, v < 2 ^ 64 := fun v hv => by
          rcases List.mem_append.1 hv with hv | hv
          · exact HEB'.out.1 v hv
          · rw [(List.mem_replicate.1 hv).2]; omega
        have hA := simof1_is (hbx.cell (i := 0) rfl) hbo hlen hbd a (by omega) (by omega)
        have hB := simof1_is (hbx.cell (i := 0) rfl) hbo hlen hbd b (by omega) (by omega)
        rw [wref_ext (by rw [HEL'.out]; exact hl)] at hA
        rw [wref_ext (by rw [HEL'.out]; exact hr)] at hB
        have hwa := wref_lt (N := 64) HEB'.out.1 a
        have hwb := wref_lt (N := 64) HEB'.out.1 b
        rw [u64_pow] at hwa hwb
        have hand := bits_and_u64_nat (wref U64 L a) (wref U64 L b) hwa hwb
        generalize hva : wref U64 L a = va at *
        generalize hvb : wref U64 L b = vb at *
        have f0 := hbo.frozen (i := k)
        obtain ⟨old, c0⟩ : ∃ old, w3.cell? ⟨w.heap.size, k, none⟩ = some old := ⟨_, hbo.cell (List.getElem?_eq_getElem (show k < (u64s (L ++ List.replicate (N - k) 0)).length by rw [u64s_len, hlen]; exact hkn))⟩
        have hlt0 := hbo.lt
        have HA := Lib.hid hA; clear hA
        have HB := Lib.hid hB; clear hB
        have HBO3 := Lib.hid hbo; clear hbo HBO
        have HBX3 := Lib.hid hbx; clear hbx HBX
        have HC3 := Lib.hid (HC.out.trans hc3 (by simp)); clear HC HSD
        have HC13 := Lib.hid hc3; clear hc3
        clear hva hvb hwa hwb hlen hbd
        go_wp2_with fail
        refine HA.out.mono ?_
        rintro e w' ⟨rfl, rfl⟩
        go_wp2_with fail
        refine HB.out.mono ?_
        rintro e w' ⟨rfl, rfl⟩
        go_wp2_with fail
        go_roundw
        case rel =>
          have hcs : Ch [w.heap.size] w3 (w3.setCell ⟨w.heap.size, k, none⟩ (.int .u64 (va &&& vb : Nat))) := (Ch.refl _ _).setCell (.inl (by simp)) _
          have hset := HBO3.out.set (i := k) (.int .u64 (va &&& vb : Nat))
          rw [show k = L.length from HEL'.out.symm, set_mid L (N - L.length) _ (by rw [HEL'.out]; omega), HEL'.out] at hset
          exact ⟨k + 1, xk, ck, by omega, by go_num, by rw [HEE.out], by rw [HEE.out]; exact hck, hck2, by rw [HEE.out]; exact (HSV.out.ch HC13.out (by simp)).ch2 hcs (fun h0 p hp hin => by rw [u64s_len] at h0; have := HLO.out p hp h0; have := List.mem_singleton.1 hin; omega), by rw [HEE.out, show N - (k + 1) = N - k - 1 by omega]; exact hset, HBX3.out.ch hcs (by simp), HC3.out.trans hcs (fun q hq => .inr (by have := List.mem_singleton.1 hq; omega)), fun p hp h0 => HLO.out p hp (by rw [HEE.out] at h0; exact h0)⟩
        case measure => simp [intOf]; omega
      · rw [if_neg h3] at hes
        have h33 : (x.k == 3) = false := by rw [beq_eq_false_iff_ne]; exact h3
        rw [h33] at HSD
        have hKd := fun (W : World) (hW : Ch [] wr W) => Kind_g (HG.out.same hW (by simp)) (2 * (k : Int)) (by omega)
        rw [t1] at hKd
        have HKD := Lib.hid hKd; clear hKd
        by_cases h2 : x.k = 2
        · rw [if_pos h2] at hes
          subst hes
          have hI := he2 h2
          rw [h2] at HKD
          have HEE := Lib.hid hEE; clear hEE
          clear t1 t2 t3 t4 t5 h3 h33 he2 hsides hx h2
          obtain ⟨v0, I', rfl⟩ : ∃ v0 I', I = v0 :: I' := by
            cases I with
            | nil => simp at hI
            | cons a l => exact ⟨a, l, rfl⟩
          obtain ⟨xb, xo, rfl, hcx⟩ := HSV.out.cells 0 (.int .u64 v0) rfl
          have hv0 := HEB'.out.2 v0 (List.mem_cons_self ..)
          have hxlo := HLO.out _ rfl hI
          simp only [List.length_cons] at hck hI
          go_wp2_with fail
          refine HSD.out.mono ?_
          rintro e w3 ⟨rfl, hc3⟩
          have hKd := HKD.out w3 hc3
          have HC13 := Lib.hid hc3; clear hc3 HSD
          have HKD3 := Lib.hid hKd; clear hKd HKD
          go_wp2_with fail
          refine HKD3.out.mono ?_
          rintro e w' ⟨rfl, rfl⟩
          have hbo := HBO.out.ch HC13.out (by simp)
          have hbx := HBX.out.ch HC13.out (by simp)
          have hlen : (L ++ List.replicate (N - k) 0).length = N := by rw [List.length_append, List.length_replicate, HEL'.out]; omega
          have c0 := (HC13.out.cell (cell_lt hcx) (by simp)).trans hcx
          rw [Nat.add_zero] at c0
          have f0 := hbo.frozen (i := k)
          obtain ⟨old, d0⟩ : ∃ old, w3.cell? ⟨w.heap.size, k, none⟩ = some old := ⟨_, hbo.cell (List.getElem?_eq_getElem (show k < (u64s (L ++ List.replicate (N - k) 0)).length by rw [u64s_len, hlen]; exact hkn))⟩
          have hlt0 := hbo.lt
          have HBO3 := Lib.hid hbo; clear hbo HBO
          have HBX3 := Lib.hid hbx; clear hbx HBX
          have HC3 := Lib.hid (HC.out.trans HC13.out (by simp)); clear HC
          clear hlen hcx
          by_cases hc1 : ck = 1
          · subst hc1
            have hI0 : I'.length = 0 := by omega
            obtain rfl : I' = [] := List.eq_nil_of_length_eq_zero hI0
            clear hI0
            go_wp2_with fail
            refine Ord.St.door (fun _ => True) [.fl, .fl, .fl, .fl, .rd, .fl, .fl, .fl, .ef, .fl] [0, 0, 0, 4, 12, 0, 32, 31, 159, 511] [0, 1, 2, 3, 4, 5, 6, 7, 8, 9] mixed (by kernel_rfl) rfl ?_
            refine Ord.St.fl2 (T' := ?_) 0 [1, 2, 3, 4, 5, 6, 7, 8, 9] _ _ rfl (by kernel_rfl) rfl rfl rfl rfl (fun K w' hk => ?_) ?_
            rotate_left
            · go_step; exact hk
            refine Ord.St.fl2 (T' := ?_) 1 [2, 3, 4, 5, 6, 7, 8, 9] _ _ rfl (by kernel_rfl) rfl rfl rfl rfl (fun K w' hk => ?_) ?_
            rotate_left
            · go_step; exact hk
            refine Ord.St.fl2 (T' := ?_) 2 [3, 4, 5, 6, 7, 8, 9] _ _ rfl (by kernel_rfl) rfl rfl rfl rfl (fun K w' hk => ?_) ?_
            rotate_left
            · go_step; exact hk
            refine Ord.St.fl2 (T' := ?_) 3 [4, 5, 6, 7, 8, 9] _ _ rfl (by kernel_rfl) rfl rfl rfl rfl (fun K w' hk => ?_) ?_
            rotate_left
            · go_step; exact hk
            refine Ord.St.rd2 (T' := ?_) 4 [5, 6, 7, 8, 9] _ _ rfl (by kernel_rfl) rfl rfl rfl rfl (fun K hk => ?_) ?_
            rotate_left
            · go_step; exact hk
            refine Ord.St.fl2 (T' := ?_) 5 [6, 7, 8, 9] _ _ rfl (by kernel_rfl) rfl rfl rfl rfl (fun K w' hk => ?_) ?_
            rotate_left
            · go_step; exact hk
            refine Ord.St.fl2 (T' := ?_) 6 [7, 8, 9] _ _ rfl (by kernel_rfl) rfl rfl rfl rfl (fun K w' hk => ?_) ?_
            rotate_left
            · go_step; exact hk
            refine Ord.St.fl2 (T' := ?_) 7 [8, 9] _ _ rfl (by kernel_rfl) rfl rfl rfl rfl (fun K w' hk => ?_) ?_
            rotate_left
            · go_step; exact hk
            refine Ord.St.ef 8 [9] _ rfl (by kernel_rfl) (fun K hK => ?_)
            go_wp2_with fail
            refine ⟨rfl, hK _ _ ?_⟩; clear hK K
            refine Ord.St.fl2 (T' := ?_) 9 [] _ _ rfl (by kernel_rfl) rfl rfl rfl rfl (fun K w' hk => ?_) ?_
            rotate_left
            · go_step; exact hk
            refine Ord.St.nil ?_
            go_wp2_with fail
            go_roundw
            case rel =>
              have hcd : Ch [] w3 w3.drew := (Ch.refl [] w3).drew
              have hcs : Ch [w.heap.size] w3.drew (w3.drew.setCell ⟨w.heap.size, k, none⟩ (.int .u64 v0)) := (Ch.refl _ _).setCell (.inl (by simp)) _
              have hset := (HBO3.out.ch hcd (by simp)).set (i := k) (.int .u64 v0)
              rw [show k = L.length from HEL'.out.symm, set_mid L (N - L.length) _ (by rw [HEL'.out]; omega), HEL'.out] at hset
              have hsv := ((HSV.out.ch HC13.out (by simp)).ch hcd (by simp)).ch2 hcs (fun _ p hp hin => by cases hp; have := List.mem_singleton.1 hin; simp only at hxlo this; omega)
              have hsv2 : Sv (w3.drew.setCell ⟨w.heap.size, k, none⟩ (.int .u64 v0)) (some ⟨xb, xo, none⟩) (u64s []) := ⟨by simp [u64s], by simp [u64s]⟩
              exact ⟨k + 1, some ⟨xb, xo, none⟩, 0, by omega, by go_num, by rw [HEE.out]; rfl, by rw [HEE.out]; show ([] : List Nat).length ≤ 0; simp, by omega, by rw [HEE.out]; exact hsv2, by rw [HEE.out, show N - (k + 1) = N - k - 1 by omega]; exact hset, (HBX3.out.ch hcd (by simp)).ch hcs (by simp), (HC3.out.trans hcd (by simp)).trans hcs (fun q hq => .inr (by have := List.mem_singleton.1 hq; omega)), fun p hp h0 => by rw [HEE.out] at h0; simp at h0⟩
            case measure => simp [intOf]; omega
          · have hck1 : 1 < ck := by omega
            have hcki : (ck : Int) - 1 = ((ck - 1 : Nat) : Int) := by omega
            go_wp2_with fail
            refine Ord.St.door (fun _ => True) [.fl, .fl, .fl, .fl, .rd, .fl, .fl, .fl, .ef, .fl] [0, 0, 0, 4, 12, 0, 32, 31, 159, 511] [0, 1, 2, 3, 4, 5, 6, 7, 8, 9] mixed (by kernel_rfl) rfl ?_
            refine Ord.St.fl2 (T' := ?_) 0 [1, 2, 3, 4, 5, 6, 7, 8, 9] _ _ rfl (by kernel_rfl) rfl rfl rfl rfl (fun K w' hk => ?_) ?_
            rotate_left
            · go_step; exact hk
            refine Ord.St.fl2 (T' := ?_) 1 [2, 3, 4, 5, 6, 7, 8, 9] _ _ rfl (by kernel_rfl) rfl rfl rfl rfl (fun K w' hk => ?_) ?_
            rotate_left
            · go_step; exact hk
            refine Ord.St.fl2 (T' := ?_) 2 [3, 4, 5, 6, 7, 8, 9] _ _ rfl (by kernel_rfl) rfl rfl rfl rfl (fun K w' hk => ?_) ?_
            rotate_left
            · go_step; exact hk
            refine Ord.St.fl2 (T' := ?_) 3 [4, 5, 6, 7, 8, 9] _ _ rfl (by kernel_rfl) rfl rfl rfl rfl (fun K w' hk => ?_) ?_
            rotate_left
            · go_step; exact hk
            refine Ord.St.rd2 (T' := ?_) 4 [5, 6, 7, 8, 9] _ _ rfl (by kernel_rfl) rfl rfl rfl rfl (fun K hk => ?_) ?_
            rotate_left
            · go_step; exact hk
            refine Ord.St.fl2 (T' := ?_) 5 [6, 7, 8, 9] _ _ rfl (by kernel_rfl) rfl rfl rfl rfl (fun K w' hk => ?_) ?_
            rotate_left
            · go_step; exact hk
            refine Ord.St.fl2 (T' := ?_) 6 [7, 8, 9] _ _ rfl (by kernel_rfl) rfl rfl rfl rfl (fun K w' hk => ?_) ?_
            rotate_left
            · go_step; exact hk
            refine Ord.St.fl2 (T' := ?_) 7 [8, 9] _ _ rfl (by kernel_rfl) rfl rfl rfl rfl (fun K w' hk => ?_) ?_
            rotate_left
            · go_step; exact hk
            refine Ord.St.ef 8 [9] _ rfl (by kernel_rfl) (fun K hK => ?_)
            go_wp2_with fail
            refine ⟨rfl, hK _ _ ?_⟩; clear hK K
            refine Ord.St.fl2 (T' := ?_) 9 [] _ _ rfl (by kernel_rfl) rfl rfl rfl rfl (fun K w' hk => ?_) ?_
            rotate_left
            · go_step; exact hk
            refine Ord.St.nil ?_
            go_wp2_with fail
            go_roundw
            case rel =>
              have hcd : Ch [] w3 w3.drew := (Ch.refl [] w3).drew
              have hcs : Ch [w.heap.size] w3.drew (w3.drew.setCell ⟨w.heap.size, k, none⟩ (.int .u64 v0)) := (Ch.refl _ _).setCell (.inl (by simp)) _
              have hset := (HBO3.out.ch hcd (by simp)).set (i := k) (.int .u64 v0)
              rw [show k = L.length from HEL'.out.symm, set_mid L (N - L.length) _ (by rw [HEL'.out]; omega), HEL'.out] at hset
              have hsv := ((HSV.out.ch HC13.out (by simp)).ch hcd (by simp)).ch2 hcs (fun _ p hp hin => by cases hp; have := List.mem_singleton.1 hin; simp only at hxlo this; omega)
              have hsv2 : Sv (w3.drew.setCell ⟨w.heap.size, k, none⟩ (.int .u64 v0)) (some ⟨xb, xo + 1, none⟩) (u64s I') := ⟨fun i x hx => by
                obtain ⟨b9, o9, e9, hc9⟩ := hsv.cells (i + 1) x (by simpa [u64s] using hx)
                cases e9
                exact ⟨_, _, rfl, by rw [show xo + 1 + i = xo + (i + 1) by omega]; exact hc9⟩, by have := hsv.bd; simp [u64s] at this ⊢; omega⟩
              exact ⟨k + 1, some ⟨xb, xo + 1, none⟩, ck - 1, by omega, by go_num, by rw [HEE.out]; rfl, by rw [HEE.out]; show I'.length ≤ _; omega, by omega, by rw [HEE.out]; exact hsv2, by rw [HEE.out, show N - (k + 1) = N - k - 1 by omega]; exact hset, (HBX3.out.ch hcd (by simp)).ch hcs (by simp), (HC3.out.trans hcd (by simp)).trans hcs (fun q hq => .inr (by have := List.mem_singleton.1 hq; omega)), fun p hp h0 => by cases hp; exact hxlo⟩
            case measure => simp [intOf]; omega
        · rw [if_neg h2] at hes
          subst hes
          have h22 : ((x.k : Int) == 2) = false := by rw [beq_eq_false_iff_ne]; omega
          have HEE := Lib.hid hEE; clear hEE
          clear t1 t2 t3 t4 h3 h33 he2 hsides hx h2
          generalize x.k = xkk at *
          go_wp2_with fail
          refine HSD.out.mono ?_
          rintro e w3 ⟨rfl, hc3⟩
          have hKd := HKD.out w3 hc3
          have HC13 := Lib.hid hc3; clear hc3 HSD
          have HKD3 := Lib.hid hKd; clear hKd HKD
          go_wp2_with fail
          refine HKD3.out.mono ?_
          rintro e w' ⟨rfl, rfl⟩
          go_wp2_with fail
          go_roundw
          case rel =>
            have hset := HBO.out.ch HC13.out (by simp)
            rw [show N - k = N - L.length by rw [HEL'.out], set_zero L (N - L.length) (by rw [HEL'.out]; omega), HEL'.out] at hset
            exact ⟨k + 1, xk, ck, by omega, by go_num, by rw [HEE.out], by rw [HEE.out]; exact hck, hck2, by rw [HEE.out]; exact HSV.out.ch HC13.out (by simp), by rw [HEE.out, show N - (k + 1) = N - k - 1 by omega]; exact hset, HBX.out.ch HC13.out (by simp), HC.out.trans HC13.out (by simp), fun p hp h0 => HLO.out p hp (by rw [HEE.out] at h0; exact h0)⟩
          case measure => simp [intOf]; omega
    · have hkN : k = N := by omega
      have hbo2 : blk wr w.heap.size (u64s (E N).1) := by
        have := hbo
        rw [hkN, Nat.sub_self, List.replicate_zero, List.append_nil] at this
        exact this
      have HBO2 := Lib.hid hbo2; clear hbo2 hbo hbx hsv hlo
      have HC := Lib.hid hc; clear hc
      go_wp2_with fail
      go_ret
      exact ⟨rfl, HBO2.out, HC.out⟩
end
end Go.Proofs.Ytkedpifopclipaa
