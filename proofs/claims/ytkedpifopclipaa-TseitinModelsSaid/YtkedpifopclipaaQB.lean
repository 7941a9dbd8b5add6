/-
  Walks over Cut: nodes are taken away. Conditions: the graph is one in memory (GM).
  Walks over make: what is made as a whole. Conditions: the graph is one in memory; what is called makes (MStep).
  Walks over And, Or, Xor, Mux and what they call. Conditions: the graph is one in memory.
  Walks over All and Any. Conditions: the graph is one in memory, the references are in a block that is not its own.
  Walks over Input: an input is made. Conditions: the graph is one in memory.
  Walks over New and Inputs. Conditions: numbers; a graph in memory.
  Walks over Inputs and the library's Clone. Conditions: a graph in memory.
  The cone, plainly: what is marked, and what comes.
  Drawn regions of quiet operations, behind a fence: from the plain walk.
  A scope without a goto, behind a fence.
  A range over a function whose iterator keeps a state of its own in cells of one element type T (a slice that it makes): the contract, and the caller's law. For a body that goes on in every round.
  Walks over the cone's iterator. Conditions: a graph in memory, references of it.
  Walks over what Cone calls. Conditions: a graph in memory.
  Walks over the library's Reverse over ints. Conditions: a block of ints.
  Walks over Cone: refused. Conditions: a graph in memory.
  Walks over Cone. Conditions: a graph in memory, references of it.
  Walks over the library's Equal over numbers. Conditions: two slices that are read.
  What the package's functions do to a graph in memory, each in one form (GIn before, GTo behind). Conditions: a graph in memory.
  A drawn region where two effects may come up now: each of them first.
  Slices that are read, a world under a name, the lesser of two numbers. Conditions: none beyond the hypotheses.
  What references are, for an assignment of the inputs: the meaning of the graph of ands, and that what is made means what its name says. No program in sight. Conditions: none beyond the hypotheses.
  Walks over the reference's graphs: a graph as a value (RG), Not, Right, New, Put. Conditions: a graph that can be read.
-/
import Derived.Test.YtkedpifopclipaaQA
import Derived.Laws.Cover3
import Derived.OrdersIn
import Derived.ControlIn
import Derived.Scope
import Derived.WalkMore
import Derived.RangeFuncFrom
import Derived.RangeFuncNested
import Derived.RangeFuncBound
import Derived.RangeFuncCalls
import Derived.RangeFuncLeaves
import Derived.Shelf.Abstract
import Derived.Shelf.RegionOpen
import Derived.WalkKit
import Derived.OwnWalkIn
import Derived.TacticsInMore
import Derived.LoopNIn
import Derived.LoopIn
import Derived.Laws.ResultCell
namespace Go.Proofs.Ytkedpifopclipaa
open Go.RowKit Go.Mem Go.Aig
theorem dep_bd {ns : List Nd} (h : WF ns) {m : Nat} {x : Nd} (hx : ns[m]? = some x) (hs : ns.length ≤ 65536) : x.k ≤ 3 ∧ x.l ≤ 131072 ∧ x.r ≤ 131072 ∧ x.d ≤ 65536 := by
  have hm := (List.getElem?_eq_some_iff.1 hx).1
  have hd := h.low m x hx
  by_cases h0 : m = 0
  · subst h0
    rw [h.const] at hx; cases hx
    simp
  · rcases h.other m x hx (by omega) with rfl | ⟨h1, h2, h3, h4, h5, h6⟩
    · simp
    · omega
section
variable {w : World} {g : Nat} {G : Gra} {nb ncap : Nat} {iv : Value} {mb : Nat}
theorem row.shape {w : World} {e : TypeId} {size : Nat} {v : Value} {n : Nat} {xs : List Value} (h : row w e size v n xs) : ∃ a c, v = .slice a n c := by
  rcases h.2 with ⟨e1, h0⟩ | ⟨g', cap', cur, e1, _⟩
  · exact ⟨none, 0, by rw [e1, h0]⟩
  · exact ⟨_, _, e1⟩
theorem GM.cap (h : GM w g G nb ncap iv mb) : G.nodes.length ≤ ncap ∧ ncap ≤ 9223372036854775807 := by
  rcases h.nodes.2 with ⟨e, _⟩ | ⟨g', cap', cur, e, _, hg, hle, hm, _⟩
  · cases e
  · cases e; unfold maxLen at hm; exact ⟨hle, by omega⟩

set_option maxRecDepth 100000 in
set_option maxHeartbeats 4000000 in
theorem Cut_lt (n : Nat) (h : GM w g G nb ncap iv mb) (hn : 1 ≤ n) (hle : n ≤ G.nodes.length) (hcn : ¬ ncap = n) :
    Calls Try.prog 181 #[.pointer (some ⟨g, 0, none⟩), .int .i64 n] w fun e w' => e = .returned (.int .i64 0) ∧ ∃ iv', GM w' g { G with nodes := G.nodes.take n } nb ncap iv' mb ∧ iv'.ownBlock = iv.ownBlock ∧ Ch (fp g nb mb iv) w w' := by
  have ⟨c0, c1, c2, c3⟩ := h.c
  have ⟨hl, hln, hlm, hli⟩ := h.lt
  have hm := h.ok.most
  have hr := h.ok.room
  have ⟨hcap, hcap2⟩ := h.cap
  have hd1 : decide ((n : Int) < 1) = false := decide_eq_false (by omega)
  have hd2 : decide ((G.nodes.length : Int) < n) = false := decide_eq_false (by omega)
  have hd3 : decide (G.nodes.length < n) = false := decide_eq_false (by omega)
  have hC0 : Ch [] w ((w.alloc (.cells #[.int .i64 n] 3)).drew) := ((Ch.refl _ _).alloc _).drew
  have HN := none_no (h.ch (F := []) ((Ch.refl _ _).alloc (.cells #[.int .i64 n] 3)) (by simp))
  have H := Lib.hid h; clear h
  have Hli := Lib.hid hli; clear hli
  have HC0 := Lib.hid hC0; clear hC0
  have f1 : w.frozen? ⟨g, 1, none⟩ = false := H.out.st.frozen
  have f3 : w.frozen? ⟨g, 3, none⟩ = false := H.out.st.frozen
  go_enter Try.func181, Try.ntmps181
  go_wp2_with fail
  refine HN.mono ?_
  rintro e w' ⟨rfl, rfl⟩
  go_wp2_with fail
  refine Ord.St.door (fun _ => True) [.rd, .fl, .fl, .rd, .fl, .fl, .fl, .rd, .rd, .fl, .fl, .fl] [0, 1, 3, 7, 7, 23, 55, 119, 247, 511, 1023, 2047] [0, 1, 2, 3, 4, 5, 6, 7, 8, 9, 10, 11] mixed (by kernel_rfl) rfl ?_
  refine Ord.St.rd2 (T' := ?_) 0 [1, 2, 3, 4, 5, 6, 7, 8, 9, 10, 11] _ _ rfl (by kernel_rfl) rfl rfl rfl rfl (fun K hk => ?_) ?_
  rotate_left
  · go_step; exact hk
  refine Ord.St.fl2 (T' := ?_) 1 [2, 3, 4, 5, 6, 7, 8, 9, 10, 11] _ _ rfl (by kernel_rfl) rfl rfl rfl rfl (fun K w' hk => ?_) ?_
  rotate_left
  · go_step; exact hk
  refine Ord.St.fl2 (T' := ?_) 2 [3, 4, 5, 6, 7, 8, 9, 10, 11] _ _ rfl (by kernel_rfl) rfl rfl rfl rfl (fun K w' hk => ?_) ?_
  rotate_left
  · go_step; exact hk
  first | (refine Ord.St.rd2 (T' := ?_) 3 [4, 5, 6, 7, 8, 9, 10, 11] _ _ rfl (by kernel_rfl) ?_ rfl rfl rfl (fun K hk => ?_) ?_; rotate_left; (first | rfl | (simp [Region.wanted, yielded, *]; done)); focus (go_step; exact hk)) | (refine Ord.St.skipr 3 [4, 5, 6, 7, 8, 9, 10, 11] _ rfl (by kernel_rfl) ?_ (fun K hK => ?_); (first | rfl | (simp [Region.wanted, yielded, *]; done)); go_simp; refine hK _ ?_; clear hK K)
  first | (refine Ord.St.fl2 (T' := ?_) 4 [5, 6, 7, 8, 9, 10, 11] _ _ rfl (by kernel_rfl) ?_ rfl rfl rfl (fun K w' hk => ?_) ?_; rotate_left; (first | rfl | (simp [Region.wanted, yielded, *]; done)); focus (go_step; exact hk)) | (refine Ord.St.skip 4 [5, 6, 7, 8, 9, 10, 11] _ rfl (by kernel_rfl) ?_ (fun K hK => ?_); (first | rfl | (simp [Region.wanted, yielded, *]; done)); go_simp; refine hK _ ?_; clear hK K)
  first | (refine Ord.St.fl2 (T' := ?_) 5 [6, 7, 8, 9, 10, 11] _ _ rfl (by kernel_rfl) ?_ rfl rfl rfl (fun K w' hk => ?_) ?_; rotate_left; (first | rfl | (simp [Region.wanted, yielded, *]; done)); focus (go_step; exact hk)) | (refine Ord.St.skip 5 [6, 7, 8, 9, 10, 11] _ rfl (by kernel_rfl) ?_ (fun K hK => ?_); (first | rfl | (simp [Region.wanted, yielded, *]; done)); go_simp; refine hK _ ?_; clear hK K)
  first | (refine Ord.St.fl2 (T' := ?_) 6 [7, 8, 9, 10, 11] _ _ rfl (by kernel_rfl) ?_ rfl rfl rfl (fun K w' hk => ?_) ?_; rotate_left; (first | rfl | (simp [Region.wanted, yielded, *]; done)); focus (go_step; exact hk)) | (refine Ord.St.skip 6 [7, 8, 9, 10, 11] _ rfl (by kernel_rfl) ?_ (fun K hK => ?_); (first | rfl | (simp [Region.wanted, yielded, *]; done)); go_simp; refine hK _ ?_; clear hK K)
  first | (refine Ord.St.rd2 (T' := ?_) 7 [8, 9, 10, 11] _ _ rfl (by kernel_rfl) ?_ rfl rfl rfl (fun K hk => ?_) ?_; rotate_left; (first | rfl | (simp [Region.wanted, yielded, *]; done)); focus (go_step; exact hk)) | (refine Ord.St.skipr 7 [8, 9, 10, 11] _ rfl (by kernel_rfl) ?_ (fun K hK => ?_); (first | rfl | (simp [Region.wanted, yielded, *]; done)); go_simp; refine hK _ ?_; clear hK K)
  first | (refine Ord.St.rd2 (T' := ?_) 8 [9, 10, 11] _ _ rfl (by kernel_rfl) ?_ rfl rfl rfl (fun K hk => ?_) ?_; rotate_left; (first | rfl | (simp [Region.wanted, yielded, *]; done)); focus (go_step; exact hk)) | (refine Ord.St.skipr 8 [9, 10, 11] _ rfl (by kernel_rfl) ?_ (fun K hK => ?_); (first | rfl | (simp [Region.wanted, yielded, *]; done)); go_simp; refine hK _ ?_; clear hK K)
  first | (refine Ord.St.fl2 (T' := ?_) 9 [10, 11] _ _ rfl (by kernel_rfl) ?_ rfl rfl rfl (fun K w' hk => ?_) ?_; rotate_left; (first | rfl | (simp [Region.wanted, yielded, *]; done)); focus (go_step; exact hk)) | (refine Ord.St.skip 9 [10, 11] _ rfl (by kernel_rfl) ?_ (fun K hK => ?_); (first | rfl | (simp [Region.wanted, yielded, *]; done)); go_simp; refine hK _ ?_; clear hK K)
  refine Ord.St.fl2 (T' := ?_) 10 [11] _ _ rfl (by kernel_rfl) rfl rfl rfl rfl (fun K w' hk => ?_) ?_
  rotate_left
  · go_step; exact hk
  refine Ord.St.fl2 (T' := ?_) 11 [] _ _ rfl (by kernel_rfl) rfl rfl rfl rfl (fun K w' hk => ?_) ?_
  rotate_left
  · go_step; exact hk
  refine Ord.St.nil ?_
  go_wp2
  refine Ord.St.door (fun _ => True) [.fl, .fl, .fl, .rd, .rd, .fl, .rd, .fl] [0, 1, 3, 7, 0, 31, 63, 0] [0, 1, 2, 3, 4, 5, 6, 7] mixed (by kernel_rfl) rfl ?_
  refine Ord.St.fl2 (T' := ?_) 0 [1, 2, 3, 4, 5, 6, 7] _ _ rfl (by kernel_rfl) rfl rfl rfl rfl (fun K w' hk => ?_) ?_
  rotate_left
  · go_step; exact hk
  refine Ord.St.fl2 (T' := ?_) 1 [2, 3, 4, 5, 6, 7] _ _ rfl (by kernel_rfl) rfl rfl rfl rfl (fun K w' hk => ?_) ?_
  rotate_left
  · go_step; exact hk
  refine Ord.St.fl2 (T' := ?_) 2 [3, 4, 5, 6, 7] _ _ rfl (by kernel_rfl) rfl rfl rfl rfl (fun K w' hk => ?_) ?_
  rotate_left
  · go_step; exact hk
  refine Ord.St.rd2 (T' := ?_) 3 [4, 5, 6, 7] _ _ rfl (by kernel_rfl) rfl rfl rfl rfl (fun K hk => ?_) ?_
  rotate_left
  · go_step; exact hk
  refine Ord.St.rd2 (T' := ?_) 4 [5, 6, 7] _ _ rfl (by kernel_rfl) rfl rfl rfl rfl (fun K hk => ?_) ?_
  rotate_left
  · go_step; exact hk
  refine Ord.St.fl2 (T' := ?_) 5 [6, 7] _ _ rfl (by kernel_rfl) rfl rfl rfl rfl (fun K w' hk => ?_) ?_
  rotate_left
  · go_step; exact hk
  refine Ord.St.rd2 (T' := ?_) 6 [7] _ _ rfl (by kernel_rfl) rfl rfl rfl rfl (fun K hk => ?_) ?_
  rotate_left
  · go_step; exact hk
  refine Ord.St.fl2 (T' := ?_) 7 [] _ _ rfl (by kernel_rfl) rfl rfl rfl rfl (fun K w' hk => ?_) ?_
  rotate_left
  · go_step; exact hk
  refine Ord.St.nil ?_
  go_wp2
  have hS : ∃ es clock, ((w.alloc (.cells #[.int .i64 n] 3)).drew.drew).heap[mb]? = some (.map es clock) ∧ MapOn es.toList G.nodes (fun m => m < n ∨ n + 0 ≤ m) := by
    obtain ⟨es, clock, hmap, hmo⟩ := H.out.mp
    exact ⟨es, clock, (HC0.out.block mb hlm (by simp)).trans hmap, hmo.on (fun m _ => by omega)⟩
  have b0 : ((w.alloc (.cells #[.int .i64 n] 3)).drew.drew).cell? ⟨w.heap.size, 0, none⟩ = some (.int .i64 n) := by go_simp
  have hCW : Ch [] w ((w.alloc (.cells #[.int .i64 n] 3)).drew.drew) := HC0.out.drew
  have hz0 : ((w.alloc (.cells #[.int .i64 n] 3)).drew.drew).heap.size = w.heap.size + 1 := by simp
  have HS := Lib.hid hS; clear hS
  have B0 := Lib.hid b0; clear b0
  have HCW := Lib.hid hCW; clear hCW
  have HZ := Lib.hid hz0; clear hz0
  generalize (w.alloc (.cells #[.int .i64 n] 3)).drew.drew = W0 at *
  go_loopw [29] (fun i wr => ∃ k : Nat, k ≤ G.nodes.length - n ∧ i = .int .i64 k ∧ Ch [mb] W0 wr ∧ ∃ es clock, wr.heap[mb]? = some (.map es clock) ∧ MapOn es.toList G.nodes (fun m => m < n ∨ n + k ≤ m)) (fun i _ => G.nodes.length - n - (intOf i).toNat)
  case atStart => exact ⟨0, Nat.zero_le _, rfl, Ch.refl _ _, HS.out⟩
  case round =>
    obtain ⟨k, hk, rfl, hc, hmap⟩ := hrel
    have hcw : Ch [mb] w wr := (HCW.out.mono (by simp)).trans hc (by simp)
    have hzr := hc.size
    have hgz := HZ.out
    have HMAP := Lib.hid hmap; clear hmap
    have hgm' : g ∉ [mb] := by simp [H.out.gm]
    have st := H.out.st.ch hcw hgm'
    have d0 : wr.cell? ⟨g, 0, none⟩ = some _ := st.cell rfl
    have d1 : wr.cell? ⟨g, 1, none⟩ = some _ := st.cell rfl
    have d2 : wr.cell? ⟨g, 2, none⟩ = some _ := st.cell rfl
    have d3 : wr.cell? ⟨g, 3, none⟩ = some _ := st.cell rfl
    have e1 : wr.frozen? ⟨g, 1, none⟩ = false := st.frozen
    have e3 : wr.frozen? ⟨g, 3, none⟩ = false := st.frozen
    have hbx : wr.cell? ⟨w.heap.size, 0, none⟩ = some (.int .i64 n) := (hc.cell (by show w.heap.size < _; omega) (by simp; omega)).trans B0.out
    clear c0 c1 c2 c3 f1 f3
    have HST := Lib.hid st; clear st hgm'
    have HC := Lib.hid hc; clear hc
    have HCR := Lib.hid hcw; clear hcw
    have hzz : w.heap.size + 1 ≤ wr.heap.size := by omega
    clear hzr hgz
    by_cases hlt : k < G.nodes.length - n
    · have hlt' : n + k < G.nodes.length := by omega
      have hxg : G.nodes[n + k]? = some G.nodes[n + k] := List.getElem?_eq_getElem hlt'
      generalize G.nodes[n + k] = x at hxg
      have ⟨xk, xl, xr, xd⟩ := dep_bd H.out.ok.1 hxg (by omega)
      have hnbw := HCR.out
      have ⟨n0, n1, n2, n3⟩ := H.out.node hxg
      have hs1 : (n + k) * 4 = n * 4 + k * 4 := by omega
      rw [hs1] at n0 n1 n2 n3
      have hnm : nb ∉ [mb] := by simp [H.out.mn.symm]
      have n0 := (HCR.out.cell (p := ⟨nb, n * 4 + k * 4, none⟩) hln hnm).trans n0
      have n1 := (HCR.out.cell (p := ⟨nb, n * 4 + k * 4 + 1, none⟩) hln hnm).trans n1
      have n2 := (HCR.out.cell (p := ⟨nb, n * 4 + k * 4 + 2, none⟩) hln hnm).trans n2
      have n3 := (HCR.out.cell (p := ⟨nb, n * 4 + k * 4 + 3, none⟩) hln hnm).trans n3
      clear hnbw
      have hdk : decide ((k : Int) < (G.nodes.length - n : Nat)) = true := decide_eq_true (by omega)
      have hgr : g < wr.heap.size := by omega
      have hlmr : mb < wr.heap.size := by have := HC.out.size; have := HZ.out; omega
      have hwa : ∀ (T : TypeId) cs, (wr.alloc (.cells cs T)).heap[mb]? = wr.heap[mb]? := fun T cs => by
        exact ((Ch.refl [] wr).alloc _).block mb hlmr (by simp)
      have hcm : ((n + k : Nat) : Int) = n + k := by omega
      by_cases hx3 : x.k = 3
      · have hb3 : ((x.k : Int) == 3) = true := by rw [hx3]; rfl
        have hmr : ∃ es clock, ((wr.alloc (.cells #[.int .u8 x.k, .int .i64 x.l, .int .i64 x.r, .int .i64 x.d] 181)).drew).heap[mb]? = some (.map es clock) ∧ MapOn es.toList G.nodes (fun m => m < n ∨ n + k ≤ m) := by
          obtain ⟨es, clock, h1, h2⟩ := HMAP.out
          exact ⟨es, clock, (hwa _ _).trans h1, h2⟩
        obtain ⟨w2, hrun, hmap2, hcd⟩ := delete_is hmr H.out.ok.1 (n := n + k) (x := x) (.inr (Nat.le_refl _)) hxg hx3
        have HM2 := Lib.hid hmap2; clear hmap2 hmr
        have HCD := Lib.hid hcd; clear hcd
        clear hwa hlmr
        have HX3 := Lib.hid hx3; clear hx3
        go_wp2_with fail
        refine Ord.St.door (fun _ => True) [.fl, .fl, .fl, .rd, .fl, .rd, .ef] [0, 1, 3, 7, 0, 16, 63] [0, 1, 2, 3, 4, 5, 6] mixed (by kernel_rfl) rfl ?_
        refine Ord.St.fl2 (T' := ?_) 0 [1, 2, 3, 4, 5, 6] _ _ rfl (by kernel_rfl) rfl rfl rfl rfl (fun K w' hk => ?_) ?_
        rotate_left
        · go_step; exact hk
        refine Ord.St.fl2 (T' := ?_) 1 [2, 3, 4, 5, 6] _ _ rfl (by kernel_rfl) rfl rfl rfl rfl (fun K w' hk => ?_) ?_
        rotate_left
        · go_step; exact hk
        refine Ord.St.fl2 (T' := ?_) 2 [3, 4, 5, 6] _ _ rfl (by kernel_rfl) rfl rfl rfl rfl (fun K w' hk => ?_) ?_
        rotate_left
        · go_step; exact hk
        refine Ord.St.rd2 (T' := ?_) 3 [4, 5, 6] _ _ rfl (by kernel_rfl) rfl rfl rfl rfl (fun K hk => ?_) ?_
        rotate_left
        · go_step; exact hk
        refine Ord.St.fl2 (T' := ?_) 4 [5, 6] _ _ rfl (by kernel_rfl) rfl rfl rfl rfl (fun K w' hk => ?_) ?_
        rotate_left
        · go_step; exact hk
        refine Ord.St.rd2 (T' := ?_) 5 [6] _ _ rfl (by kernel_rfl) rfl rfl rfl rfl (fun K hk => ?_) ?_
        rotate_left
        · go_step; exact hk
        refine Ord.St.ef 6 [] _ rfl (by kernel_rfl) (fun K hK => ?_)
        go_wp2_with fail
        refine ⟨rfl, hK _ _ ?_⟩; clear hK K
        refine Ord.St.nil ?_
        go_wp2_with fail
        go_roundw
        case rel =>
          refine ⟨k + 1, by omega, by go_num, ?_, ?_⟩
          · exact ((HC.out.alloc _).drew).trans HCD.out (by simp)
          · obtain ⟨es, clock, h1, h2⟩ := HM2.out
            exact ⟨es, clock, h1, h2.mono (fun m y hm hy _ => by omega) (fun m y hm hy _ => by omega)⟩
        case measure => simp [intOf]; omega
      · have hb3 : ((x.k : Int) == 3) = false := beqN (by omega)
        go_wp2_with fail
        go_roundw
        case rel =>
          refine ⟨k + 1, by omega, by go_num, HC.out.alloc _, ?_⟩
          obtain ⟨es, clock, h1, h2⟩ := HMAP.out
          refine ⟨es, clock, (hwa _ _).trans h1, h2.mono (fun m y hm hy hky => ?_) (fun m y hm hy _ => by omega)⟩
          have : m ≠ n + k := by
            rintro rfl
            rw [hxg] at hy; cases hy
            exact hx3 hky
          omega
        case measure => simp [intOf]; omega
    · go_wp2_with fail
      refine Ord.St.door (fun _ => True) [.fl, .fl, .fl, .fl, .rd, .rd, .fl, .fl, .fl, .ef] [0, 0, 2, 6, 14, 0, 62, 127, 255, 511] [0, 1, 2, 3, 4, 5, 6, 7, 8, 9] mixed (by kernel_rfl) rfl ?_
      refine Ord.St.fl2 (T' := ?_) 0 [1, 2, 3, 4, 5, 6, 7, 8, 9] _ _ rfl (by kernel_rfl) rfl rfl rfl rfl (fun K w' hk => ?_) ?_
      rotate_left
      · go_step; exact hk
      refine Ord.St.fl2 (T' := ?_) 1 [2, 3, 4, 5, 6, 7, 8, 9] _ _ rfl (by kernel_rfl) rfl rfl rfl rfl (fun K w' hk => ?_) ?_
      rotate_left
      · go_step; exact hk
      refine Ord.St.fl2 (T' := ?_) 2 [3, 4, 5, 6, 7, 8, 9] _ _ rfl (by kernel_rfl) rfl rfl rfl rfl (fun K w' hk => ?_) ?_
      rotate_left
      · go_step; exact hk
      refine Ord.St.fl2 (T' := ?_) 3 [4, 5, 6, 7, 8, 9] _ _ rfl (by kernel_rfl) rfl rfl rfl rfl (fun K w' hk => ?_) ?_
      rotate_left
      · go_step; exact hk
      refine Ord.St.rd2 (T' := ?_) 4 [5, 6, 7, 8, 9] _ _ rfl (by kernel_rfl) rfl rfl rfl rfl (fun K hk => ?_) ?_
      rotate_left
      · go_step; exact hk
      refine Ord.St.rd2 (T' := ?_) 5 [6, 7, 8, 9] _ _ rfl (by kernel_rfl) rfl rfl rfl rfl (fun K hk => ?_) ?_
      rotate_left
      · go_step; exact hk
      refine Ord.St.fl2 (T' := ?_) 6 [7, 8, 9] _ _ rfl (by kernel_rfl) rfl rfl rfl rfl (fun K w' hk => ?_) ?_
      rotate_left
      · go_step; exact hk
      refine Ord.St.fl2 (T' := ?_) 7 [8, 9] _ _ rfl (by kernel_rfl) rfl rfl rfl rfl (fun K w' hk => ?_) ?_
      rotate_left
      · go_step; exact hk
      refine Ord.St.fl2 (T' := ?_) 8 [9] _ _ rfl (by kernel_rfl) rfl rfl rfl rfl (fun K w' hk => ?_) ?_
      rotate_left
      · go_step; exact hk
      refine Ord.St.ef 9 [] _ rfl (by kernel_rfl) (fun K hK => ?_)
      go_wp2_with fail
      refine ⟨rfl, hK _ _ ?_⟩; clear hK K
      refine Ord.St.nil ?_
      have hC3 : Ch [g, mb] w ((wr.setCell ⟨g, 1, none⟩ (.slice (some ⟨nb, 0, none⟩) n ncap)).drew) := ((HCR.out.mono (F' := [g, mb]) (by simp)).setCell (by simp) _).drew
      have b3 : ((wr.setCell ⟨g, 1, none⟩ (.slice (some ⟨nb, 0, none⟩) n ncap)).drew).cell? ⟨w.heap.size, 0, none⟩ = some (.int .i64 n) := by go_simp
      have hrow := H.out.ins.ch hC3 (fun kk hkk => by have h1 := H.out.gi; have h2 := H.out.mi; rw [hkk] at h1 h2; simp only [Option.some.injEq, ne_eq] at h1 h2; simp [h1, h2])
      have HDF := DF_inputs hrow b3 hle (by omega)
      have HROW := Lib.hid hrow; clear hrow
      have HC3 := Lib.hid hC3; clear hC3
      clear b3
      have st3 := (HST.out.set (i := 1) (.slice (some ⟨nb, 0, none⟩) n ncap)).drew
      have HST3 := Lib.hid st3; clear st3
      have hz3 : w.heap.size + 1 ≤ ((wr.setCell ⟨g, 1, none⟩ (.slice (some ⟨nb, 0, none⟩) n ncap)).drew).heap.size := by simpa using hzz
      have hmap3 : ∃ es clock, ((wr.setCell ⟨g, 1, none⟩ (.slice (some ⟨nb, 0, none⟩) n ncap)).drew).heap[mb]? = some (.map es clock) ∧ MapOk es.toList (G.nodes.take n) := by
        obtain ⟨es, clock, h1, h2⟩ := HMAP.out
        refine ⟨es, clock, (Below.heap_setCell _ _ _ _ (by simpa using H.out.gm.symm)).trans h1, MapOn.take (h2.mono (fun m x hm hx _ => ?_) (fun m x hm _ _ => .inl hm))⟩
        have := (List.getElem?_eq_some_iff.1 hx).1
        omega
      have HMAP3 := Lib.hid hmap3; clear hmap3
      go_wp2_with fail
      generalize (wr.setCell ⟨g, 1, none⟩ (.slice (some ⟨nb, 0, none⟩) n ncap)).drew = W3 at *
      refine HDF.mono ?_
      rintro e w4 ⟨iv', rfl, hrow4, hc4, hob⟩
      have HROW4 := Lib.hid hrow4; clear hrow4
      have hgiv : g ∉ iv.ownBlock.toList := by have := H.out.gi; simpa [eq_comm] using this
      have st4 := HST3.out.ch hc4 hgiv
      have k3 : w4.cell? ⟨g, 3, none⟩ = some _ := st4.cell rfl
      have k3f : w4.frozen? ⟨g, 3, none⟩ = false := st4.frozen
      have HC4 := Lib.hid hc4; clear hc4
      have HOB := Lib.hid hob; clear hob
      have HST4 := Lib.hid st4; clear st4
      obtain ⟨ia, icap, hiv⟩ := row.shape HROW4.out
      rw [hiv]
      go_wp2_with fail
      go_ret
      rw [← hiv]
      have hcf : Ch (g :: mb :: iv.ownBlock.toList) w (w4.setCell ⟨g, 3, none⟩ iv') := Ch.setCell ((HC3.out.mono (F' := g :: mb :: iv.ownBlock.toList) (by simp)).trans HC4.out (fun kk hkk => .inl (by simp [hkk]))) (by simp) _
      have hni : ∀ kk, iv.ownBlock = some kk → kk ≠ g ∧ kk ≠ nb ∧ kk ≠ mb := fun kk hkk => ⟨by rintro rfl; exact H.out.gi hkk, by rintro rfl; exact H.out.ni hkk, by rintro rfl; exact H.out.mi hkk⟩
      have hnf : nb ∉ g :: mb :: iv.ownBlock.toList := by
        have h1 := H.out.ni
        have h2 := H.out.gn
        have h3 := H.out.mn
        simp [Ne.symm h2, Ne.symm h3]
        exact h1
      have hlt2 : (G.nodes.take n).length = n := by rw [List.length_take]; omega
      have hmbi : mb ∉ iv.ownBlock.toList := by have := H.out.mi; simpa [eq_comm] using this
      refine ⟨ret_int (by rfl), iv', ?_, HOB.out, ?_⟩
      · have hst := HST4.out.set (i := 3) iv'
        refine ⟨?_, ?_, ?_, ?_, H.out.gm, H.out.gn, H.out.mn, by rw [HOB.out]; exact H.out.gi, by rw [HOB.out]; exact H.out.ni, by rw [HOB.out]; exact H.out.mi, H.out.ok.take hn⟩
        · rw [hlt2]; exact hst
        · show row _ _ 4 (.slice (some ⟨nb, 0, none⟩) (G.nodes.take n).length ncap) (G.nodes.take n).length (nodesCells (G.nodes.take n))
          rw [hlt2, nodesCells_take]
          exact (row.take H.out.nodes hle).ch hcf (fun kk hkk => by cases hkk; exact hnf)
        · obtain ⟨es, clock, h1, h2⟩ := HMAP3.out
          exact ⟨es, clock, (Below.heap_setCell _ _ _ _ (by simpa using H.out.gm.symm)).trans ((HC4.out.block mb (Array.getElem?_eq_some_iff.1 h1).1 hmbi).trans h1), h2⟩
        · exact HROW4.out.ch (Ch.setCell (Ch.refl [g] _) (by simp) _) (fun kk hkk => by rw [HOB.out] at hkk; simp [(hni kk hkk).1])
      · exact hcf.mono (fun kk hkk => .inl (by simp [fp] at hkk ⊢; rcases hkk with rfl | rfl | h <;> simp [*]))

set_option maxRecDepth 100000 in
set_option maxHeartbeats 4000000 in
theorem Cut_eq (n : Nat) (h : GM w g G nb n iv mb) (hn : 1 ≤ n) (hle : n ≤ G.nodes.length) :
    Calls Try.prog 181 #[.pointer (some ⟨g, 0, none⟩), .int .i64 n] w fun e w' => e = .returned (.int .i64 0) ∧ ∃ iv', GM w' g { G with nodes := G.nodes.take n } nb n iv' mb ∧ iv'.ownBlock = iv.ownBlock ∧ Ch (fp g nb mb iv) w w' := by
  have ⟨c0, c1, c2, c3⟩ := h.c
  have ⟨hl, hln, hlm, hli⟩ := h.lt
  have hm := h.ok.most
  have hr := h.ok.room
  have ⟨hcap, hcap2⟩ := h.cap
  have hd1 : decide ((n : Int) < 1) = false := decide_eq_false (by omega)
  have hd2 : decide ((G.nodes.length : Int) < n) = false := decide_eq_false (by omega)
  have hd3 : decide (G.nodes.length < n) = false := decide_eq_false (by omega)
  have hC0 : Ch [] w ((w.alloc (.cells #[.int .i64 n] 3)).drew) := ((Ch.refl _ _).alloc _).drew
  have HN := none_no (h.ch (F := []) ((Ch.refl _ _).alloc (.cells #[.int .i64 n] 3)) (by simp))
  have H := Lib.hid h; clear h
  have Hli := Lib.hid hli; clear hli
  have HC0 := Lib.hid hC0; clear hC0
  have f1 : w.frozen? ⟨g, 1, none⟩ = false := H.out.st.frozen
  have f3 : w.frozen? ⟨g, 3, none⟩ = false := H.out.st.frozen
  go_enter Try.func181, Try.ntmps181
  go_wp2_with fail
  refine HN.mono ?_
  rintro e w' ⟨rfl, rfl⟩
  go_wp2_with fail
  refine Ord.St.door (fun _ => True) [.rd, .fl, .fl, .rd, .fl, .fl, .fl, .rd, .rd, .fl, .fl, .fl] [0, 1, 3, 7, 7, 23, 55, 119, 247, 511, 1023, 2047] [0, 1, 2, 3, 4, 5, 6, 7, 8, 9, 10, 11] mixed (by kernel_rfl) rfl ?_
  refine Ord.St.rd2 (T' := ?_) 0 [1, 2, 3, 4, 5, 6, 7, 8, 9, 10, 11] _ _ rfl (by kernel_rfl) rfl rfl rfl rfl (fun K hk => ?_) ?_
  rotate_left
  · go_step; exact hk
  refine Ord.St.fl2 (T' := ?_) 1 [2, 3, 4, 5, 6, 7, 8, 9, 10, 11] _ _ rfl (by kernel_rfl) rfl rfl rfl rfl (fun K w' hk => ?_) ?_
  rotate_left
  · go_step; exact hk
  refine Ord.St.fl2 (T' := ?_) 2 [3, 4, 5, 6, 7, 8, 9, 10, 11] _ _ rfl (by kernel_rfl) rfl rfl rfl rfl (fun K w' hk => ?_) ?_
  rotate_left
  · go_step; exact hk
  first | (refine Ord.St.rd2 (T' := ?_) 3 [4, 5, 6, 7, 8, 9, 10, 11] _ _ rfl (by kernel_rfl) ?_ rfl rfl rfl (fun K hk => ?_) ?_; rotate_left; (first | rfl | (simp [Region.wanted, yielded, *]; done)); focus (go_step; exact hk)) | (refine Ord.St.skipr 3 [4, 5, 6, 7, 8, 9, 10, 11] _ rfl (by kernel_rfl) ?_ (fun K hK => ?_); (first | rfl | (simp [Region.wanted, yielded, *]; done)); go_simp; refine hK _ ?_; clear hK K)
  first | (refine Ord.St.fl2 (T' := ?_) 4 [5, 6, 7, 8, 9, 10, 11] _ _ rfl (by kernel_rfl) ?_ rfl rfl rfl (fun K w' hk => ?_) ?_; rotate_left; (first | rfl | (simp [Region.wanted, yielded, *]; done)); focus (go_step; exact hk)) | (refine Ord.St.skip 4 [5, 6, 7, 8, 9, 10, 11] _ rfl (by kernel_rfl) ?_ (fun K hK => ?_); (first | rfl | (simp [Region.wanted, yielded, *]; done)); go_simp; refine hK _ ?_; clear hK K)
  first | (refine Ord.St.fl2 (T' := ?_) 5 [6, 7, 8, 9, 10, 11] _ _ rfl (by kernel_rfl) ?_ rfl rfl rfl (fun K w' hk => ?_) ?_; rotate_left; (first | rfl | (simp [Region.wanted, yielded, *]; done)); focus (go_step; exact hk)) | (refine Ord.St.skip 5 [6, 7, 8, 9, 10, 11] _ rfl (by kernel_rfl) ?_ (fun K hK => ?_); (first | rfl | (simp [Region.wanted, yielded, *]; done)); go_simp; refine hK _ ?_; clear hK K)
  first | (refine Ord.St.fl2 (T' := ?_) 6 [7, 8, 9, 10, 11] _ _ rfl (by kernel_rfl) ?_ rfl rfl rfl (fun K w' hk => ?_) ?_; rotate_left; (first | rfl | (simp [Region.wanted, yielded, *]; done)); focus (go_step; exact hk)) | (refine Ord.St.skip 6 [7, 8, 9, 10, 11] _ rfl (by kernel_rfl) ?_ (fun K hK => ?_); (first | rfl | (simp [Region.wanted, yielded, *]; done)); go_simp; refine hK _ ?_; clear hK K)
  first | (refine Ord.St.rd2 (T' := ?_) 7 [8, 9, 10, 11] _ _ rfl (by kernel_rfl) ?_ rfl rfl rfl (fun K hk => ?_) ?_; rotate_left; (first | rfl | (simp [Region.wanted, yielded, *]; done)); focus (go_step; exact hk)) | (refine Ord.St.skipr 7 [8, 9, 10, 11] _ rfl (by kernel_rfl) ?_ (fun K hK => ?_); (first | rfl | (simp [Region.wanted, yielded, *]; done)); go_simp; refine hK _ ?_; clear hK K)
  first | (refine Ord.St.rd2 (T' := ?_) 8 [9, 10, 11] _ _ rfl (by kernel_rfl) ?_ rfl rfl rfl (fun K hk => ?_) ?_; rotate_left; (first | rfl | (simp [Region.wanted, yielded, *]; done)); focus (go_step; exact hk)) | (refine Ord.St.skipr 8 [9, 10, 11] _ rfl (by kernel_rfl) ?_ (fun K hK => ?_); (first | rfl | (simp [Region.wanted, yielded, *]; done)); go_simp; refine hK _ ?_; clear hK K)
  first | (refine Ord.St.fl2 (T' := ?_) 9 [10, 11] _ _ rfl (by kernel_rfl) ?_ rfl rfl rfl (fun K w' hk => ?_) ?_; rotate_left; (first | rfl | (simp [Region.wanted, yielded, *]; done)); focus (go_step; exact hk)) | (refine Ord.St.skip 9 [10, 11] _ rfl (by kernel_rfl) ?_ (fun K hK => ?_); (first | rfl | (simp [Region.wanted, yielded, *]; done)); go_simp; refine hK _ ?_; clear hK K)
  refine Ord.St.fl2 (T' := ?_) 10 [11] _ _ rfl (by kernel_rfl) rfl rfl rfl rfl (fun K w' hk => ?_) ?_
  rotate_left
  · go_step; exact hk
  refine Ord.St.fl2 (T' := ?_) 11 [] _ _ rfl (by kernel_rfl) rfl rfl rfl rfl (fun K w' hk => ?_) ?_
  rotate_left
  · go_step; exact hk
  refine Ord.St.nil ?_
  go_wp2
  refine Ord.St.door (fun _ => True) [.fl, .fl, .fl, .rd, .rd, .fl, .rd, .fl] [0, 1, 3, 7, 0, 31, 63, 0] [0, 1, 2, 3, 4, 5, 6, 7] mixed (by kernel_rfl) rfl ?_
  refine Ord.St.fl2 (T' := ?_) 0 [1, 2, 3, 4, 5, 6, 7] _ _ rfl (by kernel_rfl) rfl rfl rfl rfl (fun K w' hk => ?_) ?_
  rotate_left
  · go_step; exact hk
  refine Ord.St.fl2 (T' := ?_) 1 [2, 3, 4, 5, 6, 7] _ _ rfl (by kernel_rfl) rfl rfl rfl rfl (fun K w' hk => ?_) ?_
  rotate_left
  · go_step; exact hk
  refine Ord.St.fl2 (T' := ?_) 2 [3, 4, 5, 6, 7] _ _ rfl (by kernel_rfl) rfl rfl rfl rfl (fun K w' hk => ?_) ?_
  rotate_left
  · go_step; exact hk
  refine Ord.St.rd2 (T' := ?_) 3 [4, 5, 6, 7] _ _ rfl (by kernel_rfl) rfl rfl rfl rfl (fun K hk => ?_) ?_
  rotate_left
  · go_step; exact hk
  refine Ord.St.rd2 (T' := ?_) 4 [5, 6, 7] _ _ rfl (by kernel_rfl) rfl rfl rfl rfl (fun K hk => ?_) ?_
  rotate_left
  · go_step; exact hk
  refine Ord.St.fl2 (T' := ?_) 5 [6, 7] _ _ rfl (by kernel_rfl) rfl rfl rfl rfl (fun K w' hk => ?_) ?_
  rotate_left
  · go_step; exact hk
  refine Ord.St.rd2 (T' := ?_) 6 [7] _ _ rfl (by kernel_rfl) rfl rfl rfl rfl (fun K hk => ?_) ?_
  rotate_left
  · go_step; exact hk
  refine Ord.St.fl2 (T' := ?_) 7 [] _ _ rfl (by kernel_rfl) rfl rfl rfl rfl (fun K w' hk => ?_) ?_
  rotate_left
  · go_step; exact hk
  refine Ord.St.nil ?_
  go_wp2
  have hS : ∃ es clock, ((w.alloc (.cells #[.int .i64 n] 3)).drew.drew).heap[mb]? = some (.map es clock) ∧ MapOn es.toList G.nodes (fun m => m < n ∨ n + 0 ≤ m) := by
    obtain ⟨es, clock, hmap, hmo⟩ := H.out.mp
    exact ⟨es, clock, (HC0.out.block mb hlm (by simp)).trans hmap, hmo.on (fun m _ => by omega)⟩
  have b0 : ((w.alloc (.cells #[.int .i64 n] 3)).drew.drew).cell? ⟨w.heap.size, 0, none⟩ = some (.int .i64 n) := by go_simp
  have hCW : Ch [] w ((w.alloc (.cells #[.int .i64 n] 3)).drew.drew) := HC0.out.drew
  have hz0 : ((w.alloc (.cells #[.int .i64 n] 3)).drew.drew).heap.size = w.heap.size + 1 := by simp
  have HS := Lib.hid hS; clear hS
  have B0 := Lib.hid b0; clear b0
  have HCW := Lib.hid hCW; clear hCW
  have HZ := Lib.hid hz0; clear hz0
  generalize (w.alloc (.cells #[.int .i64 n] 3)).drew.drew = W0 at *
  go_loopw [29] (fun i wr => ∃ k : Nat, k ≤ G.nodes.length - n ∧ i = .int .i64 k ∧ Ch [mb] W0 wr ∧ ∃ es clock, wr.heap[mb]? = some (.map es clock) ∧ MapOn es.toList G.nodes (fun m => m < n ∨ n + k ≤ m)) (fun i _ => G.nodes.length - n - (intOf i).toNat)
  case atStart => exact ⟨0, Nat.zero_le _, rfl, Ch.refl _ _, HS.out⟩
  case round =>
    obtain ⟨k, hk, rfl, hc, hmap⟩ := hrel
    have hcw : Ch [mb] w wr := (HCW.out.mono (by simp)).trans hc (by simp)
    have hzr := hc.size
    have hgz := HZ.out
    have HMAP := Lib.hid hmap; clear hmap
    have hgm' : g ∉ [mb] := by simp [H.out.gm]
    have st := H.out.st.ch hcw hgm'
    have d0 : wr.cell? ⟨g, 0, none⟩ = some _ := st.cell rfl
    have d1 : wr.cell? ⟨g, 1, none⟩ = some _ := st.cell rfl
    have d2 : wr.cell? ⟨g, 2, none⟩ = some _ := st.cell rfl
    have d3 : wr.cell? ⟨g, 3, none⟩ = some _ := st.cell rfl
    have e1 : wr.frozen? ⟨g, 1, none⟩ = false := st.frozen
    have e3 : wr.frozen? ⟨g, 3, none⟩ = false := st.frozen
    have hbx : wr.cell? ⟨w.heap.size, 0, none⟩ = some (.int .i64 n) := (hc.cell (by show w.heap.size < _; omega) (by simp; omega)).trans B0.out
    clear c0 c1 c2 c3 f1 f3
    have HST := Lib.hid st; clear st hgm'
    have HC := Lib.hid hc; clear hc
    have HCR := Lib.hid hcw; clear hcw
    have hzz : w.heap.size + 1 ≤ wr.heap.size := by omega
    clear hzr hgz
    by_cases hlt : k < G.nodes.length - n
    · omega
    · go_wp2_with fail
      refine Ord.St.door (fun _ => True) [.fl, .fl, .fl, .fl, .rd, .rd, .fl, .fl, .fl, .ef] [0, 0, 2, 6, 14, 0, 62, 127, 255, 511] [0, 1, 2, 3, 4, 5, 6, 7, 8, 9] mixed (by kernel_rfl) rfl ?_
      refine Ord.St.fl2 (T' := ?_) 0 [1, 2, 3, 4, 5, 6, 7, 8, 9] _ _ rfl (by kernel_rfl) rfl rfl rfl rfl (fun K w' hk => ?_) ?_
      rotate_left
      · go_step; exact hk
      refine Ord.St.fl2 (T' := ?_) 1 [2, 3, 4, 5, 6, 7, 8, 9] _ _ rfl (by kernel_rfl) rfl rfl rfl rfl (fun K w' hk => ?_) ?_
      rotate_left
      · go_step; exact hk
      refine Ord.St.fl2 (T' := ?_) 2 [3, 4, 5, 6, 7, 8, 9] _ _ rfl (by kernel_rfl) rfl rfl rfl rfl (fun K w' hk => ?_) ?_
      rotate_left
      · go_step; exact hk
      refine Ord.St.fl2 (T' := ?_) 3 [4, 5, 6, 7, 8, 9] _ _ rfl (by kernel_rfl) rfl rfl rfl rfl (fun K w' hk => ?_) ?_
      rotate_left
      · go_step; exact hk
      refine Ord.St.rd2 (T' := ?_) 4 [5, 6, 7, 8, 9] _ _ rfl (by kernel_rfl) rfl rfl rfl rfl (fun K hk => ?_) ?_
      rotate_left
      · go_step; exact hk
      refine Ord.St.rd2 (T' := ?_) 5 [6, 7, 8, 9] _ _ rfl (by kernel_rfl) rfl rfl rfl rfl (fun K hk => ?_) ?_
      rotate_left
      · go_step; exact hk
      refine Ord.St.fl2 (T' := ?_) 6 [7, 8, 9] _ _ rfl (by kernel_rfl) rfl rfl rfl rfl (fun K w' hk => ?_) ?_
      rotate_left
      · go_step; exact hk
      refine Ord.St.fl2 (T' := ?_) 7 [8, 9] _ _ rfl (by kernel_rfl) rfl rfl rfl rfl (fun K w' hk => ?_) ?_
      rotate_left
      · go_step; exact hk
      refine Ord.St.fl2 (T' := ?_) 8 [9] _ _ rfl (by kernel_rfl) rfl rfl rfl rfl (fun K w' hk => ?_) ?_
      rotate_left
      · go_step; exact hk
      refine Ord.St.ef 9 [] _ rfl (by kernel_rfl) (fun K hK => ?_)
      go_wp2_with fail
      refine ⟨rfl, hK _ _ ?_⟩; clear hK K
      refine Ord.St.nil ?_
      have hC3 : Ch [g, mb] w ((wr.setCell ⟨g, 1, none⟩ (.slice (some ⟨nb, 0, none⟩) n n)).drew) := ((HCR.out.mono (F' := [g, mb]) (by simp)).setCell (by simp) _).drew
      have b3 : ((wr.setCell ⟨g, 1, none⟩ (.slice (some ⟨nb, 0, none⟩) n n)).drew).cell? ⟨w.heap.size, 0, none⟩ = some (.int .i64 n) := by go_simp
      have hrow := H.out.ins.ch hC3 (fun kk hkk => by have h1 := H.out.gi; have h2 := H.out.mi; rw [hkk] at h1 h2; simp only [Option.some.injEq, ne_eq] at h1 h2; simp [h1, h2])
      have HDF := DF_inputs hrow b3 hle (by omega)
      have HROW := Lib.hid hrow; clear hrow
      have HC3 := Lib.hid hC3; clear hC3
      clear b3
      have st3 := (HST.out.set (i := 1) (.slice (some ⟨nb, 0, none⟩) n n)).drew
      have HST3 := Lib.hid st3; clear st3
      have hz3 : w.heap.size + 1 ≤ ((wr.setCell ⟨g, 1, none⟩ (.slice (some ⟨nb, 0, none⟩) n n)).drew).heap.size := by simpa using hzz
      have hmap3 : ∃ es clock, ((wr.setCell ⟨g, 1, none⟩ (.slice (some ⟨nb, 0, none⟩) n n)).drew).heap[mb]? = some (.map es clock) ∧ MapOk es.toList (G.nodes.take n) := by
        obtain ⟨es, clock, h1, h2⟩ := HMAP.out
        refine ⟨es, clock, (Below.heap_setCell _ _ _ _ (by simpa using H.out.gm.symm)).trans h1, MapOn.take (h2.mono (fun m x hm hx _ => ?_) (fun m x hm _ _ => .inl hm))⟩
        have := (List.getElem?_eq_some_iff.1 hx).1
        omega
      have HMAP3 := Lib.hid hmap3; clear hmap3
      go_wp2_with fail
      generalize (wr.setCell ⟨g, 1, none⟩ (.slice (some ⟨nb, 0, none⟩) n n)).drew = W3 at *
      refine HDF.mono ?_
      rintro e w4 ⟨iv', rfl, hrow4, hc4, hob⟩
      have HROW4 := Lib.hid hrow4; clear hrow4
      have hgiv : g ∉ iv.ownBlock.toList := by have := H.out.gi; simpa [eq_comm] using this
      have st4 := HST3.out.ch hc4 hgiv
      have k3 : w4.cell? ⟨g, 3, none⟩ = some _ := st4.cell rfl
      have k3f : w4.frozen? ⟨g, 3, none⟩ = false := st4.frozen
      have HC4 := Lib.hid hc4; clear hc4
      have HOB := Lib.hid hob; clear hob
      have HST4 := Lib.hid st4; clear st4
      obtain ⟨ia, icap, hiv⟩ := row.shape HROW4.out
      rw [hiv]
      go_wp2_with fail
      go_ret
      rw [← hiv]
      have hcf : Ch (g :: mb :: iv.ownBlock.toList) w (w4.setCell ⟨g, 3, none⟩ iv') := Ch.setCell ((HC3.out.mono (F' := g :: mb :: iv.ownBlock.toList) (by simp)).trans HC4.out (fun kk hkk => .inl (by simp [hkk]))) (by simp) _
      have hni : ∀ kk, iv.ownBlock = some kk → kk ≠ g ∧ kk ≠ nb ∧ kk ≠ mb := fun kk hkk => ⟨by rintro rfl; exact H.out.gi hkk, by rintro rfl; exact H.out.ni hkk, by rintro rfl; exact H.out.mi hkk⟩
      have hnf : nb ∉ g :: mb :: iv.ownBlock.toList := by
        have h1 := H.out.ni
        have h2 := H.out.gn
        have h3 := H.out.mn
        simp [Ne.symm h2, Ne.symm h3]
        exact h1
      have hlt2 : (G.nodes.take n).length = n := by rw [List.length_take]; omega
      have hmbi : mb ∉ iv.ownBlock.toList := by have := H.out.mi; simpa [eq_comm] using this
      refine ⟨ret_int (by rfl), iv', ?_, HOB.out, ?_⟩
      · have hst := HST4.out.set (i := 3) iv'
        refine ⟨?_, ?_, ?_, ?_, H.out.gm, H.out.gn, H.out.mn, by rw [HOB.out]; exact H.out.gi, by rw [HOB.out]; exact H.out.ni, by rw [HOB.out]; exact H.out.mi, H.out.ok.take hn⟩
        · rw [hlt2]; exact hst
        · show row _ _ 4 (.slice (some ⟨nb, 0, none⟩) (G.nodes.take n).length n) (G.nodes.take n).length (nodesCells (G.nodes.take n))
          rw [hlt2, nodesCells_take]
          exact (row.take H.out.nodes hle).ch hcf (fun kk hkk => by cases hkk; exact hnf)
        · obtain ⟨es, clock, h1, h2⟩ := HMAP3.out
          exact ⟨es, clock, (Below.heap_setCell _ _ _ _ (by simpa using H.out.gm.symm)).trans ((HC4.out.block mb (Array.getElem?_eq_some_iff.1 h1).1 hmbi).trans h1), h2⟩
        · exact HROW4.out.ch (Ch.setCell (Ch.refl [g] _) (by simp) _) (fun kk hkk => by rw [HOB.out] at hkk; simp [(hni kk hkk).1])
      · exact hcf.mono (fun kk hkk => .inl (by simp [fp] at hkk ⊢; rcases hkk with rfl | rfl | h <;> simp [*]))
theorem Cut_is (h : GM w g G nb ncap iv mb) (n : Nat) (hn : 1 ≤ n) (hle : n ≤ G.nodes.length) :
    Calls Try.prog 181 #[.pointer (some ⟨g, 0, none⟩), .int .i64 n] w fun e w' => e = .returned (.int .i64 0) ∧ ∃ iv', GM w' g { G with nodes := G.nodes.take n } nb ncap iv' mb ∧ iv'.ownBlock = iv.ownBlock ∧ Ch (fp g nb mb iv) w w' := by
  by_cases hc : ncap = n
  · subst hc; exact Cut_eq ncap h hn hle
  · exact Cut_lt n h hn hle hc
end
end Go.Proofs.Ytkedpifopclipaa
namespace Go.Proofs.Ytkedpifopclipaa
open Go.RowKit Go.Mem Go.Aig

/-- a graph in memory, and the blocks that are its own -/
def GIn (w : World) (g : Nat) (G : Gra) (F : List Nat) : Prop := ∃ nb ncap iv mb, GM w g G nb ncap iv mb ∧ F = fp g nb mb iv
/-- what a function leaves of a graph -/
def GTo (w : World) (g : Nat) (G : Gra) (F : List Nat) (w' : World) : Prop := ∃ F', GIn w' g G F' ∧ Ch F w w' ∧ (∀ k ∈ F', k ∈ F ∨ w.heap.size ≤ k) ∧ F'[2]? = F[2]?
theorem GIn.ok {w : World} {g : Nat} {G : Gra} {F : List Nat} (h : GIn w g G F) : Ok G := by obtain ⟨_, _, _, _, h, _⟩ := h; exact h.ok
theorem GIn.same {w w' : World} {g : Nat} {G : Gra} {F F' : List Nat} (h : GIn w g G F) (hc : Ch F' w w') (hF : ∀ k ∈ F, k ∉ F') : GIn w' g G F := by
  obtain ⟨nb, ncap, iv, mb, h, rfl⟩ := h
  exact ⟨nb, ncap, iv, mb, h.ch hc hF, rfl⟩
theorem GIn.lt {w : World} {g : Nat} {G : Gra} {F : List Nat} (h : GIn w g G F) : ∀ k ∈ F, k < w.heap.size := by
  obtain ⟨nb, ncap, iv, mb, h, rfl⟩ := h
  obtain ⟨h1, h2, h3, h4⟩ := h.lt
  intro k hk
  simp only [fp, List.mem_cons, Option.mem_toList] at hk
  rcases hk with rfl | rfl | rfl | hk
  · exact h1
  · exact h2
  · exact h3
  · exact h4 k hk
theorem GTo.same {w w' : World} {g : Nat} {G : Gra} {F : List Nat} (h : GIn w g G F) (hc : Ch [] w w') : GTo w g G F w' :=
  ⟨F, h.same hc (by simp), hc.mono (by simp), fun _ hk => .inl hk, rfl⟩
theorem GTo.of {w w' : World} {g : Nat} {G : Gra} {nb nb' ncap' : Nat} {iv iv' : Value} {mb : Nat} (h : GM w' g G nb' ncap' iv' mb) (hc : Ch (fp g nb mb iv) w w') (hn : nb' = nb ∨ w.heap.size ≤ nb') (hi : ∀ k, iv'.ownBlock = some k → iv.ownBlock = some k ∨ w.heap.size ≤ k) : GTo w g G (fp g nb mb iv) w' := by
  refine ⟨_, ⟨_, _, _, _, h, rfl⟩, hc, fun k hk => ?_, rfl⟩
  simp only [fp, List.mem_cons, Option.mem_toList] at hk ⊢
  rcases hk with rfl | rfl | rfl | hk
  · simp
  · rcases hn with e | e
    · simp [e]
    · exact .inr e
  · simp
  · rcases hi k hk with e | e
    · simp [e]
    · exact .inr e

theorem fnvMake1 : Fnv 196 := fnv_of Try.func196 (by simp [Try.f196]) (by simp [Try.f196])
section
variable {w : World} {g : Nat} {G : Gra} {nb ncap : Nat} {iv : Value} {mb : Nat}
set_option maxRecDepth 100000 in
set_option maxHeartbeats 1000000 in
theorem make1_is (h : GM w g G nb ncap iv mb) {bx : Nat} (hb : w.cell? ⟨bx, 0, none⟩ = some (.pointer (some ⟨g, 0, none⟩))) (r : Int) (hr : r ≤ 9223372036854775807) :
    Calls Try.prog 196 (#[.int .i64 r] ++ #[.pointer (some ⟨bx, 0, none⟩)]) w fun e w' => e = .returned (.bool (!right G.nodes r)) ∧ w = w' := by
  show Calls Try.prog 196 #[.int .i64 r, .pointer (some ⟨bx, 0, none⟩)] w _
  have HR := Right_is h r hr
  clear h
  generalize right G.nodes r = q at *
  go_enter Try.func196, Try.ntmps196
  go_wp2_with fail
  refine HR.mono ?_
  rintro e w' ⟨rfl, rfl⟩
  go_wp2_with fail
  go_ret
  exact ⟨ret_bool rfl, rfl⟩

set_option maxRecDepth 100000 in
set_option maxHeartbeats 2000000 in
theorem make_is (h : GM w g G nb ncap iv mb) {a : Option Addr} {l : List Int} (cap : Nat) (hl : Sl w a l) (hlb : ∀ x ∈ l, x ≤ 9223372036854775807) (halt : ∀ p, a = some p → p.block < w.heap.size) (fid : Nat) (caps : Array Value) (hfn : Fnv fid) (f : Mk → Mk × Nat)
    (hf : (∀ x ∈ l, right G.nodes x = true) → ∀ W m, w.heap.size ≤ m → Ch [] w W → MS W g m (G, 0) nb ncap iv mb → Calls Try.prog fid (#[.pointer (some ⟨m, 0, none⟩)] ++ caps) W fun e w' => e = .returned (.int .i64 (f (G, 0)).2) ∧ ∃ nb' ncap', MStep W g m (f (G, 0)).1 nb iv mb nb' ncap' w')
    (hext : (∀ x ∈ l, right G.nodes x = true) → MOk (f (G, 0)).1 ∧ Ext G (f (G, 0)).1.1) :
    Calls Try.prog 140 #[.pointer (some ⟨g, 0, none⟩), .func (.func fid) #[] caps, .slice a l.length cap] w fun e w' => e = .returned (.tuple #[.int .i64 (whole G l f).2.1, .int .i64 (whole G l f).2.2]) ∧ GTo w g (whole G l f).1 (fp g nb mb iv) w' := by
  have hl0 := h.lt
  have hg := h.lt.1
  have hp : ∀ x, right G.nodes x = !(!right G.nodes x) := fun x => by simp
  have hW1 : Ch [] w (w.alloc (.cells #[.pointer (some ⟨g, 0, none⟩)] 27)) := (Ch.refl _ _).alloc _
  have H1 := h.ch hW1 (by simp)
  have b1 : (w.alloc (.cells #[.pointer (some ⟨g, 0, none⟩)] 27)).cell? ⟨w.heap.size, 0, none⟩ = some (.pointer (some ⟨g, 0, none⟩)) := by go_simp
  have HN := none_no H1
  have hl1 : Sl (w.alloc (.cells #[.pointer (some ⟨g, 0, none⟩)] 27)) a l := ⟨fun i x hx => by
    obtain ⟨b, o, hao, hc⟩ := hl.cells i x hx
    exact ⟨b, o, hao, (hW1.cell (p := ⟨b, o + i, none⟩) (halt ⟨b, o, none⟩ hao) (by simp)).trans hc⟩, hl.bd⟩
  have HC := CFref_is cap 196 #[.pointer (some ⟨w.heap.size, 0, none⟩)] (fun x => !right G.nodes x) hl1 (fun x hx => make1_is H1 b1 x (hlb x hx)) fnvMake1
  have H := Lib.hid h; clear h
  have HH1 := Lib.hid H1; clear H1
  clear hl1 b1 hl
  unfold whole
  cases hany : l.any fun x => !right G.nodes x
  · have hright : ∀ x ∈ l, right G.nodes x = true := by simpa using hany
    rw [hany] at HC
    rw [if_neg (by simp)]
    have HF := hf hright
    obtain ⟨ho, hx⟩ := hext hright
    have hoe := ho.err
    have HO := Lib.hid ho; clear ho
    have HX := Lib.hid hx; clear hx
    have HR := Lib.hid hright; clear hright
    clear hf hext
    have hgs := H.out.ok.room
    have hgm := H.out.ok.most
    have hgp := H.out.ok.wf.pos
    have h1m : G.nodes.length ≤ 65536 := by omega
    clear hgs hgm
    have cG := H.out.c
    obtain ⟨c0, c1, c2, c3⟩ := cG
    generalize hR : f (G, 0) = R at *
    clear hR
    dsimp only
    generalize hWW : (if R.1.2 ≠ 0 then (G, 0, R.1.2) else (R.1.1, R.2, 0) : Res) = WW
    have HWW := Lib.hid hWW; clear hWW
    have hms : MS ((w.alloc (.cells #[.pointer (some ⟨g, 0, none⟩)] 27)).alloc (.cells #[.pointer (some ⟨g, 0, none⟩), .int .i64 0] 266)) g (w.heap.size + 1) (G, 0) nb ncap iv mb := by
      have hc : Ch [] w ((w.alloc (.cells #[.pointer (some ⟨g, 0, none⟩)] 27)).alloc (.cells #[.pointer (some ⟨g, 0, none⟩), .int .i64 0] 266)) := hW1.alloc _
      refine ⟨H.out.ch hc (by simp), blk.new' _ _ (by simp), ?_, ⟨H.out.ok, .inl rfl⟩⟩
      intro hm
      have := GIn.lt ⟨nb, ncap, iv, mb, H.out, rfl⟩ _ hm
      omega
    have HM := Lib.hid hms; clear hms
    have HW2 := Lib.hid (hW1.alloc (.cells #[.pointer (some ⟨g, 0, none⟩), .int .i64 0] 266)); clear hW1
    have hcf : ∀ args w, (callFunc fid args).run Try.prog w = .ok (.enter fid args) w := hfn
    have HF2 := HF _ (w.heap.size + 1) (by omega) HW2.out HM.out
    clear HF
    go_enter Try.func140, Try.ntmps140
    go_wp2_with fail
    refine HN.mono ?_
    rintro e w' ⟨rfl, rfl⟩
    go_wp2_with fail
    refine HC.mono ?_
    rintro e w' ⟨rfl, rfl⟩
    go_wp2_with fail
    refine HF2.mono ?_
    rintro e w3 ⟨rfl, nb', ncap', hs⟩
    have hgm3 := hs.ms.gm
    have hz3 := hs.ch.size
    simp at hz3
    have hfre : nb' = nb ∨ w.heap.size ≤ nb' := by
      rcases hs.fresh with e | e
      · exact .inl e
      · simp at e; omega
    have m1 : w3.cell? ⟨w.heap.size + 1, 1, none⟩ = some (.int .i64 R.1.2) := hs.ms.bk.cell rfl
    have hmn : w.heap.size + 1 < w3.heap.size := hs.ms.bk.lt
    have hb0 : w3.cell? ⟨w.heap.size, 0, none⟩ = some (.pointer (some ⟨g, 0, none⟩)) := by
      rw [hs.ch.cell (by simp; omega) (by
        have := GIn.lt ⟨nb, ncap, iv, mb, H.out, rfl⟩
        have h1 := this nb (by simp [fp]); have h2 := this mb (by simp [fp])
        simp; omega)]
      go_simp
    have hchw : Ch (fp g nb mb iv) w w3 := (HW2.out.mono (by simp)).trans hs.ch (fun k hk => by
      simp only [List.mem_cons, List.not_mem_nil, or_false] at hk
      rcases hk with rfl | rfl | rfl | rfl
      · simp [fp]
      · simp [fp]
      · simp [fp]
      · right; omega)
    have HS := Lib.hid hs; clear hs
    have HG3 := Lib.hid hgm3; clear hgm3
    have HCW := Lib.hid hchw; clear hchw
    rcases hoe with he | he
    · rw [he] at m1
      have HE := Lib.hid he; clear he
      go_wp2_with fail
      go_ret2
      have hw := HWW.out
      rw [if_neg (by rw [HE.out]; simp)] at hw
      subst hw
      exact ⟨rfl, GTo.of HG3.out HCW.out hfre (fun k hk => .inl hk)⟩
    · rw [he] at m1
      have HE := Lib.hid he; clear he
      have hcut := Cut_is HG3.out G.nodes.length hgp HX.out.len
      have HCUT := Lib.hid hcut; clear hcut
      go_wp2_with fail
      refine HCUT.out.mono ?_
      rintro e w4 ⟨rfl, iv', hgm4, hob, hch⟩
      have hm4 : w4.cell? ⟨w.heap.size + 1, 1, none⟩ = some (.int .i64 201) := (hch.cell (p := ⟨w.heap.size + 1, 1, none⟩) hmn HS.out.ms.apart).trans m1
      clear m1
      have HG4 := Lib.hid hgm4; clear hgm4
      have HC4 := Lib.hid hch; clear hch
      have HOB := Lib.hid hob; clear hob
      go_wp2_with fail
      refine Ord.St.door (fun _ => True) [.fl, .fl, .fl, .rd, .fl, .fl] [0, 1, 3, 7, 0, 31] [0, 1, 2, 3, 4, 5] mixed (by kernel_rfl) rfl ?_
      refine Ord.St.fl2 (T' := ?_) 0 [1, 2, 3, 4, 5] _ _ rfl (by kernel_rfl) rfl rfl rfl rfl (fun K w' hk => ?_) ?_
      rotate_left
      · go_step; exact hk
      refine Ord.St.fl2 (T' := ?_) 1 [2, 3, 4, 5] _ _ rfl (by kernel_rfl) rfl rfl rfl rfl (fun K w' hk => ?_) ?_
      rotate_left
      · go_step; exact hk
      refine Ord.St.fl2 (T' := ?_) 2 [3, 4, 5] _ _ rfl (by kernel_rfl) rfl rfl rfl rfl (fun K w' hk => ?_) ?_
      rotate_left
      · go_step; exact hk
      refine Ord.St.rd2 (T' := ?_) 3 [4, 5] _ _ rfl (by kernel_rfl) rfl rfl rfl rfl (fun K hk => ?_) ?_
      rotate_left
      · go_step; exact hk
      refine Ord.St.fl2 (T' := ?_) 4 [5] _ _ rfl (by kernel_rfl) rfl rfl rfl rfl (fun K w' hk => ?_) ?_
      rotate_left
      · go_step; exact hk
      refine Ord.St.fl2 (T' := ?_) 5 [] _ _ rfl (by kernel_rfl) rfl rfl rfl rfl (fun K w' hk => ?_) ?_
      rotate_left
      · go_step; exact hk
      refine Ord.St.nil ?_
      go_wp2_with fail
      go_ret2
      have ht : ({ R.1.1 with nodes := R.1.1.nodes.take G.nodes.length } : Gra) = G := by
        obtain ⟨e1, more, e2⟩ := HX.out
        show ({ most := R.1.1.most, nodes := R.1.1.nodes.take G.nodes.length } : Gra) = G
        rw [e1, e2, List.take_left]
      have hg4 := HG4.out
      rw [ht] at hg4
      have hw := HWW.out
      rw [if_pos (by rw [HE.out]; simp), HE.out] at hw
      subst hw
      refine ⟨rfl, ?_⟩
      refine GTo.of (hg4.ch (F := []) ((Ch.refl _ _).drew) (by simp)) (HCW.out.trans HC4.out.drew ?_) hfre (fun k hk => .inl (by rw [HOB.out] at hk; exact hk))
      intro k hk
      simp only [fp, List.mem_cons, Option.mem_toList] at hk ⊢
      rcases hk with rfl | rfl | rfl | hk
      · simp
      · rcases hfre with e | e
        · simp [e]
        · exact .inr e
      · simp
      · simp [hk]
  · rw [hany] at HC
    rw [if_pos rfl]
    go_enter Try.func140, Try.ntmps140
    go_wp2_with fail
    refine HN.mono ?_
    rintro e w' ⟨rfl, rfl⟩
    go_wp2_with fail
    refine HC.mono ?_
    rintro e w' ⟨rfl, rfl⟩
    go_wp2_with fail
    go_ret2
    exact ⟨rfl, GTo.same ⟨_, _, _, _, H.out, rfl⟩ hW1⟩
end
end Go.Proofs.Ytkedpifopclipaa
namespace Go.Proofs.Ytkedpifopclipaa
open Go.RowKit Go.Mem Go.Aig

theorem right_nat {ns : List Nd} {x : Int} (h : right ns x = true) : ∃ r : Nat, x = r ∧ r < 2 * ns.length := by
  unfold right at h
  have := of_decide_eq_true h
  exact ⟨x.toNat, by omega, by omega⟩
def doAnd (G : Gra) (a b : Int) : Res := whole G [a, b] fun s => mand s a.toNat b.toNat
def doOr (G : Gra) (a b : Int) : Res := whole G [a, b] fun s => mor s a.toNat b.toNat
def doXor (G : Gra) (a b : Int) : Res := whole G [a, b] fun s => mmux s a.toNat (neg b.toNat) b.toNat
def doMux (G : Gra) (c a b : Int) : Res := whole G [c, a, b] fun s => mmux s c.toNat a.toNat b.toNat
def doAll (G : Gra) (l : List Int) : Res := whole G l fun s => mall s 1 (l.map Int.toNat)
def doAny (G : Gra) (l : List Int) : Res := whole G l fun s => many s (l.map Int.toNat)
theorem fnvAnd1 : Fnv 141 := fnv_of Try.func141 (by simp [Try.f141]) (by simp [Try.f141])
theorem fnvOr1 : Fnv 143 := fnv_of Try.func143 (by simp [Try.f143]) (by simp [Try.f143])
theorem fnvXor1 : Fnv 212 := fnv_of Try.func212 (by simp [Try.f212]) (by simp [Try.f212])
theorem fnvMux1 : Fnv 210 := fnv_of Try.func210 (by simp [Try.f210]) (by simp [Try.f210])
theorem fnvAny1 : Fnv 195 := fnv_of Try.func195 (by simp [Try.f195]) (by simp [Try.f195])
section
variable {w : World} {g : Nat} {nb ncap : Nat} {iv : Value} {mb : Nat}
theorem MS.ch {w' : World} {m : Nat} {s : Mk} (h : MS w g m s nb ncap iv mb) (hc : Ch [] w w') : MS w' g m s nb ncap iv mb :=
  ⟨h.gm.ch hc (by simp), h.bk.ch hc (by simp), h.apart, h.ok⟩
theorem MStep.of {w0 w' : World} {m : Nat} {s : Mk} {nb' ncap' : Nat} (h : MStep w g m s nb iv mb nb' ncap' w') (hc : Ch [] w0 w) : MStep w0 g m s nb iv mb nb' ncap' w' :=
  ⟨h.ms, h.fresh.imp id (fun e => by have := hc.size; omega), (hc.mono (by simp)).trans h.ch (fun k hk => .inl hk)⟩

set_option maxRecDepth 100000 in
set_option maxHeartbeats 1000000 in
theorem And1_is {m : Nat} {s : Mk} (h : MS w g m s nb ncap iv mb) {a b : Nat} (ha : a < 2 * s.1.nodes.length) (hb : b < 2 * s.1.nodes.length) {x y : Nat} (bx : w.cell? ⟨x, 0, none⟩ = some (.int .i64 a)) (by' : w.cell? ⟨y, 0, none⟩ = some (.int .i64 b)) :
    Calls Try.prog 141 (#[.pointer (some ⟨m, 0, none⟩)] ++ #[.pointer (some ⟨x, 0, none⟩), .pointer (some ⟨y, 0, none⟩)]) w fun e w' => e = .returned (.int .i64 (mand s a b).2) ∧ ∃ nb' ncap', MStep w g m (mand s a b).1 nb iv mb nb' ncap' w' := by
  show Calls Try.prog 141 #[.pointer (some ⟨m, 0, none⟩), .pointer (some ⟨x, 0, none⟩), .pointer (some ⟨y, 0, none⟩)] w _
  have HA := mand_is h ha hb
  clear h ha hb
  generalize mand s a b = R at *
  go_enter Try.func141, Try.ntmps141
  go_wp2_with fail
  refine HA.mono ?_
  rintro e w' ⟨rfl, nb', ncap', hs⟩
  go_wp2_with fail
  go_ret
  exact ⟨rfl, nb', ncap', hs⟩

set_option maxRecDepth 100000 in
set_option maxHeartbeats 1000000 in
theorem Or1_is {m : Nat} {s : Mk} (h : MS w g m s nb ncap iv mb) {a b : Nat} (ha : a < 2 * s.1.nodes.length) (hb : b < 2 * s.1.nodes.length) {x y : Nat} (bx : w.cell? ⟨x, 0, none⟩ = some (.int .i64 a)) (by' : w.cell? ⟨y, 0, none⟩ = some (.int .i64 b)) :
    Calls Try.prog 143 (#[.pointer (some ⟨m, 0, none⟩)] ++ #[.pointer (some ⟨x, 0, none⟩), .pointer (some ⟨y, 0, none⟩)]) w fun e w' => e = .returned (.int .i64 (mor s a b).2) ∧ ∃ nb' ncap', MStep w g m (mor s a b).1 nb iv mb nb' ncap' w' := by
  show Calls Try.prog 143 #[.pointer (some ⟨m, 0, none⟩), .pointer (some ⟨x, 0, none⟩), .pointer (some ⟨y, 0, none⟩)] w _
  have HA := mor_is h ha hb
  clear h ha hb
  generalize mor s a b = R at *
  go_enter Try.func143, Try.ntmps143
  go_wp2_with fail
  refine HA.mono ?_
  rintro e w' ⟨rfl, nb', ncap', hs⟩
  go_wp2_with fail
  go_ret
  exact ⟨rfl, nb', ncap', hs⟩

set_option maxRecDepth 100000 in
set_option maxHeartbeats 1000000 in
theorem Mux1_is {m : Nat} {s : Mk} (h : MS w g m s nb ncap iv mb) {c a b : Nat} (hc : c < 2 * s.1.nodes.length) (ha : a < 2 * s.1.nodes.length) (hb : b < 2 * s.1.nodes.length) {z x y : Nat} (bz : w.cell? ⟨z, 0, none⟩ = some (.int .i64 c)) (bx : w.cell? ⟨x, 0, none⟩ = some (.int .i64 a)) (by' : w.cell? ⟨y, 0, none⟩ = some (.int .i64 b)) :
    Calls Try.prog 210 (#[.pointer (some ⟨m, 0, none⟩)] ++ #[.pointer (some ⟨z, 0, none⟩), .pointer (some ⟨x, 0, none⟩), .pointer (some ⟨y, 0, none⟩)]) w fun e w' => e = .returned (.int .i64 (mmux s c a b).2) ∧ ∃ nb' ncap', MStep w g m (mmux s c a b).1 nb iv mb nb' ncap' w' := by
  show Calls Try.prog 210 #[.pointer (some ⟨m, 0, none⟩), .pointer (some ⟨z, 0, none⟩), .pointer (some ⟨x, 0, none⟩), .pointer (some ⟨y, 0, none⟩)] w _
  have HA := mmux_is h hc ha hb
  clear h ha hb
  generalize mmux s c a b = R at *
  go_enter Try.func210, Try.ntmps210
  go_wp2_with fail
  refine HA.mono ?_
  rintro e w' ⟨rfl, nb', ncap', hs⟩
  go_wp2_with fail
  go_ret
  exact ⟨rfl, nb', ncap', hs⟩

set_option maxRecDepth 100000 in
set_option maxHeartbeats 1000000 in
theorem Xor1_is {m : Nat} {s : Mk} (h : MS w g m s nb ncap iv mb) {a b : Nat} (ha : a < 2 * s.1.nodes.length) (hb : b < 2 * s.1.nodes.length) {x y : Nat} (bx : w.cell? ⟨x, 0, none⟩ = some (.int .i64 a)) (by' : w.cell? ⟨y, 0, none⟩ = some (.int .i64 b)) :
    Calls Try.prog 212 (#[.pointer (some ⟨m, 0, none⟩)] ++ #[.pointer (some ⟨x, 0, none⟩), .pointer (some ⟨y, 0, none⟩)]) w fun e w' => e = .returned (.int .i64 (mmux s a (neg b) b).2) ∧ ∃ nb' ncap', MStep w g m (mmux s a (neg b) b).1 nb iv mb nb' ncap' w' := by
  show Calls Try.prog 212 #[.pointer (some ⟨m, 0, none⟩), .pointer (some ⟨x, 0, none⟩), .pointer (some ⟨y, 0, none⟩)] w _
  have bb := h.bd hb
  have HA : ∀ W, Ch [] w W → Calls Try.prog 211 #[.pointer (some ⟨m, 0, none⟩), .int .i64 a, .int .i64 (neg b : Nat), .int .i64 b] W fun e w' => e = .returned (.int .i64 (mmux s a (neg b) b).2) ∧ ∃ nb' ncap', MStep W g m (mmux s a (neg b) b).1 nb iv mb nb' ncap' w' := fun W hW => mmux_is (h.ch hW) ha (neg_lt hb) hb
  have HD := HA w.drew ((Ch.refl _ _).drew)
  clear h ha hb HA
  generalize mmux s a (neg b) b = R at *
  go_enter Try.func212, Try.ntmps212
  go_wp2_with fail
  refine Ord.St.door (fun _ => True) [.fl, .rd, .rd, .rd, .rd, .ef, .fl] [0, 0, 0, 4, 0, 31, 63] [0, 1, 2, 3, 4, 5, 6] mixed (by kernel_rfl) rfl ?_
  refine Ord.St.fl2 (T' := ?_) 0 [1, 2, 3, 4, 5, 6] _ _ rfl (by kernel_rfl) rfl rfl rfl rfl (fun K w' hk => ?_) ?_
  rotate_left
  · go_step; exact hk
  refine Ord.St.rd2 (T' := ?_) 1 [2, 3, 4, 5, 6] _ _ rfl (by kernel_rfl) rfl rfl rfl rfl (fun K hk => ?_) ?_
  rotate_left
  · go_step; exact hk
  refine Ord.St.rd2 (T' := ?_) 2 [3, 4, 5, 6] _ _ rfl (by kernel_rfl) rfl rfl rfl rfl (fun K hk => ?_) ?_
  rotate_left
  · go_step; exact hk
  refine Ord.St.rd2 (T' := ?_) 3 [4, 5, 6] _ _ rfl (by kernel_rfl) rfl rfl rfl rfl (fun K hk => ?_) ?_
  rotate_left
  · go_step; refine (Not_any _ _ (by omega)).mono ?_; rintro e w1 ⟨rfl, rfl⟩; exact hk
  refine Ord.St.rd2 (T' := ?_) 4 [5, 6] _ _ rfl (by kernel_rfl) rfl rfl rfl rfl (fun K hk => ?_) ?_
  rotate_left
  · go_step; exact hk
  refine Ord.St.ef 5 [6] _ rfl (by kernel_rfl) (fun K hK => ?_)
  go_wp2_with fail
  refine HD.mono ?_
  rintro e w' ⟨rfl, nb', ncap', hs⟩
  have HS := Lib.hid hs; clear hs
  go_wp2_with fail
  refine ⟨rfl, hK _ _ ?_⟩; clear hK K
  refine Ord.St.fl2 (T' := ?_) 6 [] _ _ rfl (by kernel_rfl) rfl rfl rfl rfl (fun K w' hk => ?_) ?_
  rotate_left
  · go_step; exact hk
  refine Ord.St.nil ?_
  go_wp2_with fail
  go_ret
  exact ⟨rfl, nb', ncap', HS.out.of ((Ch.refl _ _).drew)⟩
theorem GTo.back {w0 w w' : World} {g : Nat} {G : Gra} {F : List Nat} (h : GTo w g G F w') (hc : Ch [] w0 w) : GTo w0 g G F w' := by
  obtain ⟨F', h1, h2, h3, h4⟩ := h
  have := hc.size
  exact ⟨F', h1, (hc.mono (by simp)).trans h2 (fun k hk => .inl hk), fun k hk => (h3 k hk).imp id (fun e => by omega), h4⟩

set_option maxRecDepth 100000 in
set_option maxHeartbeats 2000000 in
theorem And_is {G : Gra} (h : GM w g G nb ncap iv mb) (a b : Int) (ba : a ≤ 9223372036854775807) (bb : b ≤ 9223372036854775807) :
    Calls Try.prog 69 #[.pointer (some ⟨g, 0, none⟩), .int .i64 a, .int .i64 b] w fun e w' => e = .returned (.tuple #[.int .i64 (doAnd G a b).2.1, .int .i64 (doAnd G a b).2.2]) ∧ GTo w g (doAnd G a b).1 (fp g nb mb iv) w' := by
  have hl0 := h.lt
  have hW : Ch [] w (((w.alloc (.cells #[.int .i64 a] 45)).alloc (.cells #[.int .i64 b] 45)).alloc (.cells #[.int .i64 a, .int .i64 b] 45)) := (((Ch.refl _ _).alloc _).alloc _).alloc _
  have hS : Sl (((w.alloc (.cells #[.int .i64 a] 45)).alloc (.cells #[.int .i64 b] 45)).alloc (.cells #[.int .i64 a, .int .i64 b] 45)) (some ⟨w.heap.size + 2, 0, none⟩) [a, b] := ⟨fun i x hx => by
    refine ⟨_, _, rfl, ?_⟩
    have hb := blk.new' (w := (w.alloc (.cells #[.int .i64 a] 45)).alloc (.cells #[.int .i64 b] 45)) (b := w.heap.size + 2) [.int .i64 a, .int .i64 b] 45 (by simp)
    refine hb.cell ?_
    match i, hx with
    | 0, hx => simpa using hx
    | 1, hx => simpa using hx, by simp⟩
  have b0 : (((w.alloc (.cells #[.int .i64 a] 45)).alloc (.cells #[.int .i64 b] 45)).alloc (.cells #[.int .i64 a, .int .i64 b] 45)).cell? ⟨w.heap.size, 0, none⟩ = some (.int .i64 a) := by go_simp
  have b1 : (((w.alloc (.cells #[.int .i64 a] 45)).alloc (.cells #[.int .i64 b] 45)).alloc (.cells #[.int .i64 a, .int .i64 b] 45)).cell? ⟨w.heap.size + 1, 0, none⟩ = some (.int .i64 b) := by go_simp
  have hz : (((w.alloc (.cells #[.int .i64 a] 45)).alloc (.cells #[.int .i64 b] 45)).alloc (.cells #[.int .i64 a, .int .i64 b] 45)).heap.size = w.heap.size + 3 := by simp
  have HM := make_is (h.ch hW (by simp)) (a := some ⟨w.heap.size + 2, 0, none⟩) (l := [a, b]) 2 hS (by simp [ba, bb]) (fun p hp => by cases hp; simp <;> omega) 141 #[.pointer (some ⟨w.heap.size, 0, none⟩), .pointer (some ⟨w.heap.size + 1, 0, none⟩)] fnvAnd1 (fun s => mand s a.toNat b.toNat) (fun hr W m hm hc hms => by
    obtain ⟨x, rfl, hx⟩ := right_nat (hr a (by simp))
    obtain ⟨y, rfl, hy⟩ := right_nat (hr b (by simp))
    exact And1_is hms hx hy ((hc.cell (by simp <;> omega) (by simp)).trans b0) ((hc.cell (by simp <;> omega) (by simp)).trans b1)) (fun hr => by
    obtain ⟨x, rfl, hx⟩ := right_nat (hr a (by simp))
    obtain ⟨y, rfl, hy⟩ := right_nat (hr b (by simp))
    have := mand_ok (s := (G, 0)) ⟨h.ok, .inl rfl⟩ hx hy
    exact ⟨this.1, this.2.1⟩)
  unfold doAnd
  clear hS b0 b1 hz
  generalize whole G [a, b] _ = R at *
  have H := Lib.hid h; clear h
  go_enter Try.func69, Try.ntmps69
  go_wp2_with fail
  refine HM.mono ?_
  rintro e w' ⟨rfl, hs⟩
  have HS := Lib.hid hs; clear hs
  go_wp2_with fail
  go_ret2
  exact ⟨rfl, HS.out.back hW⟩

set_option maxRecDepth 100000 in
set_option maxHeartbeats 2000000 in
theorem Or_is {G : Gra} (h : GM w g G nb ncap iv mb) (a b : Int) (ba : a ≤ 9223372036854775807) (bb : b ≤ 9223372036854775807) :
    Calls Try.prog 70 #[.pointer (some ⟨g, 0, none⟩), .int .i64 a, .int .i64 b] w fun e w' => e = .returned (.tuple #[.int .i64 (doOr G a b).2.1, .int .i64 (doOr G a b).2.2]) ∧ GTo w g (doOr G a b).1 (fp g nb mb iv) w' := by
  have hl0 := h.lt
  have hW : Ch [] w (((w.alloc (.cells #[.int .i64 a] 45)).alloc (.cells #[.int .i64 b] 45)).alloc (.cells #[.int .i64 a, .int .i64 b] 45)) := (((Ch.refl _ _).alloc _).alloc _).alloc _
  have hS : Sl (((w.alloc (.cells #[.int .i64 a] 45)).alloc (.cells #[.int .i64 b] 45)).alloc (.cells #[.int .i64 a, .int .i64 b] 45)) (some ⟨w.heap.size + 2, 0, none⟩) [a, b] := ⟨fun i x hx => by
    refine ⟨_, _, rfl, ?_⟩
    have hb := blk.new' (w := (w.alloc (.cells #[.int .i64 a] 45)).alloc (.cells #[.int .i64 b] 45)) (b := w.heap.size + 2) [.int .i64 a, .int .i64 b] 45 (by simp)
    refine hb.cell ?_
    match i, hx with
    | 0, hx => simpa using hx
    | 1, hx => simpa using hx, by simp⟩
  have b0 : (((w.alloc (.cells #[.int .i64 a] 45)).alloc (.cells #[.int .i64 b] 45)).alloc (.cells #[.int .i64 a, .int .i64 b] 45)).cell? ⟨w.heap.size, 0, none⟩ = some (.int .i64 a) := by go_simp
  have b1 : (((w.alloc (.cells #[.int .i64 a] 45)).alloc (.cells #[.int .i64 b] 45)).alloc (.cells #[.int .i64 a, .int .i64 b] 45)).cell? ⟨w.heap.size + 1, 0, none⟩ = some (.int .i64 b) := by go_simp
  have hz : (((w.alloc (.cells #[.int .i64 a] 45)).alloc (.cells #[.int .i64 b] 45)).alloc (.cells #[.int .i64 a, .int .i64 b] 45)).heap.size = w.heap.size + 3 := by simp
  have HM := make_is (h.ch hW (by simp)) (a := some ⟨w.heap.size + 2, 0, none⟩) (l := [a, b]) 2 hS (by simp [ba, bb]) (fun p hp => by cases hp; simp <;> omega) 143 #[.pointer (some ⟨w.heap.size, 0, none⟩), .pointer (some ⟨w.heap.size + 1, 0, none⟩)] fnvOr1 (fun s => mor s a.toNat b.toNat) (fun hr W m hm hc hms => by
    obtain ⟨x, rfl, hx⟩ := right_nat (hr a (by simp))
    obtain ⟨y, rfl, hy⟩ := right_nat (hr b (by simp))
    exact Or1_is hms hx hy ((hc.cell (by simp <;> omega) (by simp)).trans b0) ((hc.cell (by simp <;> omega) (by simp)).trans b1)) (fun hr => by
    obtain ⟨x, rfl, hx⟩ := right_nat (hr a (by simp))
    obtain ⟨y, rfl, hy⟩ := right_nat (hr b (by simp))
    have := mor_ok (s := (G, 0)) ⟨h.ok, .inl rfl⟩ hx hy
    exact ⟨this.1, this.2.1⟩)
  unfold doOr
  clear hS b0 b1 hz
  generalize whole G [a, b] _ = R at *
  have H := Lib.hid h; clear h
  go_enter Try.func70, Try.ntmps70
  go_wp2_with fail
  refine HM.mono ?_
  rintro e w' ⟨rfl, hs⟩
  have HS := Lib.hid hs; clear hs
  go_wp2_with fail
  go_ret2
  exact ⟨rfl, HS.out.back hW⟩

set_option maxRecDepth 100000 in
set_option maxHeartbeats 2000000 in
theorem Xor_is {G : Gra} (h : GM w g G nb ncap iv mb) (a b : Int) (ba : a ≤ 9223372036854775807) (bb : b ≤ 9223372036854775807) :
    Calls Try.prog 194 #[.pointer (some ⟨g, 0, none⟩), .int .i64 a, .int .i64 b] w fun e w' => e = .returned (.tuple #[.int .i64 (doXor G a b).2.1, .int .i64 (doXor G a b).2.2]) ∧ GTo w g (doXor G a b).1 (fp g nb mb iv) w' := by
  have hl0 := h.lt
  have hW : Ch [] w (((w.alloc (.cells #[.int .i64 a] 45)).alloc (.cells #[.int .i64 b] 45)).alloc (.cells #[.int .i64 a, .int .i64 b] 45)) := (((Ch.refl _ _).alloc _).alloc _).alloc _
  have hS : Sl (((w.alloc (.cells #[.int .i64 a] 45)).alloc (.cells #[.int .i64 b] 45)).alloc (.cells #[.int .i64 a, .int .i64 b] 45)) (some ⟨w.heap.size + 2, 0, none⟩) [a, b] := ⟨fun i x hx => by
    refine ⟨_, _, rfl, ?_⟩
    have hb := blk.new' (w := (w.alloc (.cells #[.int .i64 a] 45)).alloc (.cells #[.int .i64 b] 45)) (b := w.heap.size + 2) [.int .i64 a, .int .i64 b] 45 (by simp)
    refine hb.cell ?_
    match i, hx with
    | 0, hx => simpa using hx
    | 1, hx => simpa using hx, by simp⟩
  have b0 : (((w.alloc (.cells #[.int .i64 a] 45)).alloc (.cells #[.int .i64 b] 45)).alloc (.cells #[.int .i64 a, .int .i64 b] 45)).cell? ⟨w.heap.size, 0, none⟩ = some (.int .i64 a) := by go_simp
  have b1 : (((w.alloc (.cells #[.int .i64 a] 45)).alloc (.cells #[.int .i64 b] 45)).alloc (.cells #[.int .i64 a, .int .i64 b] 45)).cell? ⟨w.heap.size + 1, 0, none⟩ = some (.int .i64 b) := by go_simp
  have hz : (((w.alloc (.cells #[.int .i64 a] 45)).alloc (.cells #[.int .i64 b] 45)).alloc (.cells #[.int .i64 a, .int .i64 b] 45)).heap.size = w.heap.size + 3 := by simp
  have HM := make_is (h.ch hW (by simp)) (a := some ⟨w.heap.size + 2, 0, none⟩) (l := [a, b]) 2 hS (by simp [ba, bb]) (fun p hp => by cases hp; simp <;> omega) 212 #[.pointer (some ⟨w.heap.size, 0, none⟩), .pointer (some ⟨w.heap.size + 1, 0, none⟩)] fnvXor1 (fun s => mmux s a.toNat (neg b.toNat) b.toNat) (fun hr W m hm hc hms => by
    obtain ⟨x, rfl, hx⟩ := right_nat (hr a (by simp))
    obtain ⟨y, rfl, hy⟩ := right_nat (hr b (by simp))
    exact Xor1_is hms hx hy ((hc.cell (by simp <;> omega) (by simp)).trans b0) ((hc.cell (by simp <;> omega) (by simp)).trans b1)) (fun hr => by
    obtain ⟨x, rfl, hx⟩ := right_nat (hr a (by simp))
    obtain ⟨y, rfl, hy⟩ := right_nat (hr b (by simp))
    have := mmux_ok (s := (G, 0)) ⟨h.ok, .inl rfl⟩ hx (neg_lt hy) hy
    exact ⟨this.1, this.2.1⟩)
  unfold doXor
  clear hS b0 b1 hz
  generalize whole G [a, b] _ = R at *
  have H := Lib.hid h; clear h
  go_enter Try.func194, Try.ntmps194
  go_wp2_with fail
  refine HM.mono ?_
  rintro e w' ⟨rfl, hs⟩
  have HS := Lib.hid hs; clear hs
  go_wp2_with fail
  go_ret2
  exact ⟨rfl, HS.out.back hW⟩

set_option maxRecDepth 100000 in
set_option maxHeartbeats 2000000 in
theorem Mux_is {G : Gra} (h : GM w g G nb ncap iv mb) (c a b : Int) (bc : c ≤ 9223372036854775807) (ba : a ≤ 9223372036854775807) (bb : b ≤ 9223372036854775807) :
    Calls Try.prog 189 #[.pointer (some ⟨g, 0, none⟩), .int .i64 c, .int .i64 a, .int .i64 b] w fun e w' => e = .returned (.tuple #[.int .i64 (doMux G c a b).2.1, .int .i64 (doMux G c a b).2.2]) ∧ GTo w g (doMux G c a b).1 (fp g nb mb iv) w' := by
  have hl0 := h.lt
  have hW : Ch [] w ((((w.alloc (.cells #[.int .i64 c] 45)).alloc (.cells #[.int .i64 a] 45)).alloc (.cells #[.int .i64 b] 45)).alloc (.cells #[.int .i64 c, .int .i64 a, .int .i64 b] 45)) := ((((Ch.refl _ _).alloc _).alloc _).alloc _).alloc _
  have hS : Sl ((((w.alloc (.cells #[.int .i64 c] 45)).alloc (.cells #[.int .i64 a] 45)).alloc (.cells #[.int .i64 b] 45)).alloc (.cells #[.int .i64 c, .int .i64 a, .int .i64 b] 45)) (some ⟨w.heap.size + 3, 0, none⟩) [c, a, b] := ⟨fun i x hx => by
    refine ⟨_, _, rfl, ?_⟩
    have hb := blk.new' (w := ((w.alloc (.cells #[.int .i64 c] 45)).alloc (.cells #[.int .i64 a] 45)).alloc (.cells #[.int .i64 b] 45)) (b := w.heap.size + 3) [.int .i64 c, .int .i64 a, .int .i64 b] 45 (by simp)
    refine hb.cell ?_
    match i, hx with
    | 0, hx => simpa using hx
    | 1, hx => simpa using hx
    | 2, hx => simpa using hx, by simp⟩
  have b0 : ((((w.alloc (.cells #[.int .i64 c] 45)).alloc (.cells #[.int .i64 a] 45)).alloc (.cells #[.int .i64 b] 45)).alloc (.cells #[.int .i64 c, .int .i64 a, .int .i64 b] 45)).cell? ⟨w.heap.size + 1, 0, none⟩ = some (.int .i64 a) := by go_simp
  have bz : ((((w.alloc (.cells #[.int .i64 c] 45)).alloc (.cells #[.int .i64 a] 45)).alloc (.cells #[.int .i64 b] 45)).alloc (.cells #[.int .i64 c, .int .i64 a, .int .i64 b] 45)).cell? ⟨w.heap.size, 0, none⟩ = some (.int .i64 c) := by go_simp
  have b1 : ((((w.alloc (.cells #[.int .i64 c] 45)).alloc (.cells #[.int .i64 a] 45)).alloc (.cells #[.int .i64 b] 45)).alloc (.cells #[.int .i64 c, .int .i64 a, .int .i64 b] 45)).cell? ⟨w.heap.size + 2, 0, none⟩ = some (.int .i64 b) := by go_simp
  have hz : ((((w.alloc (.cells #[.int .i64 c] 45)).alloc (.cells #[.int .i64 a] 45)).alloc (.cells #[.int .i64 b] 45)).alloc (.cells #[.int .i64 c, .int .i64 a, .int .i64 b] 45)).heap.size = w.heap.size + 4 := by simp
  have HM := make_is (h.ch hW (by simp)) (a := some ⟨w.heap.size + 3, 0, none⟩) (l := [c, a, b]) 3 hS (by simp [bc, ba, bb]) (fun p hp => by cases hp; simp <;> omega) 210 #[.pointer (some ⟨w.heap.size, 0, none⟩), .pointer (some ⟨w.heap.size + 1, 0, none⟩), .pointer (some ⟨w.heap.size + 2, 0, none⟩)] fnvMux1 (fun s => mmux s c.toNat a.toNat b.toNat) (fun hr W m hm hc hms => by
    obtain ⟨v, rfl, hv⟩ := right_nat (hr c (by simp))
    obtain ⟨x, rfl, hx⟩ := right_nat (hr a (by simp))
    obtain ⟨y, rfl, hy⟩ := right_nat (hr b (by simp))
    exact Mux1_is hms hv hx hy ((hc.cell (by simp <;> omega) (by simp)).trans bz) ((hc.cell (by simp <;> omega) (by simp)).trans b0) ((hc.cell (by simp <;> omega) (by simp)).trans b1)) (fun hr => by
    obtain ⟨v, rfl, hv⟩ := right_nat (hr c (by simp))
    obtain ⟨x, rfl, hx⟩ := right_nat (hr a (by simp))
    obtain ⟨y, rfl, hy⟩ := right_nat (hr b (by simp))
    have := mmux_ok (s := (G, 0)) ⟨h.ok, .inl rfl⟩ hv hx hy
    exact ⟨this.1, this.2.1⟩)
  unfold doMux
  clear hS b0 b1 bz hz
  generalize whole G [c, a, b] _ = R at *
  have H := Lib.hid h; clear h
  go_enter Try.func189, Try.ntmps189
  go_wp2_with fail
  refine HM.mono ?_
  rintro e w' ⟨rfl, hs⟩
  have HS := Lib.hid hs; clear hs
  go_wp2_with fail
  go_ret2
  exact ⟨rfl, HS.out.back hW⟩
end
end Go.Proofs.Ytkedpifopclipaa
namespace Go.Proofs.Ytkedpifopclipaa
open Go.RowKit Go.Mem Go.Aig

theorem mall_snoc (s : Mk) (out : Nat) (l : List Nat) (r : Nat) : mall s out (l ++ [r]) = mand (mall s out l).1 (mall s out l).2 r := by
  induction l generalizing s out with
  | nil => rfl
  | cons x l ih => exact ih _ _
theorem take_succ_map {α β : Type} (f : α → β) {l : List α} {k : Nat} {x : α} (h : l[k]? = some x) : (l.map f).take (k + 1) = (l.map f).take k ++ [f x] := by
  rw [List.take_add_one]; simp [h]
section
variable {w : World} {g : Nat} {nb ncap : Nat} {iv : Value} {mb : Nat}
theorem MStep.refl {m : Nat} {s : Mk} (h : MS w g m s nb ncap iv mb) : MStep w g m s nb iv mb nb ncap w := ⟨h, .inl rfl, Ch.refl _ _⟩

set_option maxRecDepth 100000 in
set_option maxHeartbeats 1000000 in
theorem Any1_is {m : Nat} {s : Mk} (h : MS w g m s nb ncap iv mb) {a : Option Addr} {l : List Nat} (cap : Nat) (hS : Sl w a (l.map fun (r : Nat) => (r : Int))) (hap : ∀ p, a = some p → p.block < w.heap.size ∧ p.block ∉ [g, nb, mb, m]) (hr : ∀ r ∈ l, r < 2 * s.1.nodes.length) {x : Nat} (bx : w.cell? ⟨x, 0, none⟩ = some (.slice a l.length cap)) :
    Calls Try.prog 195 (#[.pointer (some ⟨m, 0, none⟩)] ++ #[.pointer (some ⟨x, 0, none⟩)]) w fun e w' => e = .returned (.int .i64 (neg (mall s 1 (l.map neg)).2 : Nat)) ∧ ∃ nb' ncap', MStep w g m (mall s 1 (l.map neg)).1 nb iv mb nb' ncap' w' := by
  show Calls Try.prog 195 #[.pointer (some ⟨m, 0, none⟩), .pointer (some ⟨x, 0, none⟩)] w _
  have hbd := hS.bd
  rw [List.length_map] at hbd
  have hsz : s.1.nodes.length ≤ 65536 := by have := h.ok.ok.room; have := h.ok.ok.most; omega
  have hpos := h.ok.ok.wf.pos
  have H := Lib.hid h; clear h
  have HS := Lib.hid hS; clear hS
  have HR := Lib.hid hr; clear hr
  have HA := Lib.hid hap; clear hap
  generalize hRF : mall s 1 (l.map neg) = RF
  have HRF := Lib.hid hRF; clear hRF
  go_enter Try.func195, Try.ntmps195
  go_wp2_with fail
  go_loopw [4, 9] (fun o i wr => ∃ k : Nat, k ≤ l.length ∧ i = .int .i64 k ∧ o = .int .i64 (mall s 1 ((l.map neg).take k)).2 ∧ ∃ nb' ncap', MStep w g m (mall s 1 ((l.map neg).take k)).1 nb iv mb nb' ncap' wr) (fun _ i _ => l.length - (intOf i).toNat)
  case atStart => exact ⟨0, Nat.zero_le _, rfl, rfl, nb, ncap, MStep.refl H.out⟩
  case round =>
    obtain ⟨k, hk, rfl, rfl, nb', ncap', hs⟩ := hrel
    have hq : ∀ r ∈ (l.map neg).take k, r < 2 * s.1.nodes.length := fun r hr => by
      obtain ⟨y, hy, rfl⟩ := List.mem_map.1 (List.mem_of_mem_take hr)
      exact neg_lt (HR.out y hy)
    obtain ⟨ho, hx, hlo⟩ := mall_ok _ H.out.ok (show 1 < 2 * s.1.nodes.length by omega) hq
    have hlo' : (mall s 1 ((l.map neg).take k)).2 ≤ 1000000 := by have := ho.ok.room; have := ho.ok.most; omega
    by_cases hlt : k < l.length
    · have hxk : l[k]? = some l[k] := List.getElem?_eq_getElem hlt
      have hm : l[k] ∈ l := List.getElem_mem hlt
      have hkr := HR.out _ hm
      generalize l[k] = y at *
      have hnext : mall s 1 ((l.map neg).take (k + 1)) = mand (mall s 1 ((l.map neg).take k)).1 (mall s 1 ((l.map neg).take k)).2 (neg y) := by
        rw [take_succ_map _ hxk, mall_snoc]
      have HNX := Lib.hid hnext; clear hnext
      obtain ⟨b, o, rfl, hc⟩ := HS.out.cells k (y : Int) (by simp [hxk])
      obtain ⟨hab, han⟩ := HA.out _ rfl
      have c1 := (hs.ch.cell (p := ⟨b, o + k, none⟩) hab han).trans hc
      have HM := mand_is hs.ms (a := (mall s 1 ((l.map neg).take k)).2) (b := neg y) hlo (hx.lt (neg_lt hkr))
      have HS1 := Lib.hid hs; clear hs
      have HO := Lib.hid ho; clear ho
      clear hc han hab hx hlo
      generalize mall s 1 ((l.map neg).take k) = R at *
      generalize hMR : mand R.1 R.2 (neg y) = R2 at *
      clear hMR
      go_wp2_with fail
      refine (Not_any _ _ (by omega)).mono ?_
      rintro e w' ⟨rfl, rfl⟩
      go_wp2_with fail
      refine HM.mono ?_
      rintro e w' ⟨rfl, nb2, ncap2, hs2⟩
      have HS2 := Lib.hid hs2; clear hs2
      go_wp2_with fail
      go_roundw
      case rel =>
        refine ⟨k + 1, by omega, by go_num, by rw [HNX.out], nb2, ncap2, ?_⟩
        rw [HNX.out]
        exact HS1.out.trans HS2.out
      case measure => simp [intOf]; omega
    · have hkl : (l.map neg).take k = l.map neg := List.take_of_length_le (by simp; omega)
      rw [hkl, HRF.out] at hs hlo'
      rw [hkl, HRF.out]
      have HS1 := Lib.hid hs; clear hs
      clear ho hx hlo hq hkl
      go_wp2_with fail
      refine (Not_any _ _ (by omega)).mono ?_
      rintro e w' ⟨rfl, rfl⟩
      go_wp2_with fail
      go_ret
      exact ⟨rfl, nb', ncap', HS1.out⟩

set_option maxRecDepth 100000 in
set_option maxHeartbeats 2000000 in
theorem Any_is {G : Gra} (h : GM w g G nb ncap iv mb) {a : Option Addr} {l : List Int} (cap : Nat) (hS : Sl w a l) (hb : ∀ x ∈ l, x ≤ 9223372036854775807) (hap : ∀ p, a = some p → p.block < w.heap.size ∧ p.block ∉ fp g nb mb iv) :
    Calls Try.prog 139 #[.pointer (some ⟨g, 0, none⟩), .slice a l.length cap] w fun e w' => e = .returned (.tuple #[.int .i64 (doAny G l).2.1, .int .i64 (doAny G l).2.2]) ∧ GTo w g (doAny G l).1 (fp g nb mb iv) w' := by
  have hl0 := h.lt
  have hW : Ch [] w (w.alloc (.cells #[.slice a l.length cap] 28)) := (Ch.refl _ _).alloc _
  have hcar : ∀ {W : World}, Ch [] w W → Sl W a l := fun {W} hc => ⟨fun i x hx => by
    obtain ⟨b, o, rfl, h1⟩ := hS.cells i x hx
    exact ⟨b, o, rfl, (hc.cell (p := ⟨b, o + i, none⟩) (hap _ rfl).1 (by simp)).trans h1⟩, hS.bd⟩
  have b0 : (w.alloc (.cells #[.slice a l.length cap] 28)).cell? ⟨w.heap.size, 0, none⟩ = some (.slice a l.length cap) := by go_simp
  have hnat : (∀ x ∈ l, right G.nodes x = true) → l = (l.map Int.toNat).map (fun (r : Nat) => (r : Int)) ∧ ∀ r ∈ l.map Int.toNat, r < 2 * G.nodes.length := fun hr => by
    refine ⟨?_, fun r hm => ?_⟩
    · rw [List.map_map]
      conv => lhs; rw [← List.map_id l]
      refine List.map_congr_left fun x hx => ?_
      obtain ⟨y, rfl, _⟩ := right_nat (hr x hx)
      simp
    · obtain ⟨x, hx, rfl⟩ := List.mem_map.1 hm
      obtain ⟨y, rfl, hy⟩ := right_nat (hr x hx)
      simpa using hy
  have HM := make_is (h.ch hW (by simp)) (a := a) (l := l) cap (hcar hW) hb (fun p hp => by have := (hap p hp).1; simp; omega) 195 #[.pointer (some ⟨w.heap.size, 0, none⟩)] fnvAny1 (fun s => many s (l.map Int.toNat)) (fun hr W m hm hc hms => by
    obtain ⟨hl, hlt⟩ := hnat hr
    have hlen : l.length = (l.map Int.toNat).length := by simp
    have bx := (hc.cell (p := ⟨w.heap.size, 0, none⟩) (by simp) (by simp)).trans b0
    have hSW : Sl W a l := hcar (hW.trans hc (by simp))
    generalize l.map Int.toNat = q at *
    rw [hl] at hSW
    rw [hlen] at bx
    have hz := hc.size
    simp at hz hm
    exact Any1_is hms cap hSW (fun p hp => ⟨by have := (hap p hp).1; omega, by
      have h1 := hap p hp
      intro hk
      simp only [fp, List.mem_cons, not_or, List.not_mem_nil, or_false] at h1 hk
      rcases hk with e | e | e | e
      · exact h1.2.1 e
      · exact h1.2.2.1 e
      · exact h1.2.2.2.1 e
      · omega⟩) hlt bx) (fun hr => by
    obtain ⟨hl, hlt⟩ := hnat hr
    have := mall_ok (s := (G, 0)) (out := 1) ((l.map Int.toNat).map neg) ⟨h.ok, .inl rfl⟩ (by have := h.ok.wf.pos; show 1 < 2 * G.nodes.length; omega) (fun r hm => by
      obtain ⟨y, hy, rfl⟩ := List.mem_map.1 hm
      exact neg_lt (hlt y hy))
    exact ⟨this.1, this.2.1⟩)
  unfold doAny
  clear hcar b0 hnat
  generalize whole G l _ = R at *
  have H := Lib.hid h; clear h
  have HSS := Lib.hid hS; clear hS
  have HAP := Lib.hid hap; clear hap
  clear hb
  go_enter Try.func139, Try.ntmps139
  go_wp2_with fail
  refine HM.mono ?_
  rintro e w' ⟨rfl, hs⟩
  have HS := Lib.hid hs; clear hs
  go_wp2_with fail
  go_ret2
  exact ⟨rfl, HS.out.back hW⟩
end
end Go.Proofs.Ytkedpifopclipaa
namespace Go.Proofs.Ytkedpifopclipaa
open Go.RowKit Go.Mem Go.Aig

theorem inputsFrom_input (x : Nd) (hk : x.k = 2) : ∀ (ns : List Nd) (n : Nat), inputsFrom (ns ++ [x]) n = inputsFrom ns n ++ [2 * (n + ns.length)]
  | [], n => by simp [inputsFrom, hk]
  | y :: ns, n => by
    have e : 2 * (n + 1 + ns.length) = 2 * (n + (ns.length + 1)) := by omega
    simp only [List.cons_append, inputsFrom, inputsFrom_input x hk ns, List.length_cons, e]
    split <;> simp
theorem inputs_input {ns : List Nd} {x : Nd} (hk : x.k = 2) : inputs (ns ++ [x]) = inputs ns ++ [2 * ns.length] := by
  have := inputsFrom_input x hk ns 0
  simpa [inputs] using this
def doInput (G : Gra) : Res := put G ⟨2, 0, 0, 0⟩
theorem inputsFrom_le : ∀ (ns : List Nd) (n : Nat), (inputsFrom ns n).length ≤ ns.length
  | [], n => by simp [inputsFrom]
  | x :: ns, n => by
    have := inputsFrom_le ns (n + 1)
    unfold inputsFrom
    split <;> simp <;> omega
theorem inputs_le (ns : List Nd) : (inputs ns).length ≤ ns.length := inputsFrom_le ns 0
section
variable {w : World} {g : Nat} {G : Gra} {nb ncap : Nat} {iv : Value} {mb : Nat}

set_option maxRecDepth 100000 in
set_option maxHeartbeats 2000000 in
theorem Input_is (h : GM w g G nb ncap iv mb) :
    Calls Try.prog 78 #[.pointer (some ⟨g, 0, none⟩)] w fun e w' => e = .returned (.tuple #[.int .i64 (doInput G).2.1, .int .i64 (doInput G).2.2]) ∧ GTo w g (doInput G).1 (fp g nb mb iv) w' := by
  have HN := none_no h
  have hil := inputs_le G.nodes
  unfold doInput put
  by_cases hf : G.most ≤ G.nodes.length
  · rw [if_pos hf]
    have HP := put_no_of h 2 0 0 0 ⟨2, 0, 0, 0⟩ rfl rfl rfl rfl hf
    have H := Lib.hid h; clear h
    clear hf hil
    go_enter Try.func78, Try.ntmps78
    go_wp2_with fail
    refine HN.mono ?_
    rintro e w' ⟨rfl, rfl⟩
    go_wp2_with fail
    refine HP.mono ?_
    rintro e w1 ⟨rfl, hc⟩
    have HC := Lib.hid hc; clear hc
    go_wp2_with fail
    go_ret2
    exact ⟨rfl, GTo.same ⟨_, _, _, _, H.out, rfl⟩ HC.out⟩
  · rw [if_neg hf]
    have HP := put_yes_of h 2 0 0 0 ⟨2, 0, 0, 0⟩ rfl rfl rfl rfl (by omega)
    have hm := h.ok.most
    have H := Lib.hid h; clear h
    have hlb : G.nodes.length < 65536 := by omega
    have HF := Lib.hid hf; clear hf
    go_enter Try.func78, Try.ntmps78
    go_wp2_with fail
    refine HN.mono ?_
    rintro e w' ⟨rfl, rfl⟩
    go_wp2_with fail
    refine HP.mono ?_
    rintro e w1 ⟨rfl, nb', ncap', hs⟩
    have s3 : w1.cell? ⟨g, 3, none⟩ = some iv := hs.st.cell rfl
    have f3 : w1.frozen? ⟨g, 3, none⟩ = false := hs.st.frozen
    have hg1 : g < w1.heap.size := hs.st.lt
    have hch1 : Ch [g, nb] w w1 := hs.ch
    have hsz1 := hch1.size
    have hl0 := H.out.lt
    have hWA : Ch [] w1 (w1.alloc (.cells #[.int .i64 (2 * (G.nodes.length : Int))] 45)) := (Ch.refl _ _).alloc _
    have hI : row (w1.alloc (.cells #[.int .i64 (2 * (G.nodes.length : Int))] 45)) 45 1 iv (inputs G.nodes).length (refsCells (inputs G.nodes)) := by
      refine (H.out.ins.ch hch1 (fun k hk => ?_)).ch hWA (by simp)
      have h1 := H.out.gi; have h2 := H.out.ni
      simp only [List.mem_cons, List.not_mem_nil, or_false, not_or]
      exact ⟨by rintro rfl; exact h1 hk, by rintro rfl; exact h2 hk⟩
    have hB : blk (w1.alloc (.cells #[.int .i64 (2 * (G.nodes.length : Int))] 45)) w1.heap.size [.int .i64 (2 * (G.nodes.length : Int))] := blk.new _ _ _
    have HI := Lib.hid hI; clear hI
    have HB := Lib.hid hB; clear hB
    have HS := Lib.hid hs; clear hs
    have HWA := Lib.hid hWA; clear hWA
    have HC1 := Lib.hid hch1; clear hch1
    go_wp2_with (at_builtin; go_loud (refine wpList_append_row slRefs rfl _ _ rfl (v := iv) (n := (inputs G.nodes).length) (xs := refsCells (inputs G.nodes)) rfl HI.out (ad := ⟨w1.heap.size, 0, none⟩) (m := 1) (c := 1) (news := [.int .i64 (2 * (G.nodes.length : Int))]) rfl rfl (news_blk HB.out) (by simp [Value.oneCell']) (by omega) (by omega) ?_; intro v' w2 hown hC2 hfresh; obtain ⟨ib, icap, hv⟩ := row.parts hown (by omega); have k3 : w2.cell? ⟨g, 3, none⟩ = some iv := (hC2.cell (p := ⟨g, 3, none⟩) (by simp; omega) (by have := H.out.gi; simpa [eq_comm] using this)).trans (by go_simp); have k3f : w2.frozen? ⟨g, 3, none⟩ = false := (hC2.frozen (p := ⟨g, 3, none⟩) (by simp; omega) (by have := H.out.gi; simpa [eq_comm] using this)).trans (by go_simp); have HOWN := Lib.hid hown; clear hown; have HC2 := Lib.hid hC2; clear hC2; have HFR := Lib.hid hfresh; clear hfresh; have HV := Lib.hid hv; rw [hv]; clear hv))
    go_ret2
    have hz2 := HC2.out.size
    simp at hz2
    have hown := HOWN.out
    rw [HV.out] at hown
    have hfr : ib < w1.heap.size → iv.ownBlock = some ib := fun hlt => by
      rcases HFR.out ib (by rw [HV.out]; rfl) with e | e
      · exact e
      · simp at e; omega
    have hgi := H.out.gi
    have hni := H.out.ni
    have hmi := H.out.mi
    have hivl := H.out.lt.2.2.2
    have hm1 : mb < w1.heap.size := by omega
    have hnb' : nb' < w1.heap.size := (HS.out.nodes.lt nb' rfl).2
    have e1 : ib ≠ g := fun e => by subst e; exact hgi (hfr hg1)
    have e2 : ib ≠ mb := fun e => by subst e; exact hmi (hfr hm1)
    have e3 : ib ≠ nb' := fun e => by
      subst e
      have := hfr hnb'
      rcases HS.out.fresh with e | e
      · exact hni (e ▸ this)
      · have := hivl _ this; omega
    have hgn : g ≠ nb' := by
      rcases HS.out.fresh with e | e
      · rw [e]; exact H.out.gn
      · omega
    have hmn : mb ≠ nb' := by
      rcases HS.out.fresh with e | e
      · rw [e]; exact H.out.mn
      · omega
    have hgiv : g ∉ iv.ownBlock.toList := by simpa [eq_comm] using hgi
    have hmiv : mb ∉ iv.ownBlock.toList := by simpa [eq_comm] using hmi
    have hniv : nb' ∉ iv.ownBlock.toList := by
      simp only [Option.mem_toList]
      intro hk
      rcases HS.out.fresh with e | e
      · exact hni (e ▸ hk)
      · have := hivl _ hk; omega
    have hCall : Ch iv.ownBlock.toList w1 w2 := (HWA.out.mono (by simp)).trans HC2.out (fun k hk => .inl hk)
    have hIS := inputs_input (ns := G.nodes) (x := ⟨2, 0, 0, 0⟩) rfl
    have hset : Ch [g] w2 (w2.setCell ⟨g, 3, none⟩ (.slice (some ⟨ib, 0, none⟩) ((inputs G.nodes).length + 1) icap)) := (Ch.refl _ _).setCell (by simp) _
    refine ⟨ret_ii (by simp) rfl, GTo.of (nb' := nb') (ncap' := ncap') (iv' := .slice (some ⟨ib, 0, none⟩) ((inputs G.nodes).length + 1) icap) ?_ ?_ HS.out.fresh ?_⟩
    · refine ⟨?_, ?_, ?_, ?_, H.out.gm, hgn, hmn, ?_, ?_, ?_, ?_⟩
      · have := (HS.out.st.ch hCall hgiv).set (i := 3) (.slice (some ⟨ib, 0, none⟩) ((inputs G.nodes).length + 1) icap)
        simpa using this
      · have := (HS.out.nodes.ch hCall (fun k hk => by cases hk; exact hniv)).ch hset (fun k hk => by cases hk; simp [hgn.symm])
        simpa using this
      · obtain ⟨es, clock, h1, h2⟩ := H.out.mp
        refine ⟨es, clock, ?_, h2.other (by simp)⟩
        have g1 := HC1.out.block mb (by omega) (by simp [H.out.gm.symm, H.out.mn])
        have g2 := hCall.block mb hm1 hmiv
        have g3 := hset.block mb (by omega) (by simp [H.out.gm.symm])
        exact g3.trans (g2.trans (g1.trans h1))
      · show row _ _ 1 _ (inputs (G.nodes ++ [⟨2, 0, 0, 0⟩])).length (refsCells (inputs (G.nodes ++ [⟨2, 0, 0, 0⟩])))
        rw [hIS]
        have := hown.ch hset (fun k hk => by cases hk; simp [e1])
        simpa [refsCells] using this
      · simp [Value.ownBlock, e1]
      · simp [Value.ownBlock, e3]
      · simp [Value.ownBlock, e2]
      · exact ⟨H.out.ok.wf.input, by have := HF.out; simp; omega, H.out.ok.most⟩
    · refine ((HC1.out.mono (F' := fp g nb mb iv) ?_).trans ((hCall.mono (F' := g :: iv.ownBlock.toList) (fun k hk => .inl (by simp at hk ⊢; simp [hk]))).trans hset (fun k hk => .inl (by simp at hk ⊢; simp [hk]))) ?_)
      · intro k hk; left; simp [fp] at hk ⊢; rcases hk with e | e <;> simp [e]
      · intro k hk; left; simp [fp] at hk ⊢; rcases hk with e | e <;> simp [e]
    · intro k hk
      simp only [Value.ownBlock, Option.some.injEq] at hk
      subst hk
      rcases HFR.out ib (by rw [HV.out]; rfl) with e | e
      · exact .inl e
      · simp at e; exact .inr (by omega)
end
end Go.Proofs.Ytkedpifopclipaa
namespace Go.Proofs.Ytkedpifopclipaa
open Go.RowKit Go.Mem Go.Aig

def newG (n : Nat) : Gra := ⟨n, [⟨1, 0, 0, 0⟩]⟩
theorem newG_ok {n : Nat} (h1 : 1 ≤ n) (h2 : n ≤ 65536) : Ok (newG n) := by
  refine ⟨?_, by simpa [newG] using h1, h2⟩
  have key : ∀ (m : Nat) (x : Nd), (newG n).nodes[m]? = some x → m = 0 ∧ x = ⟨1, 0, 0, 0⟩ := fun m x h => by
    have := (List.getElem?_eq_some_iff.1 h).1
    have h0 : m = 0 := by simp [newG] at this; omega
    subst h0
    simp [newG] at h
    exact ⟨rfl, h.symm⟩
  refine ⟨rfl, fun m x h hm => ?_, fun m k x y hx hy _ _ _ _ => ?_, fun m x h => ?_⟩
  · have := key m x h; omega
  · rw [(key m x hx).1, (key k y hy).1]
  · obtain ⟨rfl, rfl⟩ := key m x h; exact Nat.le_refl _
section
variable {w : World}
set_option maxRecDepth 100000 in
set_option maxHeartbeats 1000000 in
theorem New_no (n : Int) (h : n < 1 ∨ 65536 < n) :
    Calls Try.prog 54 #[.int .i64 n] w fun e w' => e = .returned (.tuple #[.pointer none, .int .i64 2]) ∧ w = w' := by
  rcases h with h | h
  · have h1 : decide (n < 1) = true := decide_eq_true h
    go_enter Try.func54, Try.ntmps54
    go_wp2_with fail
    go_ret2
    exact ⟨rfl, rfl⟩
  · have h1 : decide (n < 1) = false := decide_eq_false (by omega)
    have h2 : decide (65536 < n) = true := decide_eq_true h
    go_enter Try.func54, Try.ntmps54
    go_wp2_with fail
    go_ret2
    exact ⟨rfl, rfl⟩

set_option maxRecDepth 100000 in
set_option maxHeartbeats 1000000 in
theorem New_yes (n : Nat) (h1 : 1 ≤ n) (h2 : n ≤ 65536) :
    Calls Try.prog 54 #[.int .i64 n] w fun e w' => ∃ g F, e = .returned (.tuple #[.pointer (some ⟨g, 0, none⟩), .int .i64 0]) ∧ GIn w' g (newG n) F ∧ (∀ k ∈ F, w.heap.size ≤ k) ∧ Ch [] w w' := by
  have d1 : decide ((n : Int) < 1) = false := decide_eq_false (by omega)
  have d2 : decide ((65536 : Int) < n) = false := decide_eq_false (by omega)
  have hmm := @run_makeMap Try.prog
  go_enter Try.func54, Try.ntmps54
  go_wp2_with fail
  go_ret2

  have c1 : Ch [] w (w.alloc (.cells #[.int .u8 1, .int .i64 0, .int .i64 0, .int .i64 0] 181)) := (Ch.refl _ _).alloc _
  have c2 := c1.alloc (.map #[] 0)
  have c3 := c2.alloc (.cells #[.int .i64 n, .slice (some ⟨w.heap.size, 0, none⟩) 1 1, .map (some (w.heap.size + 1)), .slice none 0 0] 161)
  have k2 : Ch [] (w.alloc (.cells #[.int .u8 1, .int .i64 0, .int .i64 0, .int .i64 0] 181)) _ := ((Ch.refl [] _).alloc (.map #[] 0)).alloc (.cells #[.int .i64 n, .slice (some ⟨w.heap.size, 0, none⟩) 1 1, .map (some (w.heap.size + 1)), .slice none 0 0] 161)
  refine ⟨w.heap.size + 2, fp (w.heap.size + 2) w.heap.size (w.heap.size + 1) (.slice none 0 0), rfl, ⟨w.heap.size, 1, .slice none 0 0, w.heap.size + 1, ?_, rfl⟩, by simp [fp], c3⟩
  refine ⟨blk.new' _ _ (by simp), ⟨rfl, .inr ⟨w.heap.size, 1, _, rfl, by omega, (k2.block _ (by simp) (by simp)).trans (heap_alloc_new w _), by simp [newG], by unfold maxLen; omega, rfl, rfl⟩⟩, ⟨#[], 0, (((Ch.refl [] _).alloc _).block _ (by simp) (by simp)).trans (by have := heap_alloc_new (w.alloc (.cells #[.int .u8 1, .int .i64 0, .int .i64 0, .int .i64 0] 181)) (.map #[] 0); simpa using this), ?_⟩, ⟨rfl, .inl ⟨rfl, rfl⟩⟩, by omega, by omega, by omega, by simp, by simp, by simp, newG_ok h1 h2⟩
  refine ⟨by simp, fun m x hx hk => ?_, by simp⟩
  have h1 := (List.getElem?_eq_some_iff.1 hx).1
  have h0 : m = 0 := by simp [newG] at h1; omega
  subst h0
  simp [newG] at hx
  subst hx
  simp at hk
end
end Go.Proofs.Ytkedpifopclipaa
namespace Go.Proofs.Ytkedpifopclipaa
open Go.RowKit Go.Mem Go.Aig
theorem eqSliceNil (w : World) (a : Option Addr) (n c : Nat) : (binOp .eql 28 (.slice a n c) (.slice none 0 0)).run Try.prog w = .ok (.bool a.isNone) w := by
  have h : Try.prog.underlying 28 = some (.slice 45) := Try.underlying28
  simp only [binOp]
  simp [run_equal_slice_nil w _ _ a n c h]
attribute [go_sem] eqSliceNil
section
variable {w : World}
set_option maxRecDepth 100000 in
set_option maxHeartbeats 1000000 in
theorem Clref_none :
    Calls Try.prog 29 #[.slice none 0 0] w fun e w' => e = .returned (.slice none 0 0) ∧ w = w' := by
  go_enter Try.func29, Try.ntmps29
  go_wp2_with fail
  go_ret
  exact ⟨rfl, rfl⟩
set_option maxRecDepth 100000 in
set_option maxHeartbeats 1000000 in
theorem Clref_some {b n cap : Nat} {xs : List Value} (hl : xs.length = n) (hbl : b < w.heap.size) (hx : ∀ i v, xs[i]? = some v → w.cell? ⟨b, i, none⟩ = some v) (h1 : ∀ u ∈ xs, u.oneCell' = true) (hn : n ≤ 1000000) :
    Calls Try.prog 29 #[.slice (some ⟨b, 0, none⟩) n cap] w fun e w' => ∃ v, e = .returned v ∧ row w' 45 1 v n xs ∧ (∀ k, v.ownBlock = some k → w.heap.size ≤ k) ∧ Ch [] w w' := by
  have hO : row (w.alloc (.cells #[] 45)) 45 1 (.slice (some ⟨w.heap.size, 0, none⟩) 0 0) 0 [] := ⟨rfl, .inr ⟨w.heap.size, 0, #[], rfl, by omega, heap_alloc_new w _, by omega, by unfold maxLen; omega, rfl, rfl⟩⟩
  have hN : ∀ j u, xs[j]? = some u → (w.alloc (.cells #[] 45)).cell? ((⟨b, 0, none⟩ : Addr).add j) = some u := fun j u hu => by
    rw [Addr.add_lit]
    exact (((Ch.refl [] w).alloc _).cell (by simpa using hbl) (by simp)).trans (by simpa using hx j u hu)
  have HO := Lib.hid hO; clear hO
  have HN := Lib.hid hN; clear hN hx
  go_enter Try.func29, Try.ntmps29
  go_wp2_with (at_builtin; go_loud (refine wpList_append_row slRefs rfl _ _ rfl (v := .slice (some ⟨w.heap.size, 0, none⟩) 0 0) (n := 0) (xs := []) rfl HO.out (ad := ⟨b, 0, none⟩) (m := n) (c := cap) (news := xs) rfl (by omega) HN.out h1 (by omega) (by omega) ?_; intro v' w2 hown hC2 hfresh; have HOWN := Lib.hid hown; clear hown; have HC2 := Lib.hid hC2; clear hC2; have HFR := Lib.hid hfresh; clear hfresh))
  go_ret
  have hown := HOWN.out
  rw [Nat.zero_add, List.nil_append] at hown
  refine ⟨_, rfl, hown, fun k hk => ?_, (((Ch.refl [] w).alloc (.cells #[] 45))).trans HC2.out (by simp)⟩
  rcases HFR.out k hk with e | e
  · simp at e; omega
  · simp at e; omega

variable {g : Nat} {G : Gra} {nb ncap : Nat} {iv : Value} {mb : Nat}
theorem cells_of_nats (l : List Nat) : ∀ u ∈ refsCells l, u.oneCell' = true := by
  intro u hu
  obtain ⟨r, _, rfl⟩ := List.mem_map.1 hu
  rfl
set_option maxRecDepth 100000 in
set_option maxHeartbeats 1000000 in
theorem Inputs_is (h : GM w g G nb ncap iv mb) :
    Calls Try.prog 30 #[.pointer (some ⟨g, 0, none⟩)] w fun e w' => ∃ v, e = .returned v ∧ row w' 45 1 v (inputs G.nodes).length (refsCells (inputs G.nodes)) ∧ (∀ k, v.ownBlock = some k → w.heap.size ≤ k) ∧ Ch [] w w' := by
  have HN := none_no h
  have ⟨c0, c1, c2, c3⟩ := h.c
  have hil := inputs_le G.nodes
  have hr := h.ok.room
  have hm := h.ok.most
  have HC : Calls Try.prog 29 #[iv] w fun e w' => ∃ v, e = .returned v ∧ row w' 45 1 v (inputs G.nodes).length (refsCells (inputs G.nodes)) ∧ (∀ k, v.ownBlock = some k → w.heap.size ≤ k) ∧ Ch [] w w' := by
    rcases h.ins.2 with ⟨rfl, h0⟩ | ⟨b, cap, cur, rfl, _, hg, _⟩
    · refine Clref_none.mono ?_
      rintro e w' ⟨rfl, rfl⟩
      exact ⟨_, rfl, h.ins, by simp, Ch.refl _ _⟩
    · refine Clref_some (by simp [refsCells]) (Array.getElem?_eq_some_iff.1 hg).1 (fun i v hv => ?_) (cells_of_nats _) (by omega)
      have := h.ins.cells (g := b) rfl i v hv
      rw [Addr.add_lit] at this
      simpa using this
  clear h hil hr hm
  go_enter Try.func30, Try.ntmps30
  go_wp2_with fail
  refine HN.mono ?_
  rintro e w' ⟨rfl, rfl⟩
  go_wp2_with fail
  refine HC.mono ?_
  rintro e w' ⟨v, rfl, h1, h2, h3⟩
  have H1 := Lib.hid h1; clear h1
  have H2 := Lib.hid h2; clear h2
  have H3 := Lib.hid h3; clear h3
  go_wp2_with fail
  go_ret
  exact ⟨_, rfl, H1.out, H2.out, H3.out⟩
end
end Go.Proofs.Ytkedpifopclipaa
namespace Go.Aig
def setMark (met : List Bool) (r : Nat) : List Bool := met.set (r / 2) true
def met0 (len : Nat) (l : List Nat) : List Bool := l.foldl setMark (List.replicate len false)
def stepMet (ns : List Nd) (met : List Bool) (n : Nat) : List Bool := match ns[n]? with
  | some x => if x.k = 3 then setMark (setMark met x.l) x.r else met
  | none => met
def coneFrom (ns : List Nd) : Nat → List Bool → List Nat
  | 0, _ => []
  | n + 1, met => if met.getD n false = true then n :: coneFrom ns n (stepMet ns met n) else coneFrom ns n met
def coneDown (ns : List Nd) (l : List Nat) : List Nat := coneFrom ns ns.length (met0 ns.length l)
def cone (ns : List Nd) (l : List Nat) : List Nat := (coneDown ns l).reverse
theorem setMark_len (met : List Bool) (r : Nat) : (setMark met r).length = met.length := by simp [setMark]
theorem stepMet_len (ns : List Nd) (met : List Bool) (n : Nat) : (stepMet ns met n).length = met.length := by
  unfold stepMet; (repeat' split) <;> simp [setMark_len]
theorem foldl_mark_len : ∀ (l : List Nat) (met : List Bool), (l.foldl setMark met).length = met.length
  | [], met => rfl
  | r :: l, met => by rw [List.foldl_cons, foldl_mark_len l, setMark_len]
theorem met0_len (len : Nat) (l : List Nat) : (met0 len l).length = len := by rw [met0, foldl_mark_len]; simp
theorem foldl_take_succ {l : List Nat} {k r : Nat} (h : l[k]? = some r) (met : List Bool) : (l.take (k + 1)).foldl setMark met = setMark ((l.take k).foldl setMark met) r := by
  rw [List.take_add_one, h]; simp
theorem coneFrom_lt (ns : List Nd) : ∀ (n : Nat) (met : List Bool), ∀ r ∈ coneFrom ns n met, r < n
  | 0, _, r, h => by cases h
  | n + 1, met, r, h => by
    unfold coneFrom at h
    split at h
    · rcases List.mem_cons.1 h with rfl | h
      · omega
      · have := coneFrom_lt ns n _ r h; omega
    · have := coneFrom_lt ns n _ r h; omega
theorem coneFrom_len (ns : List Nd) : ∀ (n : Nat) (met : List Bool), (coneFrom ns n met).length ≤ n
  | 0, _ => by simp [coneFrom]
  | n + 1, met => by
    unfold coneFrom
    split
    · have := coneFrom_len ns n (stepMet ns met n); simp; omega
    · have := coneFrom_len ns n met; omega
end Go.Aig
namespace Go.Ord
open Go
/-- an operation that is neither a call nor a defer, and of the common kinds -/
def quietOp (o : Oper) : Bool := match o.op with
  | .move _ | .assign _ | .pick .. | .load .. | .store .. | .fieldAddr .. | .binOp .. | .unOp .. | .indexAddr .. | .alloc .. | .slice .. | .field .. | .convert .. => true
  | _ => false
theorem quiet_run {P : Program} {o : Oper} (hq : quietOp o = true) {ρ : Operand → Value} {w w' : World} {x : Next} (h : (execOp ρ o).run P w = .ok x w') : (∃ v, x = .value v) ∨ x = .skip := by
  have hv : ∀ {α : Type} (s : Sem α) (f : α → Value), (do let a ← s; pure (Next.value (f a)) : Sem Next).run P w = .ok x w' → (∃ v, x = .value v) ∨ x = .skip := fun s f h => by
    rw [Sem.run_bind] at h
    cases hs : s.run P w with
    | ok a w1 => rw [hs] at h; simp at h; exact .inl ⟨_, h.1.symm⟩
    | halt z w1 => rw [hs] at h; simp [Result.andThen] at h
  have hu : ∀ (s : Sem Unit), (do s; pure Next.skip : Sem Next).run P w = .ok x w' → (∃ v, x = .value v) ∨ x = .skip := fun s h => by
    rw [Sem.run_bind] at h
    cases hs : s.run P w with
    | ok a w1 => rw [hs] at h; simp at h; exact .inr h.1.symm
    | halt z w1 => rw [hs] at h; simp [Result.andThen] at h
  unfold execOp at h
  cases ho : o.op <;> simp only [quietOp, ho] at hq h <;>
    first
      | exact absurd hq (by decide)
      | exact hv _ _ h
      | exact hu _ h
      | (simp at h; exact .inl ⟨_, h.1.symm⟩)
      | skip
theorem quiet_in {F : Fence} {n : Nat} {P : Program} {o : Oper} (hq : quietOp o = true) {a : Act} {w : World} {K : Act → World → Prop} {Q : Exit → Act → World → Prop} (h : o.wp P a w K Q) : o.wpIn F n P a w K Q := by
  have hd : ∀ c, o.op ≠ .defer c := fun c e => by simp [quietOp, e] at hq
  refine ⟨fun f hf => ?_, ?_⟩
  · unfold Oper.about at hf
    cases ho : o.op <;> simp only [quietOp, ho] at hq hf <;> first | (exact absurd hq (by decide)) | (exact absurd hf (by simp))
  · rw [Oper.semAt_eq _ _ _ hd]
    unfold Oper.wp at h
    cases hr : (execOp a.eval o).run P w with
    | ok x w' =>
      rw [hr] at h
      rcases quiet_run hq hr with ⟨v, rfl⟩ | rfl
      · exact h
      · exact h
    | halt x w' =>
      rw [hr] at h
      cases x <;> exact h
theorem any_in {F : Fence} {n : Nat} {P : Program} {ops : Array Oper} {Q : Exit → Act → World → Prop} {md : Region.Mode} (hnl : ¬ LetsOut Q) (hq : ∀ o ∈ ops.toList, quietOp o = true) : ∀ (m : Nat) (listed : Array Bool) (a : Act) (w : World), wpAny P md ops Q m listed a w → wpAnyIn F n P md ops Q m listed a w := by
  intro m
  induction m with
  | zero => intro listed a w h; exact h
  | succ m ih =>
    intro listed a w h
    refine ⟨h.1, fun i hi => ?_⟩
    have h2 := h.2 i hi
    refine wpOpIn_mono (fun a w => ih _ a w) ?_
    unfold wpOp at h2
    unfold wpOpIn
    cases ho : ops[i]? with
    | none => simpa [ho] using h2
    | some o =>
      have hqo : quietOp o = true := hq o (by
        have := Array.mem_of_getElem? ho
        exact Array.mem_def.1 this)
      simp only [ho] at h2 ⊢
      split
      · rename_i hw; simp only [hw, if_true] at h2; exact quiet_in hqo (h2.resolve_right fun h => hnl h.2)
      · rename_i hw
        simp only [hw] at h2
        refine ⟨fun f hf => ?_, h2⟩
        unfold Oper.about at hf
        cases ho2 : o.op <;> simp only [quietOp, ho2] at hqo hf <;> first | (exact absurd hqo (by decide)) | (exact absurd hf (by simp))
section
variable {F : Fence} {n : Nat} {P : Program} {l : List Oper} {Q' : Exit → Act → World → Prop}
theorem St.doorIn {id : Nat} {a : Act} {w : World} (C : World → Prop) (ks : List Kd) (A : List Nat) (R : List Nat) (hm : P.follows .mixedOrders = true) (hqq : l.all quietOp = true) (hs : stat l.toArray ks A = true) (hR : List.range l.length = R)
    (h : St P l ks A C (Q' .normal) R a w.drew) : (Code.region id l.toArray true).wpIn F n P Q' a w := by
  refine wpIn_mono (Q := only (Q' .normal)) ?_ (fun e a w ⟨he, hq⟩ => he ▸ hq)
  refine wpIn_region_any hm ?_
  subst hR
  have h2 := h List.nodup_range (fun k o e hk _ _ _ => List.mem_range.2 (by have := lt_size hk; simpa using this)) (by simp) (stat_spec hs)
  have := wpAny_of_all (P := P) (C := C) (stat_spec hs) (Q' .normal) l.length (List.range l.length) (Array.replicate l.length false) a w.drew List.nodup_range (by simp) (by simp) (by simp)
    (fun k hk => by simp at hk; simp [hk]) (by simpa using h2)
  have h3 := any_in (F := F) (n := n) (only_lets _) (fun o ho => List.all_eq_true.1 hqq o (by simpa using ho)) _ _ _ _ this
  simpa using h3
end
end Go.Ord
namespace Go
section
variable {F : Fence} {n : Nat} {P : Program} {Q : Exit → Act → World → Prop} {a : Act} {w : World}
theorem stepR_scope' {b : Frame} {k : List Item} {cs : List Frame} {c : Code} : step P (lone (b.atR a (.code (.scope c) :: k)) cs w) = .next (lone (b.atR a (.code c :: .inScope c :: k)) cs w) :=
  step_lone_go (by simp [stepG, stepG.exec, Frame.atR])
theorem stepR_inScope' {b : Frame} {k : List Item} {cs : List Frame} {c : Code} : step P (lone (b.atR a (.inScope c :: k)) cs w) = .next (lone (b.atR a k) cs w) :=
  step_lone_go (by simp [stepG, stepG.exec, Frame.atR])
theorem wpIn_scope_straight' {c : Code} (h : c.wpIn F n P (Exit.noGoto Q) a w) : (Code.scope c).wpIn F n P Q a w := by
  intro b k cs hro hb hr
  have h0 : (lone (b.atR a (.code (.scope c) :: k)) cs w).fenced P F := fenced_calm hb hr rfl
  obtain ⟨e, a₁, w₁, hq, harr⟩ := h b (.inScope c :: k) cs hro hb hr
  cases e with
  | normal => exact ⟨.normal, a₁, w₁, hq, .head h0 stepR_scope' (StepsIn.trans harr (.one (fenced_calm hb hr rfl) stepR_inScope'))⟩
  | exit id =>
    have hx : exitTo id (.inScope c :: k) = exitTo id k := by simp [exitTo]
    exact ⟨.exit id, a₁, w₁, hq, fun k' hk => .head h0 stepR_scope' (harr.1 k' (by rw [hx]; exact hk)),
      fun hr' hk => let ⟨k₁, h1, h2⟩ := harr.2 hr' (by rw [hx]; exact hk); ⟨k₁, h1, .head h0 stepR_scope' h2⟩⟩
  | goto l => exact hq.elim
  | ret => exact ⟨_, a₁, w₁, hq, .of_steps (.one h0 stepR_scope') harr⟩
  | panic ch => exact ⟨_, a₁, w₁, hq, .of_steps (.one h0 stepR_scope') harr⟩
  | outgrown => exact ⟨_, a₁, w₁, hq, .of_steps (.one h0 stepR_scope') harr⟩
end
end Go
namespace Go
open Go.RowKit
/-- what an iterator may do between two rounds: new blocks, and stores into cells of type T from B on -/
structure Still (T : TypeId) (B : Nat) (W W' : World) : Prop where
  os : W'.os = W.os
  tape : W'.tape = W.tape
  output : W'.output = W.output
  size : W.heap.size ≤ W'.heap.size
  keep : ∀ (k : Nat) (o : Obj), W.heap[k]? = some o → (k < B ∨ ∀ xs fz, o ≠ .cells xs T fz) → W'.heap[k]? = some o
/-- what the caller's word must bear: also turns of blocks that are no cells, from B on -/
structure StillI (T : TypeId) (B : Nat) (W W' : World) : Prop where
  os : W'.os = W.os
  tape : W'.tape = W.tape
  output : W'.output = W.output
  size : W.heap.size ≤ W'.heap.size
  keep : ∀ (k : Nat) (o : Obj), W.heap[k]? = some o → (k < B ∨ ∃ xs U fz, o = .cells xs U fz ∧ U ≠ T) → W'.heap[k]? = some o
def othersStay (W W' : World) : Prop := ∀ (k : Nat) (o : Obj), W.heap[k]? = some o → o.isCells = false → W'.heap[k]? = some o

section
variable {F : Fence} {n : Nat} {P : Program} {T : TypeId}
def SeqB {α : Type} (F : Fence) (n : Nat) (P : Program) (T : TypeId) (g : Nat) (lb : Array Value) (encs : α → Array Value) (Kp : World → World → Prop) (xs : List α) (w : World) : Prop :=
  ∀ (l : Nat) (J : List α → World → Prop) (W : World), Below w.heap.size w W → (∀ s A B, J s A → Still T W.heap.size A B → J s B) →
    (∀ pre x W1, J pre W1 → (pre ++ [x]) <+: xs → YieldAt F (n - 1) P l (encs x) W1 fun e W' => e = .returned (.bool true) ∧ J (pre ++ [x]) W' ∧ Kp W1 W') →
    J [] W →
    CallsIn F n P g (#[.func (.yield l) #[] #[]] ++ lb) W fun e W' => (∃ v, e = .returned v) ∧ J xs W'

theorem Still.toI {B C : Nat} {A W : World} (h : Still T B A W) (hC : C ≤ B) : StillI T C A W := ⟨h.os, h.tape, h.output, h.size, fun k o hk ho => h.keep k o hk (by
  rcases ho with h1 | ⟨xs, U, fz, rfl, hU⟩
  · exact .inl (by omega)
  · exact .inr (fun ys gz e => by cases e; exact hU rfl))⟩
theorem Still.alloc {B : Nat} {W : World} (o : Obj) : Still T B W (W.alloc o) := ⟨rfl, rfl, rfl, by simp, fun k u hk _ => (Below.heap_alloc W o k (Array.getElem?_eq_some_iff.1 hk).1).trans hk⟩
theorem Still.trans {B : Nat} {A W V : World} (h : Still T B A W) (h' : Still T B W V) : Still T B A V := ⟨h'.os.trans h.os, h'.tape.trans h.tape, h'.output.trans h.output, Nat.le_trans h.size h'.size, fun k o hk ho => h'.keep k o (h.keep k o hk ho) ho⟩
theorem Still.drew {B : Nat} {A W : World} (h : Still T B A W) : Still T B A W.drew := ⟨h.os, h.tape, h.output, h.size, h.keep⟩
theorem StillI.put {B l : Nat} {W : World} {o : Obj} (o' : Obj) (hB : B ≤ l) (hl : W.heap[l]? = some o) (ho : o.isCells = false) : StillI T B W (W.putObj l o') := ⟨rfl, rfl, rfl, by simp, fun k u hk hu => by
  by_cases hkl : k = l
  · subst hkl
    rw [hl] at hk; cases hk
    rcases hu with h1 | ⟨xs, U, fz, rfl, _⟩
    · omega
    · cases ho
  · exact (World.putObj_heap_other hkl).trans hk⟩
theorem StillI.alloc {B : Nat} {W : World} (o : Obj) : StillI T B W (W.alloc o) := ⟨rfl, rfl, rfl, by simp, fun k u hk _ => (Below.heap_alloc W o k (Array.getElem?_eq_some_iff.1 hk).1).trans hk⟩

theorem wpIn_rangeFunc_B {α : Type} {g : Operand} {ps : Array Tmp} {assign body : Code} {Q : Exit → Act → World → Prop} {a : Act} {w : World}
    (hro : F.round = none) (h1 : 1 ≤ n) {gf : Nat} {lb : Array Value} (hg : a.eval g = .func (.func gf) #[] lb) (hFg : F.fn gf) (eg : ∀ args w, (callFunc gf args).run P w = .ok (.enter gf args) w)
    {encs : α → Array Value} {Kp : World → World → Prop} {xs : List α} {w0 : World} (hseq : SeqB F (n - 1) P T gf lb encs Kp xs w0)
    (hKt : ∀ {A B C : World}, Kp A B → Kp B C → Kp A C) (hKb : ∀ (W : World) (l : Nat) (o o' : Obj), w.heap.size ≤ l → W.heap[l]? = some o → o.isCells = false → Kp W (W.putObj l o')) (hb0 : Below w0.heap.size w0 w) (hps : ∀ x, (encs x).size = ps.size)
    (I : List α → World → Prop) (hI : ∀ s A B, I s A → StillI T w.heap.size A B → I s B) (h0 : I [] w) (a₁ : α → Act)
    (hassign : ∀ (l : Nat) (x : α) (W : World) (K : Act → World → Prop), K (a₁ x) W →
      assign.wpIn (F.inRound l) (n - 1 - 1) P (Exit.then K (fun _ _ _ => False)) { tmps := (ps.zip (encs x)).foldl (fun t (p, v) => t.setIfInBounds p v) a.tmps, defers := [] } W)
    (hbody : ∀ (l : Nat) (pre : List α) (x : α) (W : World), I pre W → (pre ++ [x]) <+: xs → body.wpIn (F.inRound l) (n - 1 - 1) P (fun e _ W' => e = .normal ∧ othersStay W W' ∧ Kp W W' ∧ I (pre ++ [x]) W') (a₁ x) W)
    (hdone : ∀ (D : Nat) (W : World), w.heap.size ≤ D → I xs W → W.heap[D]? = some (.deferred (some [])) → Q .normal { a with defers := { target := .collected D, args := #[] } :: a.defers } W) :
    (Code.rangeFunc g ps assign body).wpIn F n P Q a w := by
  refine wpIn_rangeFunc fun fn hfn => ?_
  rw [hro]
  let rec0 : LoopState → Loop := fun st => { state := st, pending := none, fn, tmps := a.tmps, params := ps, assign, body, defers := w.heap.size }
  obtain ⟨W1, hW1⟩ : ∃ W1, (w.alloc (.deferred (some []))).alloc (.loop (rec0 .ready)) = W1 := ⟨_, rfl⟩
  have hz1 : W1.heap.size = w.heap.size + 2 := by rw [← hW1]; simp
  have hL1 : W1.heap[w.heap.size + 1]? = some (.loop (rec0 .ready)) := by
    rw [← hW1]; have := World.alloc_heap_new (w.alloc (.deferred (some []))) (.loop (rec0 .ready)); rwa [World.size_alloc] at this
  have hK1 : W1.heap[w.heap.size]? = some (.deferred (some [])) := by
    rw [← hW1]; exact (Below.heap_alloc _ _ _ (by simp)).trans (World.alloc_heap_new w _)
  have hI1 : I [] W1 := by rw [← hW1]; exact hI _ _ _ (hI _ _ _ h0 (StillI.alloc _)) (StillI.alloc _)
  have hb1 : Below w0.heap.size w0 W1 := by
    rw [← hW1]; exact hb0.trans ((((Below.refl _ w).alloc (Nat.le_refl _) _).alloc (by simp) _).mono hb0.size)
  refine ⟨w.heap.size + 1, [{ target := .collected w.heap.size, args := #[] }], W1, { target := .fn (.func gf) lb, args := #[.func (.yield (w.heap.size + 1)) #[] #[]] }, W1, gf,
    #[.func (.yield (w.heap.size + 1)) #[] #[]] ++ lb, W1, ?_, ?_, ?_, ?_, fun _ => h1, ?_⟩
  · rw [← hW1]; exact run_enterLoop_outer _ _ _ _ _
  · simp only [resolve, hg]
    simp [go_sem]
  · intro f' hf'; simp [Target.leads] at hf'; subst hf'; exact hFg
  · simp [invoke, go_sem, eg]
  · refine (hseq (w.heap.size + 1) (fun pre W => I pre W ∧ W.heap[w.heap.size + 1]? = some (.loop (rec0 .ready)) ∧ W.heap[w.heap.size]? = some (.deferred (some []))) W1 hb1
      (fun s A B hs hst => ⟨hI s A B hs.1 (hst.toI (by omega)), hst.keep _ _ hs.2.1 (.inr (fun _ _ e => by cases e)), hst.keep _ _ hs.2.2 (.inr (fun _ _ e => by cases e))⟩) ?_ ⟨hI1, hL1, hK1⟩).mono ?_
    · rintro pre x W ⟨hi, hl, hk⟩ hpre
      have hlt : w.heap.size + 1 < W.heap.size := (Array.getElem?_eq_some_iff.1 hl).1
      refine ⟨fn, _, assign, body, run_yield (P := P) (args := encs x) hl (hps x), roundIn_of_wpIn hfn (hassign _ x W _ ⟨_, run_beginRound hl rfl, ?_⟩)⟩
      have hl2 : (W.putObj (w.heap.size + 1) (.loop (rec0 .busy))).heap[w.heap.size + 1]? = some (.loop (rec0 .busy)) := World.putObj_heap_same hlt
      have hk2 : (W.putObj (w.heap.size + 1) (.loop (rec0 .busy))).heap[w.heap.size]? = some (.deferred (some [])) := (World.putObj_heap_other (by omega)).trans hk
      refine wpIn_mono (hbody _ pre x _ (hI _ _ _ hi (StillI.put (.loop (rec0 .busy)) (by omega) hl rfl)) hpre) ?_
      rintro e a3 W3 ⟨rfl, hk3, hkp3, hi3⟩
      have hl3 := hk3 _ _ hl2 rfl
      refine ⟨_, _, run_endRound (P := P) none hl3, rfl, ⟨hI _ _ _ hi3 (StillI.put _ (by omega) hl3 rfl), World.putObj_heap_same (Array.getElem?_eq_some_iff.1 hl3).1, (World.putObj_heap_other (by omega)).trans (hk3 _ _ hk2 rfl)⟩, ?_⟩
      exact hKt (hKt (hKb _ _ _ _ (by omega) hl rfl) hkp3) (hKb _ _ _ _ (by omega) hl3 rfl)
    · rintro e W2 ⟨⟨v, rfl⟩, hi, hl, hk⟩
      exact ⟨none, _, run_endLoop (P := P) hl (by simp [rec0]), hdone _ _ (Nat.le_refl _) (hI _ _ _ hi (StillI.put _ (by omega) hl rfl)) ((World.putObj_heap_other (by omega)).trans hk)⟩
end
end Go
namespace Go.Proofs.Ytkedpifopclipaa
open Go.RowKit Go.Mem Go.Aig Go.Shelf
attribute [local go_sem] Oper.semAt_some

/-- what a round of a loop over the cone keeps: what lies below n₀, and each slice of truths -/
structure Kb (n₀ bo : Nat) (W W' : World) : Prop where
  os : W'.os = W.os
  tape : W'.tape = W.tape
  output : W'.output = W.output
  size : W.heap.size ≤ W'.heap.size
  block : ∀ k, k < n₀ → k ≠ bo → W'.heap[k]? = W.heap[k]?
  bools : ∀ (b : Nat) (xs : Array Value), W.heap[b]? = some (Obj.cells xs 4 (0, 0)) → W'.heap[b]? = some (Obj.cells xs 4 (0, 0))
theorem Kb.trans {n₀ bo : Nat} {A B C : World} (h : Kb n₀ bo A B) (h' : Kb n₀ bo B C) : Kb n₀ bo A C := ⟨h'.os.trans h.os, h'.tape.trans h.tape, h'.output.trans h.output, Nat.le_trans h.size h'.size, fun k h1 h2 => (h'.block k h1 h2).trans (h.block k h1 h2), fun b xs hb => h'.bools b xs (h.bools b xs hb)⟩
theorem Ch.kb {bo : Nat} {w A B : World} (h : Ch [bo] w A) (hk : Kb w.heap.size bo A B) : Ch [bo] w B := ⟨hk.os.trans h.os, hk.tape.trans h.tape, hk.output.trans h.output, Nat.le_trans h.size hk.size, fun k hk1 hk2 => (hk.block k hk1 (by simpa using hk2)).trans (h.block k hk1 hk2)⟩
def bools (l : List Bool) : List Value := l.map .bool
theorem infoBool : (Try.prog.info? 4).map (fun i => (i.zero, i.size, i.bytes)) = some (some (.bool false), 1, 1) := by kernel_rfl
theorem run_make_bools (w : World) (n : Nat) (hn : n ≤ 65536) : (Instr.makeSlice 56 (.int .i64 n) (.int .i64 n)).run Try.prog w = .ok (.slice (some ⟨w.heap.size, 0, none⟩) n n) (w.alloc (.cells (bools (List.replicate n false)).toArray 4)) := by
  obtain ⟨i, hi, hz, hs, hb⟩ := info_parts infoBool
  have := run_make (P := Try.prog) w 56 4 i (.bool false) Try.underlying56 hi hz .i64 .i64 n n (by omega) (by omega) (by rw [hb]; omega) (by omega)
  rw [this, hs]
  have e : madeCells (Value.bool false).cells ((n : Int).toNat * 1) = (bools (List.replicate n false)).toArray := by
    apply Array.ext'
    have h := toList_madeCells_one (Value.bool false) ((n : Int).toNat * 1)
    simpa [bools, Value.cells] using h
  rw [e]; simp
def bblk (w : World) (b : Nat) (met : List Bool) : Prop := w.heap[b]? = some (Obj.cells (bools met).toArray 4 (0, 0))
theorem bblk.blk {w : World} {b : Nat} {met : List Bool} (h : bblk w b met) : blk w b (bools met) := ⟨_, h⟩
theorem bblk.set {w : World} {b i : Nat} {met : List Bool} (h : bblk w b met) (v : Bool) : bblk (w.setCell ⟨b, i, none⟩ (.bool v)) b (met.set i v) := by
  unfold bblk at *
  simp only [World.setCell, Array.getElem?_modify]
  rw [if_pos trivial, h]
  simp [bools, List.map_set]
theorem bblk.cell {w : World} {b i : Nat} {met : List Bool} (h : bblk w b met) (hi : i < met.length) : w.cell? ⟨b, i, none⟩ = some (.bool (met.getD i false)) := by
  refine h.blk.cell ?_
  simp [bools, hi]
theorem bblk.still {w : World} {b B : Nat} {met : List Bool} (h : bblk w b met) (hB : B ≤ b) (i : Nat) (v : Value) : Still 4 B w (w.setCell ⟨b, i, none⟩ v) := ⟨rfl, rfl, rfl, by simp, fun k o hk ho => by
  by_cases hkb : k = b
  · subst hkb
    rw [h] at hk; cases hk
    rcases ho with h1 | h1
    · omega
    · exact (h1 _ _ rfl).elim
  · exact (Below.heap_setCell w _ v k hkb).trans hk⟩
theorem bblk.kb {n₀ bo : Nat} {A B : World} {b : Nat} {met : List Bool} (h : bblk A b met) (hk : Kb n₀ bo A B) : bblk B b met := hk.bools _ _ h
section
variable {w : World} {g : Nat} {G : Gra} {nb ncap : Nat} {iv : Value} {mb : Nat}
set_option maxRecDepth 100000 in
set_option maxHeartbeats 2000000 in
theorem cone1_stops (bo : Nat) (F : Fence) (n : Nat) (hf : F.fn 164) (hro : F.round = none) (hn : 1 ≤ n) (h : GM w g G nb ncap iv mb) {x y : Nat} (bx : w.cell? ⟨x, 0, none⟩ = some (.pointer (some ⟨g, 0, none⟩))) (hxl : x < w.heap.size) {a : Option Addr} {l : List Nat} (cap : Nat) (by' : w.cell? ⟨y, 0, none⟩ = some (.slice a l.length cap)) (hyl : y < w.heap.size)
    (hS : Sl w a (l.map fun (r : Nat) => (r : Int))) (hap : ∀ p, a = some p → p.block < w.heap.size ∧ p.block ≠ bo) (hr : ∀ r ∈ l, r < 2 * G.nodes.length) (hgo : g ≠ bo) (hno : nb ≠ bo) (hxo : x ≠ bo) :
    SeqB F n Try.prog 4 164 #[.pointer (some ⟨x, 0, none⟩), .pointer (some ⟨y, 0, none⟩)] (fun (k : Nat) => #[.int .i64 k]) (Kb w.heap.size bo) (coneDown G.nodes l) w := by
  intro lp J W hW hJ hY h0
  have hc : Ch [] w W := ⟨hW.os, hW.tape, hW.output, hW.size, fun k hk _ => hW.block k hk⟩
  have hg := h.ch hc (by simp)
  have ⟨c0, c1, c2, c3⟩ := hg.c
  have hl0 := hg.lt.1
  have hln := h.lt.1
  have hpos := h.ok.wf.pos
  have hsz : G.nodes.length ≤ 65536 := by have := h.ok.room; have := h.ok.most; omega
  have bx1 := (hc.cell (p := ⟨x, 0, none⟩) hxl (by simp)).trans bx
  have by1 := (hc.cell (p := ⟨y, 0, none⟩) hyl (by simp)).trans by'
  have hxW : x < W.heap.size := Nat.lt_of_lt_of_le hxl hW.size
  have hyW : y < W.heap.size := Nat.lt_of_lt_of_le hyl hW.size
  have hmk := run_make_bools W G.nodes.length hsz
  have hbd := hS.bd
  rw [List.length_map] at hbd
  show CallsIn F n Try.prog 164 #[.func (.yield lp) #[] #[], .pointer (some ⟨x, 0, none⟩), .pointer (some ⟨y, 0, none⟩)] W _
  have H := Lib.hid hg; clear hg
  have HY := Lib.hid hY; clear hY
  have H0 := Lib.hid h0; clear h0
  have HJ := Lib.hid hJ; clear hJ
  have HC := Lib.hid hc; clear hc
  have HW := Lib.hid hW; clear hW
  have HR := Lib.hid hr; clear hr
  have HS := Lib.hid hS; clear hS
  refine callsIn_of_wp Try.func164 rfl hf ?_ hro
  simp only [Try.ntmps164, List.size_toArray, List.length_cons, List.length_nil, Nat.reduceAdd, Nat.reduceSub, Array.replicate_succ, Array.replicate_zero, List.push_toArray, List.append_toArray, List.nil_append, List.cons_append]
  refine wpIn_scope_straight' ?_
  gi_wp2
  have hst : bblk (W.alloc (Obj.cells (bools (List.replicate G.nodes.length false)).toArray 4)) W.heap.size (((l.take 0).foldl setMark (List.replicate G.nodes.length false))) := heap_alloc_new W _
  have HST := Lib.hid hst; clear hst
  gi_loopw [17] (fun i wr => ∃ k : Nat, k ≤ l.length ∧ i = .int .i64 k ∧ Ch [bo] w wr ∧ bblk wr W.heap.size ((l.take k).foldl setMark (List.replicate G.nodes.length false)) ∧ J [] wr) (fun i _ => l.length - (intOf i).toNat)
  case atStart => exact ⟨0, Nat.zero_le _, rfl, (HC.out.mono (F' := [bo]) (by simp)).alloc _, HST.out, HJ.out _ _ _ H0.out (Still.alloc _)⟩
  case round =>
    obtain ⟨k, hk, rfl, hb, hm, hj⟩ := hrel
    have HB := Lib.hid hb; clear hb
    have HM := Lib.hid hm; clear hm
    have HJ1 := Lib.hid hj; clear hj
    by_cases hlt : k < l.length
    · have hxk : l[k]? = some l[k] := List.getElem?_eq_getElem hlt
      have hrk := HR.out _ (List.getElem_mem hlt)
      generalize l[k] = r at *
      obtain ⟨b, o, rfl, hcell⟩ := HS.out.cells k (r : Int) (by simp [hxk])
      have d0 : wr.cell? ⟨b, o + k, none⟩ = some (.int .i64 r) := (World.cell?_of_block (HB.out.block b (hap _ rfl).1 (by simpa using (hap _ rfl).2))).trans hcell
      have hlen : ((l.take k).foldl setMark (List.replicate G.nodes.length false)).length = G.nodes.length := by rw [foldl_mark_len]; simp
      have m0 := HM.out.cell (i := r / 2) (by rw [hlen]; omega)
      have m1 : wr.frozen? ⟨W.heap.size, r / 2, none⟩ = false := HM.out.blk.frozen
      clear hlen hcell
      gi_wp2
      go_roundw
      case rel => exact ⟨k + 1, by omega, by go_num, HB.out.setCell (.inr HW.out.size) _, by rw [foldl_take_succ hxk]; exact HM.out.set true, HJ.out _ _ _ HJ1.out (HM.out.still (Nat.le_refl _) _ _)⟩
      case measure => simp [intOf]; omega
    · have hkl : l.take k = l := List.take_of_length_le (by omega)
      have hm := HM.out
      rw [hkl] at hm
      have HM0 := Lib.hid (show bblk wr W.heap.size (met0 G.nodes.length l) from hm); clear hm HM hkl
      have hd1 : ((G.nodes.length : Int) - 1) = ((G.nodes.length - 1 : Nat) : Int) := by omega
      gi_wp2
      refine wpIn_label ?_
      gi_wp2
      clear c0 c1 c2 c3 bx1 by1 hmk
      gi_loopw [7] (fun i wr => ∃ k : Nat, k ≤ G.nodes.length ∧ i = .int .i64 ((k : Int) - 1) ∧ Ch [bo] w wr ∧ ∃ met, bblk wr W.heap.size met ∧ met.length = G.nodes.length ∧ ∃ pre, pre ++ coneFrom G.nodes k met = coneDown G.nodes l ∧ J pre wr) (fun i _ => (intOf i + 1).toNat)
      case atStart => exact ⟨G.nodes.length, Nat.le_refl _, by go_num, HB.out, _, HM0.out, met0_len _ _, [], rfl, HJ1.out⟩
      case round =>
        obtain ⟨k2, hk2, rfl, hb2, met, hm2, hml, pre, hpre, hj2⟩ := hrel
        have HB2 := Lib.hid hb2; clear hb2
        have HM2 := Lib.hid hm2; clear hm2
        have HJ2 := Lib.hid hj2; clear hj2
        have HP := Lib.hid hpre; clear hpre
        cases k2 with
        | zero =>
          gi_wp2
          rw [Exit.noGoto_normal]
          go_end0
          have hp := HP.out
          rw [show coneFrom G.nodes 0 met = [] from rfl, List.append_nil] at hp
          exact ⟨⟨_, rfl⟩, hp ▸ HJ2.out⟩
        | succ j =>
          have ej : (((j + 1 : Nat) : Int) - 1) = (j : Int) := by omega
          rw [ej]
          have hj1 : j < G.nodes.length := by omega
          have m0 := HM2.out.cell (i := j) (by omega)
          have hd2 : decide ((0 : Int) ≤ j) = true := decide_eq_true (by omega)
          cases hmj : met.getD j false
          · rw [hmj] at m0
            have hcf : coneFrom G.nodes (j + 1) met = coneFrom G.nodes j met := by
              show (if met.getD j false = true then _ else _) = _
              rw [hmj]; try rfl
            have HCF := Lib.hid hcf; clear hcf
            gi_wp2
            go_roundw
            case rel => exact ⟨j, by omega, by go_num, HB2.out, met, HM2.out, hml, pre, by rw [← HCF.out]; exact HP.out, HJ2.out⟩
            case measure => simp [intOf]; try omega
          · rw [hmj] at m0
            have hxg : G.nodes[j]? = some G.nodes[j] := List.getElem?_eq_getElem hj1
            generalize hxe : G.nodes[j] = x0 at hxg
            clear hxe
            have hcf : coneFrom G.nodes (j + 1) met = j :: coneFrom G.nodes j (stepMet G.nodes met j) := by
              show (if met.getD j false = true then _ else _) = _
              rw [hmj]; try rfl
            have hpx : pre ++ [j] <+: coneDown G.nodes l := ⟨coneFrom G.nodes j (stepMet G.nodes met j), by rw [← HP.out, hcf]; simp⟩
            have HCF := Lib.hid hcf; clear hcf
            have HPX := Lib.hid hpx; clear hpx
            have cc : ∀ (p : Addr) (v : Value), w.cell? p = some v → p.block < w.heap.size → p.block ≠ bo → wr.cell? p = some v := fun p v hv hp hq => (World.cell?_of_block (HB2.out.block p.block hp (by simpa using hq))).trans hv
            have ⟨q0, q1, q2, q3⟩ := h.c
            have c1 := cc _ _ q1 hln hgo
            have bx1 := cc _ _ bx hxl hxo
            have ⟨n0, n1, n2, n3⟩ := h.node hxg
            have hnb := h.lt.2.1
            have n0 := cc _ _ n0 hnb hno
            have n1 := cc _ _ n1 hnb hno
            have n2 := cc _ _ n2 hnb hno
            have n3 := cc _ _ n3 hnb hno
            clear q0 q1 q2 q3 cc
            have ⟨xk, xl, xr, xd⟩ := dep_bd h.ok.1 hxg hsz
            have hMl : W.heap.size < wr.heap.size := HM2.out.blk.lt
            by_cases hk3 : x0.k = 3
            · have hb3 : ((x0.k : Int) == 3) = true := beqI (by omega)
              have hoth := h.ok.1.other j x0 hxg (by
                rcases Nat.eq_zero_or_pos j with hj0 | hj0
                · subst hj0
                  rw [h.ok.1.const] at hxg; cases hxg
                  simp at hk3
                · exact hj0)
              have ⟨o0, o1, o2, o3, o4, o5⟩ := hoth.resolve_left (by rintro rfl; simp at hk3)
              clear hoth o0 o5
              have hstep : stepMet G.nodes met j = (met.set (x0.l / 2) true).set (x0.r / 2) true := by unfold stepMet; rw [hxg]; simp [hk3, setMark]
              have ml := HM2.out.cell (i := x0.l / 2) (by omega)
              have mr := HM2.out.cell (i := x0.r / 2) (by omega)
              have fl : wr.frozen? ⟨W.heap.size, x0.l / 2, none⟩ = false := HM2.out.blk.frozen
              have fr : wr.frozen? ⟨W.heap.size, x0.r / 2, none⟩ = false := HM2.out.blk.frozen
              have hmS := (HM2.out.set (i := x0.l / 2) true).set (i := x0.r / 2) true
              have hmA : bblk ((((wr.setCell ⟨W.heap.size, x0.l / 2, none⟩ (.bool true)).setCell ⟨W.heap.size, x0.r / 2, none⟩ (.bool true)).alloc (.cells #[.int .u8 x0.k, .int .i64 x0.l, .int .i64 x0.r, .int .i64 x0.d] 181)).drew) W.heap.size ((met.set (x0.l / 2) true).set (x0.r / 2) true) := (Below.heap_alloc _ _ _ hmS.blk.lt).trans hmS
              have hst : Still 4 W.heap.size wr ((((wr.setCell ⟨W.heap.size, x0.l / 2, none⟩ (.bool true)).setCell ⟨W.heap.size, x0.r / 2, none⟩ (.bool true)).alloc (.cells #[.int .u8 x0.k, .int .i64 x0.l, .int .i64 x0.r, .int .i64 x0.d] 181)).drew) := (((HM2.out.still (Nat.le_refl _) _ _).trans ((HM2.out.set (i := x0.l / 2) true).still (Nat.le_refl _) _ _)).trans (Still.alloc _)).drew
              obtain ⟨fn, tmps, assign, body, hy, hR⟩ := HY.out pre j _ (HJ.out _ _ _ HJ2.out hst) HPX.out
              have HMS := Lib.hid hmA; clear hmS hmA
              have HSTL := Lib.hid hst; clear hst
              have HX3 := Lib.hid hk3; clear hk3
              have o3' : ¬ x0.r / 2 = x0.l / 2 := fun e => o3 e.symm
              gi_wp2
              refine Ord.St.doorIn (fun w' => w'.cell? ⟨wr.heap.size, 2, none⟩ = some (.int .i64 x0.r)) [.fl, .fl, .fl, .rd, .fl, .fl, .fl, .fl, .ho, .fl, .fl, .ef, .fl, .ef] [0, 0, 2, 6, 14, 0, 0, 64, 192, 448, 31, 1055, 4095, 8191] [0, 1, 2, 3, 4, 5, 6, 7, 8, 9, 10, 11, 12, 13] mixed (by kernel_rfl) (by kernel_rfl) rfl ?_
              refine Ord.St.fl2 (T' := ?_) 0 [1, 2, 3, 4, 5, 6, 7, 8, 9, 10, 11, 12, 13] _ _ rfl (by kernel_rfl) rfl rfl rfl rfl (fun K w' hk => ?_) ?_
              rotate_left
              · go_step; exact hk
              refine Ord.St.fl2 (T' := ?_) 1 [2, 3, 4, 5, 6, 7, 8, 9, 10, 11, 12, 13] _ _ rfl (by kernel_rfl) rfl rfl rfl rfl (fun K w' hk => ?_) ?_
              rotate_left
              · go_step; exact hk
              refine Ord.St.fl2 (T' := ?_) 2 [3, 4, 5, 6, 7, 8, 9, 10, 11, 12, 13] _ _ rfl (by kernel_rfl) rfl rfl rfl rfl (fun K w' hk => ?_) ?_
              rotate_left
              · go_step; exact hk
              refine Ord.St.rd2 (T' := ?_) 3 [4, 5, 6, 7, 8, 9, 10, 11, 12, 13] _ _ rfl (by kernel_rfl) rfl rfl rfl rfl (fun K hk => ?_) ?_
              rotate_left
              · go_step; exact hk
              refine Ord.St.fl2 (T' := ?_) 4 [5, 6, 7, 8, 9, 10, 11, 12, 13] _ _ rfl (by kernel_rfl) rfl rfl rfl rfl (fun K w' hk => ?_) ?_
              rotate_left
              · go_step; exact hk
              refine Ord.St.fl2 (T' := ?_) 5 [6, 7, 8, 9, 10, 11, 12, 13] _ _ rfl (by kernel_rfl) rfl rfl rfl rfl (fun K w' hk => ?_) ?_
              rotate_left
              · go_step; exact hk
              refine Ord.St.fl2 (T' := ?_) 6 [7, 8, 9, 10, 11, 12, 13] _ _ rfl (by kernel_rfl) rfl rfl rfl rfl (fun K w' hk => ?_) ?_
              rotate_left
              · go_step; exact hk
              refine Ord.St.fl2 (T' := ?_) 7 [8, 9, 10, 11, 12, 13] _ _ rfl (by kernel_rfl) rfl rfl rfl rfl (fun K w' hk => ?_) ?_
              rotate_left
              · go_step; exact hk
              refine Ord.St.ho2 (T' := ?_) 8 [9, 10, 11, 12, 13] _ _ rfl (by kernel_rfl) rfl rfl rfl rfl ?_ (fun K w' hw' hk => ?_) ?_
              rotate_left
              · (go_simp)
              · skip; go_step; exact hk
              refine Ord.St.fl2 (T' := ?_) 9 [10, 11, 12, 13] _ _ rfl (by kernel_rfl) rfl rfl rfl rfl (fun K w' hk => ?_) ?_
              rotate_left
              · go_step; exact hk
              refine Ord.St.fl2 (T' := ?_) 10 [11, 12, 13] _ _ rfl (by kernel_rfl) rfl rfl rfl rfl (fun K w' hk => ?_) ?_
              rotate_left
              · go_step; exact hk
              refine Ord.St.efC 11 [12, 13] _ rfl (by kernel_rfl) (fun K hK => ?_)
              go_wp2_with fail
              refine ⟨rfl, hK _ _ ?_ ?_⟩
              · (go_simp)
              clear hK K
              refine Ord.St.fl2 (T' := ?_) 12 [13] _ _ rfl (by kernel_rfl) rfl rfl rfl rfl (fun K w' hk => ?_) ?_
              rotate_left
              · go_step; exact hk
              refine Ord.St.ef 13 [] _ rfl (by kernel_rfl) (fun K hK => ?_)
              go_wp2_with fail
              refine ⟨rfl, hK _ _ ?_⟩; clear hK K
              refine Ord.St.nil ?_
              gi_wp2
              refine hR.mono ?_
              rintro e W2 ⟨rfl, hJ', hk⟩
              have HJ3 := Lib.hid hJ'; clear hJ'
              have HK := Lib.hid hk; clear hk
              gi_wp2
              go_roundw
              case rel => exact ⟨j, by omega, by go_num, Ch.kb ((((HB2.out.setCell (.inr HW.out.size) _).setCell (.inr HW.out.size) _).alloc _).drew) HK.out, _, bblk.kb HMS.out HK.out, by simp [hml], pre ++ [j], by rw [← HP.out, HCF.out, hstep]; simp, HJ3.out⟩
              case measure => simp [intOf]; try omega
            · have hb3 : ((x0.k : Int) == 3) = false := beqN (by omega)
              have hstep : stepMet G.nodes met j = met := by unfold stepMet; rw [hxg]; simp [hk3]
              obtain ⟨fn, tmps, assign, body, hy, hR⟩ := HY.out pre j (wr.alloc (.cells #[.int .u8 x0.k, .int .i64 x0.l, .int .i64 x0.r, .int .i64 x0.d] 181)) (HJ.out _ _ _ HJ2.out (Still.alloc _)) HPX.out
              have hmA : bblk (wr.alloc (.cells #[.int .u8 x0.k, .int .i64 x0.l, .int .i64 x0.r, .int .i64 x0.d] 181)) W.heap.size met := (Below.heap_alloc wr _ _ hMl).trans HM2.out
              have HMA := Lib.hid hmA; clear hmA
              gi_wp2
              refine hR.mono ?_
              rintro e W2 ⟨rfl, hJ', hk⟩
              have HJ3 := Lib.hid hJ'; clear hJ'
              have HK := Lib.hid hk; clear hk
              gi_wp2
              go_roundw
              case rel => exact ⟨j, by omega, by go_num, Ch.kb (HB2.out.alloc _) HK.out, met, HMA.out.kb HK.out, hml, pre ++ [j], by rw [← HP.out, HCF.out, hstep]; simp, HJ3.out⟩
              case measure => simp [intOf]; try omega
end
end Go.Proofs.Ytkedpifopclipaa
namespace Go.Proofs.Ytkedpifopclipaa
open Go.RowKit Go.Mem Go.Aig
theorem fnvCone1 : Fnv 85 := fnv_of Try.func85 (by simp [Try.f85]) (by simp [Try.f85])
section
variable {w : World} {g : Nat} {G : Gra} {nb ncap : Nat} {iv : Value} {mb : Nat}
set_option maxRecDepth 100000 in
set_option maxHeartbeats 1000000 in
theorem Cone1_is (h : GM w g G nb ncap iv mb) {bx : Nat} (hb : w.cell? ⟨bx, 0, none⟩ = some (.pointer (some ⟨g, 0, none⟩))) (r : Int) (hr : r ≤ 9223372036854775807) :
    Calls Try.prog 85 (#[.int .i64 r] ++ #[.pointer (some ⟨bx, 0, none⟩)]) w fun e w' => e = .returned (.bool (!right G.nodes r)) ∧ w = w' := by
  show Calls Try.prog 85 #[.int .i64 r, .pointer (some ⟨bx, 0, none⟩)] w _
  have HR := Right_is h r hr
  clear h
  generalize right G.nodes r = q at *
  go_enter Try.func85, Try.ntmps85
  go_wp2_with fail
  refine HR.mono ?_
  rintro e w' ⟨rfl, rfl⟩
  go_wp2_with fail
  go_ret
  exact ⟨ret_bool rfl, rfl⟩
set_option maxRecDepth 100000 in
set_option maxHeartbeats 1000000 in
theorem cone_is (g : Nat) (a : Option Addr) (n cap : Nat) :
    Calls Try.prog 87 #[.pointer (some ⟨g, 0, none⟩), .slice a n cap] w fun e w' => e = .returned (.func (.func 164) #[] #[.pointer (some ⟨w.heap.size, 0, none⟩), .pointer (some ⟨w.heap.size + 1, 0, none⟩)]) ∧ w' = (w.alloc (.cells #[.pointer (some ⟨g, 0, none⟩)] 27)).alloc (.cells #[.slice a n cap] 28) := by
  go_enter Try.func87, Try.ntmps87
  go_wp2_with fail
  go_ret
  exact ⟨rfl, rfl⟩
end
end Go.Proofs.Ytkedpifopclipaa
namespace Go.Proofs.Ytkedpifopclipaa
open Go.RowKit Go.Mem Go.Aig
/-- after i swaps -/
def swapped (l : List Nat) (i : Nat) (L : List Nat) : Prop := L.length = l.length ∧ ∀ p, p < l.length → L[p]? = if p < i ∨ l.length - i ≤ p then l[l.length - 1 - p]? else l[p]?
theorem swapped_zero (l : List Nat) : swapped l 0 l := ⟨rfl, fun p hp => by rw [if_neg (by omega)]⟩
theorem swapped_done {l L : List Nat} {i : Nat} (h : swapped l i L) (hi : l.length ≤ 2 * i + 1) : L = l.reverse := by
  apply List.ext_getElem?
  intro p
  by_cases hp : p < l.length
  · rw [h.2 p hp, List.getElem?_reverse hp]
    split
    · rfl
    · have : l.length - 1 - p = p := by omega
      rw [this]
  · rw [List.getElem?_eq_none (by rw [h.1]; omega), List.getElem?_eq_none (by simp; omega)]
theorem swapped_step {l L : List Nat} {i x y : Nat} (h : swapped l i L) (hi : 2 * i + 1 < l.length) (hx : L[i]? = some x) (hy : L[l.length - 1 - i]? = some y) :
    swapped l (i + 1) ((L.set i y).set (l.length - 1 - i) x) := by
  refine ⟨by simp [h.1], fun p hp => ?_⟩
  have e1 := h.2 i (by omega)
  rw [if_neg (by omega), hx] at e1
  have e2 := h.2 (l.length - 1 - i) (by omega)
  rw [if_neg (by omega), hy] at e2
  by_cases h1 : p = l.length - 1 - i
  · subst h1
    rw [List.getElem?_set_self (by simp [h.1]; omega), if_pos (by omega)]
    rw [show l.length - 1 - (l.length - 1 - i) = i from by omega]; exact e1
  · rw [List.getElem?_set_ne (by omega)]
    by_cases h2 : p = i
    · subst h2
      rw [List.getElem?_set_self (by rw [h.1]; omega), if_pos (by omega)]; exact e2
    · rw [List.getElem?_set_ne (by omega), h.2 p hp]
      by_cases h3 : p < i ∨ l.length - i ≤ p
      · rw [if_pos h3, if_pos (by omega)]
      · rw [if_neg h3, if_neg (by omega)]
section
variable {w : World}
theorem row.set {e : TypeId} {b n cap i : Nat} {xs : List Value} (h : row w e 1 (.slice (some ⟨b, 0, none⟩) n cap) n xs) (v : Value) : row (w.setCell ⟨b, i, none⟩ v) e 1 (.slice (some ⟨b, 0, none⟩) n cap) n (xs.set i v) := by
  refine ⟨by rw [List.length_set]; exact h.1, ?_⟩
  rcases h.2 with ⟨e1, _⟩ | ⟨g, cap', cur, e1, h0, hg, hle, hm, hs, ht⟩
  · cases e1
  · cases e1
    refine .inr ⟨b, cap, cur.setIfInBounds i v, rfl, h0, ?_, hle, hm, by simpa using hs, ?_⟩
    · simp only [World.setCell, Array.getElem?_modify]
      rw [if_pos trivial, hg]
      simp
    · rw [Array.toList_setIfInBounds, List.take_set, ht]
set_option maxRecDepth 100000 in
set_option maxHeartbeats 1000000 in
theorem Rev_some {b n cap : Nat} {l : List Nat} (h : row w 3 1 (.slice (some ⟨b, 0, none⟩) n cap) n (refsCells l)) (hn : n ≤ 1000000) :
    Calls Try.prog 88 #[.slice (some ⟨b, 0, none⟩) n cap] w fun e w' => (∃ v, e = .returned v) ∧ row w' 3 1 (.slice (some ⟨b, 0, none⟩) n cap) n (refsCells l.reverse) ∧ Ch [b] w w' := by
  have hl : l.length = n := by have := h.1; simpa [refsCells] using this
  have H := Lib.hid h; clear h
  go_enter Try.func88, Try.ntmps88
  go_wp2_with fail
  go_loopw [2, 3] (fun i j wr => ∃ k : Nat, 2 * k ≤ n + 1 ∧ i = .int .i64 k ∧ j = .int .i64 ((n : Int) - 1 - k) ∧ (∃ L, swapped l k L ∧ row wr 3 1 (.slice (some ⟨b, 0, none⟩) n cap) n (refsCells L)) ∧ Ch [b] w wr) (fun i _ _ => n - (intOf i).toNat)
  case atStart => exact ⟨0, by omega, rfl, by go_num, ⟨l, swapped_zero l, H.out⟩, Ch.refl _ _⟩
  case round =>
    obtain ⟨k, hk, rfl, rfl, ⟨L, hL, hrow⟩, hc⟩ := hrel
    have HL := Lib.hid hL; clear hL
    have HR := Lib.hid hrow; clear hrow
    have HC := Lib.hid hc; clear hc
    by_cases hlt : 2 * k + 1 < n
    · have ej : (n : Int) - 1 - k = ((n - 1 - k : Nat) : Int) := by omega
      rw [ej]
      have hLl : L.length = n := by rw [HL.out.1, hl]
      have hx : L[k]? = some L[k] := List.getElem?_eq_getElem (by omega)
      have hy : L[n - 1 - k]? = some L[n - 1 - k] := List.getElem?_eq_getElem (by omega)
      generalize L[k] = x at hx
      generalize L[n - 1 - k] = y at hy
      have c1 : wr.cell? ⟨b, k, none⟩ = some (.int .i64 x) := by
        have := HR.out.cells (g := b) rfl k (.int .i64 x) (by simp [refsCells, hx])
        rw [Addr.add_lit] at this; simpa using this
      have c2 : wr.cell? ⟨b, n - 1 - k, none⟩ = some (.int .i64 y) := by
        have := HR.out.cells (g := b) rfl (n - 1 - k) (.int .i64 y) (by simp [refsCells, hy])
        rw [Addr.add_lit] at this; simpa using this
      have f0 : ∀ i, wr.frozen? ⟨b, i, none⟩ = false := fun i => by
        rcases HR.out.2 with ⟨e1, _⟩ | ⟨g, cap', cur, e1, h0, hg, _⟩
        · cases e1
        · cases e1; simp [World.frozen?, hg]
      have f1 := f0 k
      have f2 := f0 (n - 1 - k)
      have hne : ¬ n - 1 - k = k := by omega
      have hne' : ¬ k = n - 1 - k := by omega
      have hd : decide ((k : Int) < ((n - 1 - k : Nat) : Int)) = true := decide_eq_true (by omega)
      have hst := swapped_step HL.out (by omega) hx (by rw [hl]; exact hy)
      have HST := Lib.hid hst; clear hst
      clear f0
      go_wp2_with fail
      refine Ord.St.door (fun _ => True) [.fl, .fl, .fl, .fl, .fl, .fl, .fl, .rd, .fl, .fl, .fl, .rd, .fl, .ef, .fl, .ef] [0, 0, 0, 0, 0, 0, 48, 112, 0, 0, 768, 1792, 4083, 8179, 16383, 32767] [0, 1, 2, 3, 4, 5, 6, 7, 8, 9, 10, 11, 12, 13, 14, 15] mixed (by kernel_rfl) rfl ?_
      refine Ord.St.fl2 (T' := ?_) 0 [1, 2, 3, 4, 5, 6, 7, 8, 9, 10, 11, 12, 13, 14, 15] _ _ rfl (by kernel_rfl) rfl rfl rfl rfl (fun K w' hk => ?_) ?_
      rotate_left
      · go_step; exact hk
      refine Ord.St.fl2 (T' := ?_) 1 [2, 3, 4, 5, 6, 7, 8, 9, 10, 11, 12, 13, 14, 15] _ _ rfl (by kernel_rfl) rfl rfl rfl rfl (fun K w' hk => ?_) ?_
      rotate_left
      · go_step; exact hk
      refine Ord.St.fl2 (T' := ?_) 2 [3, 4, 5, 6, 7, 8, 9, 10, 11, 12, 13, 14, 15] _ _ rfl (by kernel_rfl) rfl rfl rfl rfl (fun K w' hk => ?_) ?_
      rotate_left
      · go_step; exact hk
      refine Ord.St.fl2 (T' := ?_) 3 [4, 5, 6, 7, 8, 9, 10, 11, 12, 13, 14, 15] _ _ rfl (by kernel_rfl) rfl rfl rfl rfl (fun K w' hk => ?_) ?_
      rotate_left
      · go_step; exact hk
      refine Ord.St.fl2 (T' := ?_) 4 [5, 6, 7, 8, 9, 10, 11, 12, 13, 14, 15] _ _ rfl (by kernel_rfl) rfl rfl rfl rfl (fun K w' hk => ?_) ?_
      rotate_left
      · go_step; exact hk
      refine Ord.St.fl2 (T' := ?_) 5 [6, 7, 8, 9, 10, 11, 12, 13, 14, 15] _ _ rfl (by kernel_rfl) rfl rfl rfl rfl (fun K w' hk => ?_) ?_
      rotate_left
      · go_step; exact hk
      refine Ord.St.fl2 (T' := ?_) 6 [7, 8, 9, 10, 11, 12, 13, 14, 15] _ _ rfl (by kernel_rfl) rfl rfl rfl rfl (fun K w' hk => ?_) ?_
      rotate_left
      · go_step; exact hk
      refine Ord.St.rd2 (T' := ?_) 7 [8, 9, 10, 11, 12, 13, 14, 15] _ _ rfl (by kernel_rfl) rfl rfl rfl rfl (fun K hk => ?_) ?_
      rotate_left
      · go_step; exact hk
      refine Ord.St.fl2 (T' := ?_) 8 [9, 10, 11, 12, 13, 14, 15] _ _ rfl (by kernel_rfl) rfl rfl rfl rfl (fun K w' hk => ?_) ?_
      rotate_left
      · go_step; exact hk
      refine Ord.St.fl2 (T' := ?_) 9 [10, 11, 12, 13, 14, 15] _ _ rfl (by kernel_rfl) rfl rfl rfl rfl (fun K w' hk => ?_) ?_
      rotate_left
      · go_step; exact hk
      refine Ord.St.fl2 (T' := ?_) 10 [11, 12, 13, 14, 15] _ _ rfl (by kernel_rfl) rfl rfl rfl rfl (fun K w' hk => ?_) ?_
      rotate_left
      · go_step; exact hk
      refine Ord.St.rd2 (T' := ?_) 11 [12, 13, 14, 15] _ _ rfl (by kernel_rfl) rfl rfl rfl rfl (fun K hk => ?_) ?_
      rotate_left
      · go_step; exact hk
      refine Ord.St.fl2 (T' := ?_) 12 [13, 14, 15] _ _ rfl (by kernel_rfl) rfl rfl rfl rfl (fun K w' hk => ?_) ?_
      rotate_left
      · go_step; exact hk
      refine Ord.St.ef 13 [14, 15] _ rfl (by kernel_rfl) (fun K hK => ?_)
      go_wp2_with fail
      refine ⟨rfl, hK _ _ ?_⟩; clear hK K
      refine Ord.St.fl2 (T' := ?_) 14 [15] _ _ rfl (by kernel_rfl) rfl rfl rfl rfl (fun K w' hk => ?_) ?_
      rotate_left
      · go_step; exact hk
      refine Ord.St.ef 15 [] _ rfl (by kernel_rfl) (fun K hK => ?_)
      go_wp2_with fail
      refine ⟨rfl, hK _ _ ?_⟩; clear hK K
      refine Ord.St.nil ?_
      go_wp2_with fail
      go_roundw
      case rel =>
        refine ⟨k + 1, by omega, by go_num, by go_num, ⟨_, HST.out, ?_⟩, ((HC.out.setCell (by simp) _).setCell (by simp) _).drew⟩
        rw [hl]
        have := row.set (i := n - 1 - k) (row.set (i := k) HR.out (.int .i64 y)) (.int .i64 x)
        simp only [refsCells, List.map_set] at this ⊢
        exact this
      case measure => simp [intOf]; omega
    · have hd : decide ((k : Int) < (n : Int) - 1 - k) = false := decide_eq_false (by omega)
      go_wp2_with fail
      go_end0
      rw [← swapped_done HL.out (by omega)]
      exact ⟨⟨_, rfl⟩, HR.out, HC.out⟩
set_option maxRecDepth 100000 in
set_option maxHeartbeats 1000000 in
theorem Rev_nil : Calls Try.prog 88 #[.slice none 0 0] w fun e w' => (∃ v, e = .returned v) ∧ w = w' := by
  go_enter Try.func88, Try.ntmps88
  go_wp2_with fail
  refine wp_loop_rounds 1 ?_
  rw [rounds_succ]
  go_wp2_with fail
  go_end0
  exact ⟨⟨_, rfl⟩, rfl⟩
theorem Rev_is {v : Value} {n : Nat} {l : List Nat} (h : row w 3 1 v n (refsCells l)) (hn : n ≤ 1000000) :
    Calls Try.prog 88 #[v] w fun e w' => (∃ v, e = .returned v) ∧ row w' 3 1 v n (refsCells l.reverse) ∧ Ch v.ownBlock.toList w w' := by
  rcases h.2 with ⟨rfl, rfl⟩ | ⟨g, cap, cur, rfl, _⟩
  · refine Rev_nil.mono ?_
    rintro e w' ⟨he, rfl⟩
    have h1 : l = [] := by have := h.1; simpa [refsCells] using this
    subst h1
    exact ⟨he, h, Ch.refl _ _⟩
  · refine (Rev_some h hn).mono ?_
    rintro e w' ⟨he, hr, hc⟩
    exact ⟨he, hr, by simpa using hc⟩
end
end Go.Proofs.Ytkedpifopclipaa
namespace Go.Proofs.Ytkedpifopclipaa
open Go.RowKit Go.Mem Go.Aig
section
variable {w : World} {g : Nat} {G : Gra} {nb ncap : Nat} {iv : Value} {mb : Nat}
set_option maxRecDepth 100000 in
set_option maxHeartbeats 2000000 in
theorem Cone_no (h : GM w g G nb ncap iv mb) {a : Option Addr} {l : List Int} (cap : Nat) (hl : Sl w a l) (hlb : ∀ x ∈ l, x ≤ 9223372036854775807) (halt : ∀ p, a = some p → p.block < w.heap.size)
    (hany : (l.any fun x => !right G.nodes x) = true) :
    Calls Try.prog 18 #[.pointer (some ⟨g, 0, none⟩), .slice a l.length cap] w fun e w' => e = .returned (.tuple #[.slice none 0 0, .int .i64 200]) ∧ Ch [] w w' := by
  have hW1 : Ch [] w (w.alloc (.cells #[.pointer (some ⟨g, 0, none⟩)] 27)) := (Ch.refl _ _).alloc _
  have H1 := h.ch hW1 (by simp)
  have b1 : (w.alloc (.cells #[.pointer (some ⟨g, 0, none⟩)] 27)).cell? ⟨w.heap.size, 0, none⟩ = some (.pointer (some ⟨g, 0, none⟩)) := by go_simp
  have HN := none_no H1
  have hl1 : Sl (w.alloc (.cells #[.pointer (some ⟨g, 0, none⟩)] 27)) a l := ⟨fun i x hx => by
    obtain ⟨b, o, hao, hc⟩ := hl.cells i x hx
    exact ⟨b, o, hao, (hW1.cell (p := ⟨b, o + i, none⟩) (halt ⟨b, o, none⟩ hao) (by simp)).trans hc⟩, hl.bd⟩
  have HC := CFref_is cap 85 #[.pointer (some ⟨w.heap.size, 0, none⟩)] (fun x => !right G.nodes x) hl1 (fun x hx => Cone1_is H1 b1 x (hlb x hx)) fnvCone1
  rw [hany] at HC
  have HH1 := Lib.hid H1; clear H1
  clear hl1 b1 hl h hany
  have HW1 := Lib.hid hW1; clear hW1
  go_enter Try.func18, Try.ntmps18
  go_wp2_with fail
  refine HN.mono ?_
  rintro e w' ⟨rfl, rfl⟩
  go_wp2_with fail
  refine HC.mono ?_
  rintro e w' ⟨rfl, rfl⟩
  go_wp2_with fail
  go_ret2
  exact ⟨rfl, HW1.out⟩
end
end Go.Proofs.Ytkedpifopclipaa
namespace Go.Proofs.Ytkedpifopclipaa
open Go.RowKit Go.Mem Go.Aig Go.Shelf
attribute [local go_sem] Oper.semAt_some
theorem fnvcone1 : Fnv 164 := fnv_of Try.func164 (by simp [Try.f164]) (by simp [Try.f164])
theorem infoInt : (Try.prog.info? 3).map (fun i => (i.zero, i.size, i.bytes)) = some (some (.int .i64 0), 1, 8) := by kernel_rfl
section
variable {w : World} {g : Nat} {G : Gra} {nb ncap : Nat} {iv : Value} {mb : Nat}
set_option maxRecDepth 100000 in
set_option maxHeartbeats 2000000 in
theorem Cone_yes (h : GM w g G nb ncap iv mb) {a : Option Addr} {l : List Nat} (cap : Nat) (hl : Sl w a (l.map fun (r : Nat) => (r : Int))) (halt : ∀ p, a = some p → p.block < w.heap.size)
    (hr : ∀ r ∈ l, r < 2 * G.nodes.length) :
    Calls Try.prog 18 #[.pointer (some ⟨g, 0, none⟩), .slice a l.length cap] w fun e w' => ∃ v, e = .returned (.tuple #[v, .int .i64 0]) ∧ row w' 3 1 v (cone G.nodes l).length (refsCells (cone G.nodes l)) ∧ (∀ k, v.ownBlock = some k → w.heap.size ≤ k) ∧ Ch [] w w' := by
  have hW1 : Ch [] w (w.alloc (.cells #[.pointer (some ⟨g, 0, none⟩)] 27)) := (Ch.refl _ _).alloc _
  have H1 := h.ch hW1 (by simp)
  have b1 : (w.alloc (.cells #[.pointer (some ⟨g, 0, none⟩)] 27)).cell? ⟨w.heap.size, 0, none⟩ = some (.pointer (some ⟨g, 0, none⟩)) := by go_simp
  have HN := none_no H1
  have hsz : G.nodes.length ≤ 65536 := by have := h.ok.room; have := h.ok.most; omega
  have hl1 : Sl (w.alloc (.cells #[.pointer (some ⟨g, 0, none⟩)] 27)) a (l.map fun (r : Nat) => (r : Int)) := ⟨fun i x hx => by
    obtain ⟨b, o, hao, hc⟩ := hl.cells i x hx
    exact ⟨b, o, hao, (hW1.cell (p := ⟨b, o + i, none⟩) (halt ⟨b, o, none⟩ hao) (by simp)).trans hc⟩, hl.bd⟩
  have hright : ((l.map fun (r : Nat) => (r : Int)).any fun x => !right G.nodes x) = false := by
    simp [right]
    intro x hx
    have := hr x hx; omega
  have HC := CFref_is cap 85 #[.pointer (some ⟨w.heap.size, 0, none⟩)] (fun x => !right G.nodes x) hl1 (fun x hx => Cone1_is H1 b1 x (by
    obtain ⟨r, hm, rfl⟩ := List.mem_map.1 hx
    have := hr r hm; omega) ) fnvCone1
  rw [hright, List.length_map] at HC
  have HCO := fun W => cone_is (w := W) g a l.length cap
  refine (callsIn_wide (n := 4)).1 ?_
  refine callsIn_of_wp_marks Try.func18 rfl trivial ?_ rfl
  simp only [Try.ntmps18, List.size_toArray, List.length_cons, List.length_nil, Nat.reduceAdd, Nat.reduceSub, Array.replicate_succ, Array.replicate_zero, List.push_toArray, List.append_toArray, List.nil_append, List.cons_append]
  refine wpIn_wide.2 ?_
  go_wp2_with fail
  refine HN.mono ?_
  rintro e w' ⟨rfl, rfl⟩
  go_wp2_with fail
  refine HC.mono ?_
  rintro e w' ⟨rfl, rfl⟩
  go_wp2_with fail
  refine (HCO _).mono ?_
  rintro e w' ⟨rfl, rfl⟩
  go_wp2_with fail
  have hzw : ((((w.alloc (.cells #[.pointer (some ⟨g, 0, none⟩)] 27)).alloc (.cells #[.slice none 0 0] 23)).alloc (.cells #[.pointer (some ⟨g, 0, none⟩)] 27)).alloc (.cells #[.slice a l.length cap] 28)).heap.size = w.heap.size + 4 := by simp
  have hc0 : Ch [] w ((((w.alloc (.cells #[.pointer (some ⟨g, 0, none⟩)] 27)).alloc (.cells #[.slice none 0 0] 23)).alloc (.cells #[.pointer (some ⟨g, 0, none⟩)] 27)).alloc (.cells #[.slice a l.length cap] 28)) := ((((Ch.refl _ _).alloc _).alloc _).alloc _).alloc _
  have hx0 : ((((w.alloc (.cells #[.pointer (some ⟨g, 0, none⟩)] 27)).alloc (.cells #[.slice none 0 0] 23)).alloc (.cells #[.pointer (some ⟨g, 0, none⟩)] 27)).alloc (.cells #[.slice a l.length cap] 28)).cell? ⟨w.heap.size + 2, 0, none⟩ = some (.pointer (some ⟨g, 0, none⟩)) := by go_simp
  have hy0 : ((((w.alloc (.cells #[.pointer (some ⟨g, 0, none⟩)] 27)).alloc (.cells #[.slice none 0 0] 23)).alloc (.cells #[.pointer (some ⟨g, 0, none⟩)] 27)).alloc (.cells #[.slice a l.length cap] 28)).cell? ⟨w.heap.size + 3, 0, none⟩ = some (.slice a l.length cap) := by go_simp
  have hbx0 : Boxed ((((w.alloc (.cells #[.pointer (some ⟨g, 0, none⟩)] 27)).alloc (.cells #[.slice none 0 0] 23)).alloc (.cells #[.pointer (some ⟨g, 0, none⟩)] 27)).alloc (.cells #[.slice a l.length cap] 28)) (w.heap.size + 1) 23 (.slice none 0 0) := by
    refine Boxed.alloc (Boxed.alloc ?_ _) _
    have := Boxed.new (w.alloc (.cells #[.pointer (some ⟨g, 0, none⟩)] 27)) 23 (.slice none 0 0)
    simpa using this
  have hl2 : Sl ((((w.alloc (.cells #[.pointer (some ⟨g, 0, none⟩)] 27)).alloc (.cells #[.slice none 0 0] 23)).alloc (.cells #[.pointer (some ⟨g, 0, none⟩)] 27)).alloc (.cells #[.slice a l.length cap] 28)) a (l.map fun (r : Nat) => (r : Int)) := ⟨fun i x hx => by
    obtain ⟨b, o, hao, hc⟩ := hl.cells i x hx
    exact ⟨b, o, hao, (hc0.cell (p := ⟨b, o + i, none⟩) (halt ⟨b, o, none⟩ hao) (by simp)).trans hc⟩, hl.bd⟩
  have hg0 := h.ch hc0 (by simp)
  have hlt := h.lt
  clear hl1 HN HC HCO hl b1 hW1
  generalize hW0 : (((w.alloc (.cells #[.pointer (some ⟨g, 0, none⟩)] 27)).alloc (.cells #[.slice none 0 0] 23)).alloc (.cells #[.pointer (some ⟨g, 0, none⟩)] 27)).alloc (.cells #[.slice a l.length cap] 28) = W0 at *
  clear hW0
  have hst := cone1_stops (w.heap.size + 1) Fence.wide 3 trivial rfl (by omega) hg0 hx0 (by omega) cap hy0 (by omega) hl2 (fun p hp => by have := halt p hp; exact ⟨by omega, by omega⟩) hr (by omega) (by omega) (by omega)
  refine (wpIn_wide (n := 4)).1 ?_
  have hli := coneFrom_len G.nodes G.nodes.length (met0 G.nodes.length l)
  refine wpIn_rangeFunc_B (n := 4) rfl (by omega) rfl trivial (fun args w => fnvcone1 args w) hst Kb.trans ?kb (Below.refl _ _) (fun _ => rfl)
    (fun pre W => (∃ v, Boxed W (w.heap.size + 1) 23 v ∧ W.ownsRow (w.heap.size + 4) 3 1 v pre.length (refsCells pre)) ∧ Ch [] w W ∧ W0.heap.size ≤ W.heap.size) ?hi ?h0
    (fun k => { tmps := #[.pointer (some ⟨g, 0, none⟩), .slice a l.length cap, .pointer (some ⟨w.heap.size, 0, none⟩), undef, .slice none 0 0, .int .i64 0, .pointer (some ⟨w.heap.size + 1, 0, none⟩), .int .i64 k, .bool false, .pointer (some ⟨g, 0, none⟩), .bool false, .bool false, .slice a l.length cap, .func (.func 85) #[] #[.pointer (some ⟨w.heap.size, 0, none⟩)], .bool false, .pointer (some ⟨g, 0, none⟩), .slice a l.length cap, .func (.func 164) #[] #[.pointer (some ⟨w.heap.size + 1 + 1, 0, none⟩), .pointer (some ⟨w.heap.size + 1 + 1 + 1, 0, none⟩)], .int .i64 k, undef, undef, undef, undef, undef, undef, undef], defers := [] }) ?assign ?body ?done
  case kb =>
    intro W q o o' hq ho hoc
    refine ⟨rfl, rfl, rfl, by simp, fun k hk _ => World.putObj_heap_other (by omega), fun b xs hb => ?_⟩
    by_cases hbq : b = q
    · subst hbq; rw [ho] at hb; cases hb; cases hoc
    · exact (World.putObj_heap_other hbq).trans hb
  case hi =>
    rintro pre A B ⟨⟨v, hv, hrow⟩, hc, hz⟩ hs
    refine ⟨⟨v, hs.keep _ _ hv (.inr ⟨_, _, _, rfl, by decide⟩), hrow.1, ?_⟩, ⟨hs.os.trans hc.os, hs.tape.trans hc.tape, hs.output.trans hc.output, Nat.le_trans hc.size hs.size, fun k hk hkn => ?_⟩, Nat.le_trans hz hs.size⟩
    · rcases hrow.2 with e1 | ⟨g2, cap', cur, e1, h0, hg2, rest⟩
      · exact .inl e1
      · exact .inr ⟨g2, cap', cur, e1, h0, hs.keep _ _ hg2 (.inr ⟨_, _, _, rfl, by decide⟩), rest⟩
    · have hkA := hc.block k hk hkn
      have hk2 : k < A.heap.size := Nat.lt_of_lt_of_le hk hc.size
      rw [← hkA]
      rw [Array.getElem?_eq_getElem hk2]
      exact hs.keep k _ (Array.getElem?_eq_getElem hk2) (.inl (by omega))
  case h0 => exact ⟨⟨_, hbx0, rfl, .inl ⟨rfl, rfl⟩⟩, hc0, Nat.le_refl _⟩
  case assign =>
    intro q x W K hK
    gi_wp2
    exact hK
  case body =>
    rintro q pre x W ⟨⟨v, hv, hrow⟩, hc, hWl⟩ hpx
    have hxl : pre.length + 1 ≤ 65536 := by
      have := hpx.length_le
      unfold coneDown at this
      simp at this
      omega
    have hvc := hv.cell
    obtain ⟨i0, hi, hz0, hz1, hz2⟩ := info_parts infoInt
    have hrowA : (W.alloc (.cells #[.int .i64 x] 3)).ownsRow (w.heap.size + 4) 3 1 v pre.length (refsCells pre) := hrow.alloc _
    have HV := Lib.hid hv; clear hv
    have HROW := Lib.hid hrow; clear hrow
    have HC := Lib.hid hc; clear hc
    have HROWA := Lib.hid hrowA; clear hrowA
    have hWz : w.heap.size + 4 ≤ W.heap.size := by omega
    have HZ := Lib.hid hzw; clear hzw
    have HC0 := Lib.hid hc0; clear hc0
    clear hx0 hy0 hbx0 hl2 hg0 hst hright H1
    gi_wp2_with (gi_at_builtin; go_loud (refine wpListIn_append_own _ rfl _ _ _ rfl (w.heap.size + 4) 3 i0 (.int .i64 0) 1 8 Try.underlying23 hi hz0 hz1 hz2 rfl (by decide) v pre.length (refsCells pre) rfl HROWA.out ⟨W.heap.size, 0, none⟩ 1 1 [.int .i64 x] rfl rfl (news_blk (blk.new' _ _ rfl)) (by simp [Value.oneCell']) (by unfold maxLen; omega) (by omega) (by simp; omega) ?_; intro v' w1 hown hgrow _; have hnr := HV.out.not_row (by decide) HROW.out; have hv1 := (HV.out.alloc (.cells #[.int .i64 x] 3)).kept hgrow hnr; have hv1c := hv1.cell; have hv1f := hv1.frozen; obtain ⟨g', cap', rfl⟩ := ownsRow_succ hown; have HG := Lib.hid hgrow; clear hgrow; have HO := Lib.hid hown; clear hown; have HV1 := Lib.hid hv1; clear hv1; have HNR := Lib.hid hnr; clear hnr))
    gi_wp2
    have hw := HG.out
    have hr := HROW.out
    have hob : ∀ k, v.ownBlock = some k → w.heap.size + 4 ≤ k ∧ ∃ cur fz, W.heap[k]? = some (.cells cur 3 fz) := fun k hk => by
      rcases hr.2 with ⟨rfl, _⟩ | ⟨g2, c2, cur, rfl, hb, hgb, _⟩
      · simp at hk
      · simp at hk; subst hk; exact ⟨hb, _, _, hgb⟩
    have hbb := HV.out
    have hsz1 := hw.size
    simp only [World.size_alloc] at hsz1
    have hkeep : ∀ k, k < W.heap.size → some k ≠ v.ownBlock → k ≠ w.heap.size + 1 → (w1.setCell ⟨w.heap.size + 1, 0, none⟩ (.slice (some ⟨g', 0, none⟩) (pre.length + 1) cap')).heap[k]? = W.heap[k]? := fun k hk hne hnb => by
      rw [Below.heap_setCell w1 _ _ k hnb, hw.block k (by simp; omega) hne]
      exact Below.heap_alloc W _ k hk
    refine ⟨fun k o hk ho => ?_, ⟨hw.os, hw.tape, hw.output, ?_, fun k hk hne => ?_, fun b xs hb => ?_⟩, ⟨_, HV1.out.set _, ?_⟩, ((HC.out.alloc _).grown HG.out ?_).setCell ?_ _, ?_⟩
    · rw [hkeep k (Array.getElem?_eq_some_iff.1 hk).1 ?_ ?_]; exact hk
      · intro e
        obtain ⟨_, cur, fz, hc⟩ := hob k e.symm
        rw [hk] at hc; cases hc; cases ho
      · rintro rfl
        rw [show W.heap[_]? = _ from hbb] at hk; cases hk; cases ho
    · simp [World.setCell]; omega
    · rw [hkeep k (by omega) ?_ hne]
      intro e
      have := (hob k e.symm).1
      have := HZ.out; omega
    · rw [hkeep b (Array.getElem?_eq_some_iff.1 hb).1 ?_ ?_]; exact hb
      · intro e
        obtain ⟨_, cur, fz, hc⟩ := hob b e.symm
        rw [hb] at hc; cases hc
      · rintro rfl
        rw [show W.heap[_]? = _ from hbb] at hb; cases hb
    · have hO := HO.out
      rw [show refsCells (pre ++ [x]) = refsCells pre ++ [.int .i64 x] from by simp [refsCells]]
      exact hO.kept (grownBy_setCell' w1 _ _) (.inr (HV1.out.not_row (by decide) hO).symm)
    · intro k hk
      exact .inr (by have := (hob k hk).1; omega)
    · right; simp
    · omega
  case done =>
    rintro D W hD ⟨⟨v, hv, hrow⟩, hc, hz⟩ hK
    have hvc := hv.cell
    clear hst hl2 hg0 hx0 hy0 hbx0 H1 hc0 h
    have hll : (coneDown G.nodes l).length = (cone G.nodes l).length := by simp [cone]
    have hob : ∀ k, v.ownBlock = some k → w.heap.size ≤ k ∧ ∃ cur fz, W.heap[k]? = some (.cells cur 3 fz) := fun k hk => by
      rcases hrow.2 with ⟨rfl, _⟩ | ⟨g2, c2, cur, rfl, hb, hgb, _⟩
      · simp at hk
      · simp at hk; subst hk; exact ⟨by omega, _, _, hgb⟩
    have hnr := hv.not_row (by decide) hrow
    have hrow0 : row W 3 1 v (coneDown G.nodes l).length (refsCells (coneDown G.nodes l)) := by
      refine ⟨hrow.1, ?_⟩
      rcases hrow.2 with e | ⟨g2, c2, cur, e, _, rest⟩
      · exact .inl e
      · exact .inr ⟨g2, c2, cur, e, Nat.zero_le _, rest⟩
    have hrev := Rev_is hrow0 (by show (coneFrom G.nodes G.nodes.length (met0 G.nodes.length l)).length ≤ _; omega)
    rw [hll] at hrev
    have HREV := Lib.hid hrev; clear hrev
    have HV := Lib.hid hv; clear hv
    have HNR := Lib.hid hnr; clear hnr
    have HC := Lib.hid hc; clear hc
    have HK := Lib.hid hK; clear hK
    have HOB := Lib.hid hob; clear hob
    clear hrow hrow0
    clear hli
    have HLL := Lib.hid hll; clear hll
    have HZW := Lib.hid hzw; clear hzw
    go_wp2_with fail
    refine HREV.out.mono ?_
    rintro e W2 ⟨⟨v', rfl⟩, hrow2, hc2⟩
    have hb2 : W2.cell? ⟨w.heap.size + 1, 0, none⟩ = some v := (hc2.cell (p := ⟨w.heap.size + 1, 0, none⟩) HV.out.lt (by simpa using fun e => HNR.out (by rw [e]))).trans hvc
    have hK2 : W2.heap[D]? = some (.deferred (some [])) := by
      refine (hc2.block D (Array.getElem?_eq_some_iff.1 HK.out).1 ?_).trans HK.out
      intro hm
      obtain ⟨_, cur, fz, hcur⟩ := HOB.out D (by simpa using hm)
      rw [HK.out] at hcur; cases hcur
    have HK2 := Lib.hid hK2; clear hK2
    have HR2 := Lib.hid hrow2; clear hrow2
    have HC2 := Lib.hid hc2; clear hc2
    go_wp2
    refine ⟨by simp, .inl ⟨_, _, rfl, run_takeDeferred HK2.out, ?_⟩⟩
    refine ⟨.tuple #[v, .int .i64 0], by simp [results, Try.results18, go_sem], v, rfl, ownsRow_putObj HR2.out _ HK2.out rfl, fun k hk => (HOB.out k hk).1, ?_⟩
    refine Ch.trans (F' := [D]) (HC.out.trans HC2.out (fun k hk => .inr (HOB.out k (by simpa using hk)).1)) ⟨rfl, rfl, rfl, by simp, fun k hk hn => World.putObj_heap_other (by simpa using hn)⟩ (fun k hk => .inr ?_)
    simp at hk
    have := HZW.out
    omega
end
end Go.Proofs.Ytkedpifopclipaa
namespace Go.Proofs.Ytkedpifopclipaa
open Go.RowKit Go.Mem Go.Aig
theorem cell_lt {w : World} {p : Addr} {v : Value} (h : w.cell? p = some v) : p.block < w.heap.size := by
  rcases Nat.lt_or_ge p.block w.heap.size with h1 | h1
  · exact h1
  · simp [World.cell?, Array.getElem?_eq_none h1] at h
theorem Sl.ch {F : List Nat} {w w' : World} {a : Option Addr} {xs : List Int} (h : Sl w a xs) (hc : Ch F w w') (hF : ∀ p, a = some p → p.block ∉ F) : Sl w' a xs :=
  ⟨fun i x hx => by
    obtain ⟨b, o, rfl, hcell⟩ := h.cells i x hx
    exact ⟨b, o, rfl, (hc.cell (p := ⟨b, o + i, none⟩) (cell_lt hcell) (hF ⟨b, o, none⟩ rfl)).trans hcell⟩, h.bd⟩
theorem take_eq_succ {xs ys : List Int} {k : Nat} {x y : Int} (h : xs.take k = ys.take k) (hx : xs[k]? = some x) (hy : ys[k]? = some y) (e : x = y) : xs.take (k + 1) = ys.take (k + 1) := by
  rw [List.take_add_one, List.take_add_one, h, hx, hy, e]
section
variable {w : World}
set_option maxRecDepth 100000 in
set_option maxHeartbeats 1000000 in
theorem Eqint_is {a b : Option Addr} {xs ys : List Int} (ca cb : Nat) (hx : Sl w a xs) (hy : Sl w b ys) :
    Calls Try.prog 101 #[.slice a xs.length ca, .slice b ys.length cb] w fun e w' => e = .returned (.bool (decide (xs = ys))) ∧ Ch [] w w' := by
  have hbx := hx.bd
  have hby := hy.bd
  have HX := Lib.hid hx; clear hx
  have HY := Lib.hid hy; clear hy
  by_cases hl : xs.length = ys.length
  · have hne : ((xs.length : Int) != (ys.length : Int)) = false := by simp [hl]
    generalize hd : decide (xs = ys) = d
    have HD := Lib.hid hd; clear hd
    have HL := Lib.hid hl; clear hl
    go_enter Try.func101, Try.ntmps101
    go_wp2_with fail
    go_loopw [13] (fun i wr => ∃ k : Nat, k ≤ xs.length ∧ i = .int .i64 k ∧ xs.take k = ys.take k ∧ Ch [] w wr) (fun i _ => xs.length - (intOf i).toNat)
    case atStart => exact ⟨0, Nat.zero_le _, rfl, rfl, Ch.refl _ _⟩
    case round =>
      obtain ⟨k, hk, rfl, ht, hc⟩ := hrel
      have HT := Lib.hid ht; clear ht
      by_cases hlt : k < xs.length
      · have hlt2 : k < ys.length := by have := HL.out; omega
        have hxk : xs[k]? = some xs[k] := List.getElem?_eq_getElem hlt
        have hyk : ys[k]? = some ys[k] := List.getElem?_eq_getElem hlt2
        obtain ⟨b1, o1, rfl, c1⟩ := (HX.out.ch hc (by simp)).cells k _ hxk
        obtain ⟨b2, o2, rfl, c2⟩ := (HY.out.ch hc (by simp)).cells k _ hyk
        generalize xs[k] = x at *
        generalize ys[k] = y at *
        have HXK := Lib.hid hxk; clear hxk
        have HYK := Lib.hid hyk; clear hyk
        have HC := Lib.hid hc; clear hc
        by_cases hxy : x = y
        · have hb : (x != y) = false := by simp [hxy]
          have HE := Lib.hid hxy; clear hxy
          go_wp2_with fail
          refine Ord.St.door (fun _ => True) [.fl, .fl, .fl, .rd, .fl, .fl, .fl, .rd, .fl] [0, 0, 3, 7, 0, 0, 48, 112, 255] [0, 1, 2, 3, 4, 5, 6, 7, 8] mixed (by kernel_rfl) rfl ?_
          refine Ord.St.fl2 (T' := ?_) 0 [1, 2, 3, 4, 5, 6, 7, 8] _ _ rfl (by kernel_rfl) rfl rfl rfl rfl (fun K w' hk => ?_) ?_
          rotate_left
          · go_step; exact hk
          refine Ord.St.fl2 (T' := ?_) 1 [2, 3, 4, 5, 6, 7, 8] _ _ rfl (by kernel_rfl) rfl rfl rfl rfl (fun K w' hk => ?_) ?_
          rotate_left
          · go_step; exact hk
          refine Ord.St.fl2 (T' := ?_) 2 [3, 4, 5, 6, 7, 8] _ _ rfl (by kernel_rfl) rfl rfl rfl rfl (fun K w' hk => ?_) ?_
          rotate_left
          · go_step; exact hk
          refine Ord.St.rd2 (T' := ?_) 3 [4, 5, 6, 7, 8] _ _ rfl (by kernel_rfl) rfl rfl rfl rfl (fun K hk => ?_) ?_
          rotate_left
          · go_step; exact hk
          refine Ord.St.fl2 (T' := ?_) 4 [5, 6, 7, 8] _ _ rfl (by kernel_rfl) rfl rfl rfl rfl (fun K w' hk => ?_) ?_
          rotate_left
          · go_step; exact hk
          refine Ord.St.fl2 (T' := ?_) 5 [6, 7, 8] _ _ rfl (by kernel_rfl) rfl rfl rfl rfl (fun K w' hk => ?_) ?_
          rotate_left
          · go_step; exact hk
          refine Ord.St.fl2 (T' := ?_) 6 [7, 8] _ _ rfl (by kernel_rfl) rfl rfl rfl rfl (fun K w' hk => ?_) ?_
          rotate_left
          · go_step; exact hk
          refine Ord.St.rd2 (T' := ?_) 7 [8] _ _ rfl (by kernel_rfl) rfl rfl rfl rfl (fun K hk => ?_) ?_
          rotate_left
          · go_step; exact hk
          refine Ord.St.fl2 (T' := ?_) 8 [] _ _ rfl (by kernel_rfl) rfl rfl rfl rfl (fun K w' hk => ?_) ?_
          rotate_left
          · go_step; exact hk
          refine Ord.St.nil ?_
          go_wp2_with fail
          go_roundw
          case rel => exact ⟨k + 1, by omega, by go_num, take_eq_succ HT.out HXK.out HYK.out HE.out, HC.out.drew⟩
          case measure => simp [intOf]; omega
        · have hb : (x != y) = true := by simp [hxy]
          have hdf : d = false := by
            rw [← HD.out]
            refine decide_eq_false fun e => hxy ?_
            have h1 := HXK.out
            rw [e, HYK.out] at h1
            cases h1; rfl
          have HDF := Lib.hid hdf; clear hdf
          clear hxy
          go_wp2_with fail
          refine Ord.St.door (fun _ => True) [.fl, .fl, .fl, .rd, .fl, .fl, .fl, .rd, .fl] [0, 0, 3, 7, 0, 0, 48, 112, 255] [0, 1, 2, 3, 4, 5, 6, 7, 8] mixed (by kernel_rfl) rfl ?_
          refine Ord.St.fl2 (T' := ?_) 0 [1, 2, 3, 4, 5, 6, 7, 8] _ _ rfl (by kernel_rfl) rfl rfl rfl rfl (fun K w' hk => ?_) ?_
          rotate_left
          · go_step; exact hk
          refine Ord.St.fl2 (T' := ?_) 1 [2, 3, 4, 5, 6, 7, 8] _ _ rfl (by kernel_rfl) rfl rfl rfl rfl (fun K w' hk => ?_) ?_
          rotate_left
          · go_step; exact hk
          refine Ord.St.fl2 (T' := ?_) 2 [3, 4, 5, 6, 7, 8] _ _ rfl (by kernel_rfl) rfl rfl rfl rfl (fun K w' hk => ?_) ?_
          rotate_left
          · go_step; exact hk
          refine Ord.St.rd2 (T' := ?_) 3 [4, 5, 6, 7, 8] _ _ rfl (by kernel_rfl) rfl rfl rfl rfl (fun K hk => ?_) ?_
          rotate_left
          · go_step; exact hk
          refine Ord.St.fl2 (T' := ?_) 4 [5, 6, 7, 8] _ _ rfl (by kernel_rfl) rfl rfl rfl rfl (fun K w' hk => ?_) ?_
          rotate_left
          · go_step; exact hk
          refine Ord.St.fl2 (T' := ?_) 5 [6, 7, 8] _ _ rfl (by kernel_rfl) rfl rfl rfl rfl (fun K w' hk => ?_) ?_
          rotate_left
          · go_step; exact hk
          refine Ord.St.fl2 (T' := ?_) 6 [7, 8] _ _ rfl (by kernel_rfl) rfl rfl rfl rfl (fun K w' hk => ?_) ?_
          rotate_left
          · go_step; exact hk
          refine Ord.St.rd2 (T' := ?_) 7 [8] _ _ rfl (by kernel_rfl) rfl rfl rfl rfl (fun K hk => ?_) ?_
          rotate_left
          · go_step; exact hk
          refine Ord.St.fl2 (T' := ?_) 8 [] _ _ rfl (by kernel_rfl) rfl rfl rfl rfl (fun K w' hk => ?_) ?_
          rotate_left
          · go_step; exact hk
          refine Ord.St.nil ?_
          go_wp2_with fail
          go_ret
          rw [HDF.out]
          exact ⟨rfl, HC.out.drew⟩
      · have hdt : d = true := by
          rw [← HD.out]
          have h1 := HT.out
          rw [List.take_of_length_le (by omega), List.take_of_length_le (by have := HL.out; omega)] at h1
          exact decide_eq_true h1
        have HDT := Lib.hid hdt; clear hdt
        have HC := Lib.hid hc; clear hc
        go_wp2_with fail
        go_ret
        rw [HDT.out]
        exact ⟨rfl, HC.out⟩
  · have hne : ((xs.length : Int) != (ys.length : Int)) = true := by rw [bne_iff_ne]; omega
    have hd : decide (xs = ys) = false := decide_eq_false fun e => hl (by rw [e])
    rw [hd]
    clear hd
    go_enter Try.func101, Try.ntmps101
    go_wp2_with fail
    go_ret
    exact ⟨rfl, Ch.refl _ _⟩
set_option maxRecDepth 100000 in
set_option maxHeartbeats 1000000 in
theorem Eqref_is {a b : Option Addr} {xs ys : List Int} (ca cb : Nat) (hx : Sl w a xs) (hy : Sl w b ys) :
    Calls Try.prog 59 #[.slice a xs.length ca, .slice b ys.length cb] w fun e w' => e = .returned (.bool (decide (xs = ys))) ∧ Ch [] w w' := by
  have hbx := hx.bd
  have hby := hy.bd
  have HX := Lib.hid hx; clear hx
  have HY := Lib.hid hy; clear hy
  by_cases hl : xs.length = ys.length
  · have hne : ((xs.length : Int) != (ys.length : Int)) = false := by simp [hl]
    generalize hd : decide (xs = ys) = d
    have HD := Lib.hid hd; clear hd
    have HL := Lib.hid hl; clear hl
    go_enter Try.func59, Try.ntmps59
    go_wp2_with fail
    go_loopw [13] (fun i wr => ∃ k : Nat, k ≤ xs.length ∧ i = .int .i64 k ∧ xs.take k = ys.take k ∧ Ch [] w wr) (fun i _ => xs.length - (intOf i).toNat)
    case atStart => exact ⟨0, Nat.zero_le _, rfl, rfl, Ch.refl _ _⟩
    case round =>
      obtain ⟨k, hk, rfl, ht, hc⟩ := hrel
      have HT := Lib.hid ht; clear ht
      by_cases hlt : k < xs.length
      · have hlt2 : k < ys.length := by have := HL.out; omega
        have hxk : xs[k]? = some xs[k] := List.getElem?_eq_getElem hlt
        have hyk : ys[k]? = some ys[k] := List.getElem?_eq_getElem hlt2
        obtain ⟨b1, o1, rfl, c1⟩ := (HX.out.ch hc (by simp)).cells k _ hxk
        obtain ⟨b2, o2, rfl, c2⟩ := (HY.out.ch hc (by simp)).cells k _ hyk
        generalize xs[k] = x at *
        generalize ys[k] = y at *
        have HXK := Lib.hid hxk; clear hxk
        have HYK := Lib.hid hyk; clear hyk
        have HC := Lib.hid hc; clear hc
        by_cases hxy : x = y
        · have hb : (x != y) = false := by simp [hxy]
          have HE := Lib.hid hxy; clear hxy
          go_wp2_with fail
          refine Ord.St.door (fun _ => True) [.fl, .fl, .fl, .rd, .fl, .fl, .fl, .rd, .fl] [0, 0, 3, 7, 0, 0, 48, 112, 255] [0, 1, 2, 3, 4, 5, 6, 7, 8] mixed (by kernel_rfl) rfl ?_
          refine Ord.St.fl2 (T' := ?_) 0 [1, 2, 3, 4, 5, 6, 7, 8] _ _ rfl (by kernel_rfl) rfl rfl rfl rfl (fun K w' hk => ?_) ?_
          rotate_left
          · go_step; exact hk
          refine Ord.St.fl2 (T' := ?_) 1 [2, 3, 4, 5, 6, 7, 8] _ _ rfl (by kernel_rfl) rfl rfl rfl rfl (fun K w' hk => ?_) ?_
          rotate_left
          · go_step; exact hk
          refine Ord.St.fl2 (T' := ?_) 2 [3, 4, 5, 6, 7, 8] _ _ rfl (by kernel_rfl) rfl rfl rfl rfl (fun K w' hk => ?_) ?_
          rotate_left
          · go_step; exact hk
          refine Ord.St.rd2 (T' := ?_) 3 [4, 5, 6, 7, 8] _ _ rfl (by kernel_rfl) rfl rfl rfl rfl (fun K hk => ?_) ?_
          rotate_left
          · go_step; exact hk
          refine Ord.St.fl2 (T' := ?_) 4 [5, 6, 7, 8] _ _ rfl (by kernel_rfl) rfl rfl rfl rfl (fun K w' hk => ?_) ?_
          rotate_left
          · go_step; exact hk
          refine Ord.St.fl2 (T' := ?_) 5 [6, 7, 8] _ _ rfl (by kernel_rfl) rfl rfl rfl rfl (fun K w' hk => ?_) ?_
          rotate_left
          · go_step; exact hk
          refine Ord.St.fl2 (T' := ?_) 6 [7, 8] _ _ rfl (by kernel_rfl) rfl rfl rfl rfl (fun K w' hk => ?_) ?_
          rotate_left
          · go_step; exact hk
          refine Ord.St.rd2 (T' := ?_) 7 [8] _ _ rfl (by kernel_rfl) rfl rfl rfl rfl (fun K hk => ?_) ?_
          rotate_left
          · go_step; exact hk
          refine Ord.St.fl2 (T' := ?_) 8 [] _ _ rfl (by kernel_rfl) rfl rfl rfl rfl (fun K w' hk => ?_) ?_
          rotate_left
          · go_step; exact hk
          refine Ord.St.nil ?_
          go_wp2_with fail
          go_roundw
          case rel => exact ⟨k + 1, by omega, by go_num, take_eq_succ HT.out HXK.out HYK.out HE.out, HC.out.drew⟩
          case measure => simp [intOf]; omega
        · have hb : (x != y) = true := by simp [hxy]
          have hdf : d = false := by
            rw [← HD.out]
            refine decide_eq_false fun e => hxy ?_
            have h1 := HXK.out
            rw [e, HYK.out] at h1
            cases h1; rfl
          have HDF := Lib.hid hdf; clear hdf
          clear hxy
          go_wp2_with fail
          refine Ord.St.door (fun _ => True) [.fl, .fl, .fl, .rd, .fl, .fl, .fl, .rd, .fl] [0, 0, 3, 7, 0, 0, 48, 112, 255] [0, 1, 2, 3, 4, 5, 6, 7, 8] mixed (by kernel_rfl) rfl ?_
          refine Ord.St.fl2 (T' := ?_) 0 [1, 2, 3, 4, 5, 6, 7, 8] _ _ rfl (by kernel_rfl) rfl rfl rfl rfl (fun K w' hk => ?_) ?_
          rotate_left
          · go_step; exact hk
          refine Ord.St.fl2 (T' := ?_) 1 [2, 3, 4, 5, 6, 7, 8] _ _ rfl (by kernel_rfl) rfl rfl rfl rfl (fun K w' hk => ?_) ?_
          rotate_left
          · go_step; exact hk
          refine Ord.St.fl2 (T' := ?_) 2 [3, 4, 5, 6, 7, 8] _ _ rfl (by kernel_rfl) rfl rfl rfl rfl (fun K w' hk => ?_) ?_
          rotate_left
          · go_step; exact hk
          refine Ord.St.rd2 (T' := ?_) 3 [4, 5, 6, 7, 8] _ _ rfl (by kernel_rfl) rfl rfl rfl rfl (fun K hk => ?_) ?_
          rotate_left
          · go_step; exact hk
          refine Ord.St.fl2 (T' := ?_) 4 [5, 6, 7, 8] _ _ rfl (by kernel_rfl) rfl rfl rfl rfl (fun K w' hk => ?_) ?_
          rotate_left
          · go_step; exact hk
          refine Ord.St.fl2 (T' := ?_) 5 [6, 7, 8] _ _ rfl (by kernel_rfl) rfl rfl rfl rfl (fun K w' hk => ?_) ?_
          rotate_left
          · go_step; exact hk
          refine Ord.St.fl2 (T' := ?_) 6 [7, 8] _ _ rfl (by kernel_rfl) rfl rfl rfl rfl (fun K w' hk => ?_) ?_
          rotate_left
          · go_step; exact hk
          refine Ord.St.rd2 (T' := ?_) 7 [8] _ _ rfl (by kernel_rfl) rfl rfl rfl rfl (fun K hk => ?_) ?_
          rotate_left
          · go_step; exact hk
          refine Ord.St.fl2 (T' := ?_) 8 [] _ _ rfl (by kernel_rfl) rfl rfl rfl rfl (fun K w' hk => ?_) ?_
          rotate_left
          · go_step; exact hk
          refine Ord.St.nil ?_
          go_wp2_with fail
          go_ret
          rw [HDF.out]
          exact ⟨rfl, HC.out.drew⟩
      · have hdt : d = true := by
          rw [← HD.out]
          have h1 := HT.out
          rw [List.take_of_length_le (by omega), List.take_of_length_le (by have := HL.out; omega)] at h1
          exact decide_eq_true h1
        have HDT := Lib.hid hdt; clear hdt
        have HC := Lib.hid hc; clear hc
        go_wp2_with fail
        go_ret
        rw [HDT.out]
        exact ⟨rfl, HC.out⟩
  · have hne : ((xs.length : Int) != (ys.length : Int)) = true := by rw [bne_iff_ne]; omega
    have hd : decide (xs = ys) = false := decide_eq_false fun e => hl (by rw [e])
    rw [hd]
    clear hd
    go_enter Try.func59, Try.ntmps59
    go_wp2_with fail
    go_ret
    exact ⟨rfl, Ch.refl _ _⟩
end
end Go.Proofs.Ytkedpifopclipaa
namespace Go.Aig
/-- the node of a number, if it is a reference -/
def nodeAt (ns : List Nd) (r : Int) : Option Nd := if 0 ≤ r then ns[r.toNat / 2]? else none
def kindOf (ns : List Nd) (r : Int) : Nat := match nodeAt ns r with | some x => x.k | none => 0
def depthOf (ns : List Nd) (r : Int) : Nat := match nodeAt ns r with | some x => x.d | none => 0
def depthErr (ns : List Nd) (r : Int) : Nat := match nodeAt ns r with | some _ => 0 | none => 200
def isAndAt (ns : List Nd) (r : Int) : Bool := kindOf ns r == 3
def lOf (ns : List Nd) (r : Int) : Nat := match nodeAt ns r with | some x => if x.k = 3 then x.l else 0 | none => 0
def rOf (ns : List Nd) (r : Int) : Nat := match nodeAt ns r with | some x => if x.k = 3 then x.r else 0 | none => 0
theorem nodeAt_none {ns : List Nd} {r : Int} (h : nodeAt ns r = none) : right ns r = false := by
  unfold nodeAt at h
  unfold right
  refine decide_eq_false ?_
  rintro ⟨h0, h1⟩
  rw [if_pos h0, List.getElem?_eq_none_iff] at h
  omega
theorem nodeAt_some {ns : List Nd} {r : Int} {x : Nd} (h : nodeAt ns r = some x) : 0 ≤ r ∧ ns[r.toNat / 2]? = some x := by
  unfold nodeAt at h
  split at h
  · exact ⟨by assumption, h⟩
  · cases h
theorem nodeAt_right {ns : List Nd} {r : Int} : right ns r = (nodeAt ns r).isSome := by
  cases h : nodeAt ns r with
  | none => rw [nodeAt_none h]; rfl
  | some x =>
    obtain ⟨h0, h1⟩ := nodeAt_some h
    have := (List.getElem?_eq_some_iff.1 h1).1
    unfold right
    simp; omega
/-- what Cut does -/
def doCut (G : Gra) (n : Int) : Gra × Nat := if n < 1 ∨ (G.nodes.length : Int) < n then (G, 2) else ({ G with nodes := G.nodes.take n.toNat }, 0)
end Go.Aig
namespace Go.Proofs.Ytkedpifopclipaa
open Go.RowKit Go.Mem Go.Aig
theorem GTo.gin {w w' : World} {g : Nat} {G : Gra} {F : List Nat} (h : GTo w g G F w') : ∃ F', GIn w' g G F' ∧ Ch F w w' ∧ (∀ k ∈ F', k ∈ F ∨ w.heap.size ≤ k) ∧ F'[2]? = F[2]? := h
theorem Ch.drewN {F : List Nat} {w : World} (n : Nat) : Ch F w (w.drewN n) := ⟨rfl, rfl, rfl, Nat.le_refl _, fun _ _ _ => rfl⟩
section
variable {w : World} {g : Nat} {G : Gra} {F : List Nat}
theorem none_g (h : GIn w g G F) : Calls Try.prog 83 #[.pointer (some ⟨g, 0, none⟩)] w fun e w' => e = .returned (.bool false) ∧ w = w' := by
  obtain ⟨_, _, _, _, h, rfl⟩ := h; exact none_no h
theorem Len_g (h : GIn w g G F) : Calls Try.prog 26 #[.pointer (some ⟨g, 0, none⟩)] w fun e w' => e = .returned (.int .i64 G.nodes.length) ∧ w = w' := by
  obtain ⟨_, _, _, _, h, rfl⟩ := h; exact Len_is h
theorem Room_g (h : GIn w g G F) : Calls Try.prog 60 #[.pointer (some ⟨g, 0, none⟩)] w fun e w' => e = .returned (.int .i64 (G.most - G.nodes.length : Nat)) ∧ Ch [] w w' := by
  obtain ⟨_, _, _, _, h, rfl⟩ := h
  refine (Room_is h).mono ?_
  rintro e w' ⟨rfl, n, rfl⟩
  exact ⟨rfl, Ch.drewN n⟩
theorem Right_g (h : GIn w g G F) (r : Int) (hr : r ≤ 9223372036854775807) : Calls Try.prog 86 #[.pointer (some ⟨g, 0, none⟩), .int .i64 r] w fun e w' => e = .returned (.bool (right G.nodes r)) ∧ w = w' := by
  obtain ⟨_, _, _, _, h, rfl⟩ := h; exact Right_is h r hr
theorem Kind_g (h : GIn w g G F) (r : Int) (hr : r ≤ 9223372036854775807) : Calls Try.prog 40 #[.pointer (some ⟨g, 0, none⟩), .int .i64 r] w fun e w' => e = .returned (.int .u8 (kindOf G.nodes r)) ∧ w = w' := by
  obtain ⟨_, _, _, _, h, rfl⟩ := h
  unfold kindOf
  cases hn : nodeAt G.nodes r with
  | none => exact Kind_no h r hr (nodeAt_none hn)
  | some x =>
    obtain ⟨h0, h1⟩ := nodeAt_some hn
    obtain ⟨n, rfl⟩ := Int.eq_ofNat_of_zero_le h0
    exact Kind_is h h1
set_option maxRecDepth 100000 in
set_option maxHeartbeats 400000 in
theorem Sides_off {nb ncap mb : Nat} {iv : Value} (h : GM w g G nb ncap iv mb) (r : Int) (hr : r ≤ 9223372036854775807) (hn : right G.nodes r = false) :
    Calls Try.prog 102 #[.pointer (some ⟨g, 0, none⟩), .int .i64 r] w fun e w' => e = .returned (.tuple #[.int .i64 0, .int .i64 0, .bool false]) ∧ Ch [] w w' := by
  have HK := Kind_no h r hr hn
  clear h
  go_enter Try.func102, Try.ntmps102
  go_wp2_with fail
  refine HK.mono ?_
  rintro e w' ⟨rfl, rfl⟩
  go_wp2_with fail
  go_ret3
  exact ⟨rfl, Ch.refl _ _⟩
theorem Sides_g (h : GIn w g G F) (r : Int) (hr : r ≤ 9223372036854775807) : Calls Try.prog 102 #[.pointer (some ⟨g, 0, none⟩), .int .i64 r] w fun e w' => e = .returned (.tuple #[.int .i64 (lOf G.nodes r), .int .i64 (rOf G.nodes r), .bool (isAndAt G.nodes r)]) ∧ Ch [] w w' := by
  obtain ⟨_, _, _, _, h, rfl⟩ := h
  unfold lOf rOf isAndAt kindOf
  cases hn : nodeAt G.nodes r with
  | none => exact Sides_off h r hr (nodeAt_none hn)
  | some x =>
    obtain ⟨h0, h1⟩ := nodeAt_some hn
    obtain ⟨n, rfl⟩ := Int.eq_ofNat_of_zero_le h0
    by_cases hk : x.k = 3
    · simp only [hk, if_true]
      exact Sides_is h h1 hk
    · have e : (x.k == 3) = false := by simp [hk]
      simp only [hk, if_false, e]
      exact Sides_no h h1 hk
theorem Input_g (h : GIn w g G F) : Calls Try.prog 78 #[.pointer (some ⟨g, 0, none⟩)] w fun e w' => e = .returned (.tuple #[.int .i64 (doInput G).2.1, .int .i64 (doInput G).2.2]) ∧ GTo w g (doInput G).1 F w' := by
  obtain ⟨_, _, _, _, h, rfl⟩ := h; exact Input_is h
theorem And_g (h : GIn w g G F) (a b : Int) (ba : a ≤ 9223372036854775807) (bb : b ≤ 9223372036854775807) : Calls Try.prog 69 #[.pointer (some ⟨g, 0, none⟩), .int .i64 a, .int .i64 b] w fun e w' => e = .returned (.tuple #[.int .i64 (doAnd G a b).2.1, .int .i64 (doAnd G a b).2.2]) ∧ GTo w g (doAnd G a b).1 F w' := by
  obtain ⟨_, _, _, _, h, rfl⟩ := h; exact And_is h a b ba bb
theorem Or_g (h : GIn w g G F) (a b : Int) (ba : a ≤ 9223372036854775807) (bb : b ≤ 9223372036854775807) : Calls Try.prog 70 #[.pointer (some ⟨g, 0, none⟩), .int .i64 a, .int .i64 b] w fun e w' => e = .returned (.tuple #[.int .i64 (doOr G a b).2.1, .int .i64 (doOr G a b).2.2]) ∧ GTo w g (doOr G a b).1 F w' := by
  obtain ⟨_, _, _, _, h, rfl⟩ := h; exact Or_is h a b ba bb
theorem Xor_g (h : GIn w g G F) (a b : Int) (ba : a ≤ 9223372036854775807) (bb : b ≤ 9223372036854775807) : Calls Try.prog 194 #[.pointer (some ⟨g, 0, none⟩), .int .i64 a, .int .i64 b] w fun e w' => e = .returned (.tuple #[.int .i64 (doXor G a b).2.1, .int .i64 (doXor G a b).2.2]) ∧ GTo w g (doXor G a b).1 F w' := by
  obtain ⟨_, _, _, _, h, rfl⟩ := h; exact Xor_is h a b ba bb
theorem Mux_g (h : GIn w g G F) (c a b : Int) (bc : c ≤ 9223372036854775807) (ba : a ≤ 9223372036854775807) (bb : b ≤ 9223372036854775807) : Calls Try.prog 189 #[.pointer (some ⟨g, 0, none⟩), .int .i64 c, .int .i64 a, .int .i64 b] w fun e w' => e = .returned (.tuple #[.int .i64 (doMux G c a b).2.1, .int .i64 (doMux G c a b).2.2]) ∧ GTo w g (doMux G c a b).1 F w' := by
  obtain ⟨_, _, _, _, h, rfl⟩ := h; exact Mux_is h c a b bc ba bb
theorem Any_g (h : GIn w g G F) {a : Option Addr} {l : List Int} (n cap : Nat) (hn : l.length = n) (hS : Sl w a l) (hb : ∀ x ∈ l, x ≤ 9223372036854775807) (hap : ∀ p, a = some p → p.block < w.heap.size ∧ p.block ∉ F) : Calls Try.prog 139 #[.pointer (some ⟨g, 0, none⟩), .slice a n cap] w fun e w' => e = .returned (.tuple #[.int .i64 (doAny G l).2.1, .int .i64 (doAny G l).2.2]) ∧ GTo w g (doAny G l).1 F w' := by
  subst hn
  obtain ⟨_, _, _, _, h, rfl⟩ := h; exact Any_is h cap hS hb hap
theorem Cut_g (h : GIn w g G F) (n : Int) (h1 : n ≤ 9223372036854775807) (h0 : -9223372036854775808 ≤ n) : Calls Try.prog 181 #[.pointer (some ⟨g, 0, none⟩), .int .i64 n] w fun e w' => e = .returned (.int .i64 (doCut G n).2) ∧ GTo w g (doCut G n).1 F w' := by
  obtain ⟨nb, ncap, iv, mb, h, rfl⟩ := h
  unfold doCut
  by_cases hn : n < 1 ∨ (G.nodes.length : Int) < n
  · rw [if_pos hn]
    refine (Cut_arg h n hn h1 h0).mono ?_
    rintro e w' ⟨rfl, hc⟩
    exact ⟨rfl, GTo.same ⟨_, _, _, _, h, rfl⟩ hc⟩
  · rw [if_neg hn]
    obtain ⟨m, rfl⟩ := Int.eq_ofNat_of_zero_le (show 0 ≤ n by omega)
    refine (Cut_is h m (by omega) (by omega)).mono ?_
    rintro e w' ⟨rfl, iv', hg, hb, hc⟩
    exact ⟨rfl, GTo.of hg hc (.inl rfl) (fun k hk => .inl (by rw [← hb]; exact hk))⟩
theorem Inputs_g (h : GIn w g G F) : Calls Try.prog 30 #[.pointer (some ⟨g, 0, none⟩)] w fun e w' => ∃ v, e = .returned v ∧ row w' 45 1 v (inputs G.nodes).length (refsCells (inputs G.nodes)) ∧ (∀ k, v.ownBlock = some k → w.heap.size ≤ k) ∧ Ch [] w w' := by
  obtain ⟨_, _, _, _, h, rfl⟩ := h; exact Inputs_is h
theorem Cone_g (h : GIn w g G F) {a : Option Addr} {l : List Nat} (n cap : Nat) (hn : l.length = n) (hl : Sl w a (l.map fun (r : Nat) => (r : Int))) (halt : ∀ p, a = some p → p.block < w.heap.size) (hr : ∀ r ∈ l, r < 2 * G.nodes.length) :
    Calls Try.prog 18 #[.pointer (some ⟨g, 0, none⟩), .slice a n cap] w fun e w' => ∃ v, e = .returned (.tuple #[v, .int .i64 0]) ∧ row w' 3 1 v (cone G.nodes l).length (refsCells (cone G.nodes l)) ∧ (∀ k, v.ownBlock = some k → w.heap.size ≤ k) ∧ Ch [] w w' := by
  subst hn
  obtain ⟨_, _, _, _, h, rfl⟩ := h
  exact Cone_yes h cap hl halt hr
end
/-- a graph that was made since a world w0, and all of it -/
structure Own (w0 w : World) (g : Nat) (G : Gra) (F : List Nat) : Prop where
  gin : GIn w g G F
  own : ∀ k ∈ F, w0.heap.size ≤ k
  ch : Ch [] w0 w
theorem Own.to {w0 w w' : World} {g : Nat} {G G' : Gra} {F : List Nat} (h : Own w0 w g G F) (ht : GTo w g G' F w') : ∃ F', Own w0 w' g G' F' := by
  obtain ⟨F', h1, h2, h3, _⟩ := ht
  exact ⟨F', h1, fun k hk => (h3 k hk).elim (h.own k) (fun e => Nat.le_trans h.ch.size e), h.ch.trans h2 (fun k hk => .inr (h.own k hk))⟩
theorem Own.same {w0 w w' : World} {g : Nat} {G : Gra} {F : List Nat} (h : Own w0 w g G F) (hc : Ch [] w w') : Own w0 w' g G F :=
  ⟨h.gin.same hc (by simp), h.own, h.ch.trans hc (by simp)⟩
end Go.Proofs.Ytkedpifopclipaa
namespace Go.Ord
section
variable {P : Program} {l : List Oper} {ks : List Kd} {A : List Nat} {C : World → Prop} {Q : Act → World → Prop}
/-- the look at one of the effects that may come up -/
def chkB (ops : Array Oper) (ks : List Kd) (R R' : List Nat) (i : Nat) : Bool := R.contains i && readyIn ops R i && decide (R.erase i = R') && decide (kd ks i = .ef)
theorem chkB_spec {ops : Array Oper} {R R' : List Nat} {i : Nat} (h : chkB ops ks R R' i = true) : i ∈ R ∧ readyIn ops R i = true ∧ R.erase i = R' ∧ kd ks i = .ef := by
  simp only [chkB, Bool.and_eq_true, decide_eq_true_eq] at h
  exact ⟨by simpa using h.1.1.1, h.1.1.2, h.1.2, h.2⟩
theorem ef_op {R R' : List Nat} {a : Act} {w : World} (i : Nat) (o : Oper) (hil : l[i]? = some o) (hchk : chkB l.toArray ks R R' i = true)
    (h : ∀ K : Act → World → Prop, (∀ a w, C w → St P l ks A C Q R' a w → K a w) → wpList P l.toArray (only K) [o] a w) (hn : R.Nodup) (hu : Up l.toArray R) (hlt : ∀ k ∈ R, k < l.toArray.size) (hs : Stat l.toArray ks A) :
    wpOp P l.toArray (only Q) i (fun a' w' => post ks A l.toArray.size C i w w' ∧ allOrd l.toArray (wpOp P l.toArray (only Q)) ks A C Q (R.length - 1) (R.erase i) a' w') a w := by
  have hi : l.toArray[i]? = some o := by simpa using hil
  have ⟨hm, hri, hR, hk⟩ := chkB_spec hchk
  have h1 := h (fun a w => C w ∧ St P l ks A C Q R' a w) (fun _ _ hc hh => ⟨hc, hh⟩)
  unfold wpOp
  simp only [hi]
  unfold wpList at h1
  have key : ∀ a' w', (wpList P l.toArray (only (fun a w => C w ∧ St P l ks A C Q R' a w)) [] a' w') → post ks A l.toArray.size C i w w' ∧ allOrd l.toArray (wpOp P l.toArray (only Q)) ks A C Q (R.length - 1) (R.erase i) a' w' := by
    intro a' w' hh
    refine ⟨?_, ?_⟩
    · unfold post; rw [if_pos hk]; intro _; exact hh.2.1
    subst hR
    have := hh.2.2 (hn.erase _) (hu.erase hn hri) (fun k hk => hlt k (List.mem_of_mem_erase hk)) hs
    rwa [List.length_erase_of_mem hm] at this
  split
  · rename_i hw
    rw [if_pos hw] at h1
    have h1 := h1.resolve_right fun hh => only_lets _ hh.2
    left
    have h2 := Oper.wp_mono (K' := fun a' w' => post ks A l.toArray.size C i w w' ∧ allOrd l.toArray (wpOp P l.toArray (only Q)) ks A C Q (R.length - 1) (R.erase i) a' w') key h1
    unfold Oper.wp at h2 ⊢
    generalize (execOp a.eval o).run P w = r at h2 ⊢
    cases r with
    | ok n w' =>
      cases n <;> simp only [Oper.upon] at h2 ⊢
      case value u => exact h2
      case skip => exact h2
      case defer d => exact h2
      case enter f args =>
        refine Calls.mono h2 fun e w'' he => ?_
        cases e with
        | returned u => exact he
        | panicked c => cases he.1
        | outgrown => exact (only_lets _ he).elim
      case row row args => exact h2
    | halt x w' =>
      cases x <;> simp only [Oper.upon] at h2 ⊢
      case panic u => cases h2.1
  · rename_i hw
    rw [if_neg hw] at h1
    exact key _ _ h1
def chkR (ops : Array Oper) (R rs : List Nat) : Bool := decide (R.filter (readyIn ops R) = rs)
/-- two effects may come up now: each of them first -/
theorem St.two {R : List Nat} {a : Act} {w : World} (i j : Nat) (Ri Rj : List Nat) (oi oj : Oper) (hir : chkR l.toArray R [i, j] = true) (hil : l[i]? = some oi) (hjl : l[j]? = some oj) (hci : chkB l.toArray ks R Ri i = true) (hcj : chkB l.toArray ks R Rj j = true)
    (h1 : ∀ K : Act → World → Prop, (∀ a w, C w → St P l ks A C Q Ri a w → K a w) → wpList P l.toArray (only K) [oi] a w)
    (h2 : ∀ K : Act → World → Prop, (∀ a w, C w → St P l ks A C Q Rj a w → K a w) → wpList P l.toArray (only K) [oj] a w) : St P l ks A C Q R a w := by
  intro hn hu hlt hs
  have hm : i ∈ R := (chkB_spec hci).1
  have hlen : R.length = R.length - 1 + 1 := by have := List.length_pos_of_mem hm; omega
  rw [hlen]
  refine branch (rs := [i, j]) (by unfold chkR at hir; simpa using hir) fun k hk => ?_
  simp only [List.mem_cons, List.not_mem_nil, or_false] at hk
  rcases hk with rfl | rfl
  · exact ef_op _ oi hil hci h1 hn hu hlt hs
  · exact ef_op _ oj hjl hcj h2 hn hu hlt hs
/-- the world behind a new block under a name -/
theorem St.alw {R : List Nat} {a : Act} {w : World} {o : Obj} (h : ∀ W, W = w.alloc o → St P l ks A C Q R a W) : St P l ks A C Q R a (w.alloc o) := h _ rfl
end
end Go.Ord
namespace Go.Proofs.Ytkedpifopclipaa
open Go.RowKit Go.Mem Go.Aig
/-- a slice that is read: its cells, one for each element -/
structure Sv (w : World) (a : Option Addr) (xs : List Value) : Prop where
  cells : ∀ (i : Nat) (v : Value), xs[i]? = some v → ∃ b o, a = some ⟨b, o, none⟩ ∧ w.cell? ⟨b, o + i, none⟩ = some v
  bd : xs.length ≤ 9223372036854775807
theorem Sv.ch {F : List Nat} {w w' : World} {a : Option Addr} {xs : List Value} (h : Sv w a xs) (hc : Ch F w w') (hF : ∀ p, a = some p → p.block ∉ F) : Sv w' a xs :=
  ⟨fun i x hx => by
    obtain ⟨b, o, rfl, hcell⟩ := h.cells i x hx
    exact ⟨b, o, rfl, (hc.cell (p := ⟨b, o + i, none⟩) (cell_lt hcell) (hF ⟨b, o, none⟩ rfl)).trans hcell⟩, h.bd⟩
theorem Sv.take {w : World} {a : Option Addr} {xs : List Value} (h : Sv w a xs) (n : Nat) : Sv w a (xs.take n) :=
  ⟨fun i x hx => h.cells i x (by rw [List.getElem?_take] at hx; split at hx; exact hx; cases hx), by have := h.bd; rw [List.length_take]; omega⟩
theorem Sv.sl {w : World} {a : Option Addr} {l : List Nat} (h : Sv w a (refsCells l)) : Sl w a (l.map fun (r : Nat) => (r : Int)) :=
  ⟨fun i x hx => h.cells i (.int .i64 x) (by
    simp only [refsCells, List.getElem?_map, Option.map_eq_some_iff] at hx ⊢
    obtain ⟨r, hr, rfl⟩ := hx
    exact ⟨r, hr, rfl⟩), by have := h.bd; simpa [refsCells] using this⟩
theorem row.sv {w : World} {e : TypeId} {v : Value} {n : Nat} {xs : List Value} {a : Option Addr} {m c : Nat} (h : row w e 1 v n xs) (hv : v = .slice a m c) (hn : n ≤ 1000000) : Sv w a xs := by
  subst hv
  have h1 := h.1
  refine ⟨fun i x hx => ?_, by omega⟩
  rcases h.2 with ⟨e1, e2⟩ | ⟨b, cap, cur, e1, _⟩
  · have := (List.getElem?_eq_some_iff.1 hx).1
    omega
  · cases e1
    refine ⟨b, 0, rfl, ?_⟩
    have := h.cells (g := b) rfl i x hx
    rw [Addr.add_lit] at this
    simpa using this
theorem _root_.Go.Mem.blk.of_heap {w w' : World} {b : Nat} {xs : List Value} (h : blk w b xs) (e : w'.heap[b]? = w.heap[b]?) : blk w' b xs := by
  obtain ⟨T, h⟩ := h
  exact ⟨T, e.trans h⟩
theorem min_nat (n k m : Nat) (h : min n k = m) (ats : Array TypeId) (ty : TypeId) : Builtin.min_ ats ty #[.int .i64 (n : Int), .int .i64 (k : Int)] = pure (.int .i64 (m : Int)) := by
  have e : (if (k : Int) < n then (k : Int) else n) = m := by split <;> omega
  rw [← e]
  simp [Builtin.min_, Builtin.min2]
theorem alw_ch {W w : World} {o : Obj} (h : W = w.alloc o) : Ch [] w W := h ▸ (Ch.refl _ _).alloc _
theorem alw_blk {W w : World} {xs : List Value} {T : TypeId} (h : W = w.alloc (.cells xs.toArray T)) : blk W w.heap.size xs := h ▸ blk.new' _ _ rfl
end Go.Proofs.Ytkedpifopclipaa
namespace Go.Aig
/-- the value of a reference, over the values of the nodes -/
def rv (vs : List Bool) (r : Nat) : Bool := Bool.xor (vs.getD (r / 2) false) (decide (r % 2 = 1))
def nvStep (env : Nat → Bool) (s : List Bool × Nat) (x : Nd) : List Bool × Nat :=
  if x.k = 3 then (s.1 ++ [rv s.1 x.l && rv s.1 x.r], s.2) else if x.k = 2 then (s.1 ++ [env s.2], s.2 + 1) else (s.1 ++ [false], s.2)
/-- the values of the nodes, and how many inputs there are -/
def nv (env : Nat → Bool) (ns : List Nd) : List Bool × Nat := ns.foldl (nvStep env) ([], 0)
def bv (env : Nat → Bool) (ns : List Nd) (r : Nat) : Bool := rv (nv env ns).1 r
theorem nv_snoc (env : Nat → Bool) (ns : List Nd) (x : Nd) : nv env (ns ++ [x]) = nvStep env (nv env ns) x := by unfold nv; rw [List.foldl_append]; rfl
theorem nvStep_ext (env : Nat → Bool) (s : List Bool × Nat) (x : Nd) : ∃ b, (nvStep env s x).1 = s.1 ++ [b] := by
  unfold nvStep; (repeat' split) <;> exact ⟨_, rfl⟩
theorem nv_ext (env : Nat → Bool) : ∀ (ms ns : List Nd), ∃ more, (nv env (ns ++ ms)).1 = (nv env ns).1 ++ more ∧ more.length = ms.length
  | [], ns => ⟨[], by simp, rfl⟩
  | x :: ms, ns => by
    obtain ⟨more, h, hl⟩ := nv_ext env ms (ns ++ [x])
    obtain ⟨b, hb⟩ := nvStep_ext env (nv env ns) x
    refine ⟨b :: more, ?_, by simp [hl]⟩
    rw [List.append_cons, h, nv_snoc, hb, List.append_assoc]; rfl
theorem nv_len (env : Nat → Bool) (ns : List Nd) : (nv env ns).1.length = ns.length := by
  obtain ⟨more, h, hl⟩ := nv_ext env ns []
  rw [List.nil_append] at h
  rw [h]
  simp [hl, nv]
theorem rv_ext {vs more : List Bool} {r : Nat} (h : r < 2 * vs.length) : rv (vs ++ more) r = rv vs r := by
  unfold rv
  rw [List.getD_eq_getElem?_getD, List.getD_eq_getElem?_getD, List.getElem?_append_left (by omega)]
theorem bv_ext (env : Nat → Bool) (ns ms : List Nd) {r : Nat} (h : r < 2 * ns.length) : bv env (ns ++ ms) r = bv env ns r := by
  obtain ⟨more, e, _⟩ := nv_ext env ms ns
  unfold bv
  rw [e, rv_ext (by rw [nv_len]; exact h)]
theorem bv_of (env : Nat → Bool) {G G' : Gra} (hx : Ext G G') {r : Nat} (h : r < 2 * G.nodes.length) : bv env G'.nodes r = bv env G.nodes r := by
  obtain ⟨_, more, e⟩ := hx
  rw [e, bv_ext env _ _ h]
theorem bv_neg (env : Nat → Bool) (ns : List Nd) (r : Nat) : bv env ns (neg r) = !bv env ns r := by
  unfold bv rv
  rw [neg_half]
  have : decide (neg r % 2 = 1) = !decide (r % 2 = 1) := by
    unfold neg
    split <;> rw [Bool.eq_iff_iff] <;> simp <;> omega
  rw [this]
  cases (nv env ns).1.getD (r / 2) false <;> cases decide (r % 2 = 1) <;> rfl
theorem split_at {ns : List Nd} {n : Nat} {x : Nd} (h : ns[n]? = some x) : ns = ns.take n ++ [x] ++ ns.drop (n + 1) := by
  obtain ⟨hlt, rfl⟩ := List.getElem?_eq_some_iff.1 h
  rw [List.append_assoc, List.singleton_append, List.getElem_cons_drop, List.take_append_drop]
theorem bv_take (env : Nat → Bool) (ns : List Nd) {n r : Nat} (hn : n ≤ ns.length) (h : r < 2 * n) : bv env (ns.take n) r = bv env ns r := by
  have := bv_ext env (ns.take n) (ns.drop n) (r := r) (by simp; omega)
  rw [List.take_append_drop] at this
  exact this.symm
theorem bv_last (env : Nat → Bool) (ns : List Nd) (x : Nd) (hk : x.k = 3) : bv env (ns ++ [x]) (2 * ns.length) = (bv env ns x.l && bv env ns x.r) := by
  have hl := nv_len env ns
  unfold bv
  rw [nv_snoc]
  unfold nvStep
  rw [if_pos hk]
  conv => lhs; unfold rv
  rw [show 2 * ns.length / 2 = ns.length from by omega, List.getD_eq_getElem?_getD, ← hl]
  rw [List.getElem?_append_right (Nat.le_refl _)]
  simp [rv]
theorem bv_node (env : Nat → Bool) {ns : List Nd} {n : Nat} {x : Nd} (h : ns[n]? = some x) (hk : x.k = 3) (hl : x.l < 2 * n) (hr : x.r < 2 * n) : bv env ns (2 * n) = (bv env ns x.l && bv env ns x.r) := by
  have hlt := (List.getElem?_eq_some_iff.1 h).1
  have e := split_at h
  have hn : (ns.take n).length = n := by simp; omega
  have h1 : bv env ns (2 * n) = bv env (ns.take n ++ [x]) (2 * n) := by
    conv => lhs; rw [e]
    rw [bv_ext env (ns.take n ++ [x]) _ (by simp; omega)]
  have h2 := bv_last env (ns.take n) x hk
  rw [hn] at h2
  rw [h1, h2, bv_take env ns (by omega) hl, bv_take env ns (by omega) hr]
theorem bv_zero (env : Nat → Bool) {ns : List Nd} (h : WF ns) : bv env ns 0 = false := by
  have e := split_at h.const
  rw [e, bv_ext env _ _ (by simp)]
  simp [bv, rv, nv, nvStep]
theorem bv_one (env : Nat → Bool) {ns : List Nd} (h : WF ns) : bv env ns 1 = true := by
  have := bv_neg env ns 0
  rw [bv_zero env h] at this
  exact this
theorem WF.sides {ns : List Nd} (h : WF ns) {n : Nat} {x : Nd} (hx : ns[n]? = some x) (hk : x.k = 3) : 2 ≤ x.l ∧ x.l < x.r ∧ x.l / 2 ≠ x.r / 2 ∧ x.r < 2 * n ∧ x.d = 1 + max (dep ns x.l) (dep ns x.r) := by
  rcases Nat.eq_zero_or_pos n with h0 | h0
  · subst h0
    rw [h.const] at hx; cases hx; simp at hk
  · rcases h.other n x hx h0 with rfl | ⟨_, h1⟩
    · simp at hk
    · exact h1
theorem andIs_sem (env : Nat → Bool) {ns : List Nd} (h : WF ns) {a b r : Nat} (hi : andIs a b = .known r) : bv env ns r = (bv env ns a && bv env ns b) := by
  unfold andIs at hi
  split at hi
  · rename_i h1
    cases hi
    rw [bv_zero env h]
    rcases h1 with h1 | h1
    · rcases Nat.le_total a b with hab | hab
      · rw [Nat.min_eq_left hab] at h1; subst h1; rw [bv_zero env h]; rfl
      · rw [Nat.min_eq_right hab] at h1; subst h1; rw [bv_zero env h]; simp
    · subst h1; rw [bv_neg]; cases bv env ns b <;> rfl
  · split at hi
    · rename_i h1
      cases hi
      rcases h1 with h1 | h1
      · rcases Nat.le_total a b with hab | hab
        · rw [Nat.min_eq_left hab] at h1; subst h1; rw [bv_one env h, Nat.max_eq_right hab]; rfl
        · rw [Nat.min_eq_right hab] at h1; subst h1; rw [bv_one env h, Nat.max_eq_left hab]; simp
      · subst h1; rw [Nat.max_self]; simp
    · cases hi
theorem minmax_sem (f : Nat → Bool) (a b : Nat) : (f (min a b) && f (max a b)) = (f a && f b) := by
  rcases Nat.le_total a b with hab | hab
  · rw [Nat.min_eq_left hab, Nat.max_eq_right hab]
  · rw [Nat.min_eq_right hab, Nat.max_eq_left hab, Bool.and_comm]
theorem and_sem (env : Nat → Bool) {G : Gra} (h : Ok G) {a b : Nat} (_ha : a < 2 * G.nodes.length) (_hb : b < 2 * G.nodes.length) (he : (and G a b).2.2 = 0) :
    bv env (and G a b).1.nodes (and G a b).2.1 = (bv env G.nodes a && bv env G.nodes b) := by
  unfold and at he ⊢
  split at he
  · rename_i r hi
    exact andIs_sem env h.wf hi
  · rename_i l r hi
    obtain ⟨rfl, rfl, h2, h3, h4⟩ := andIs_node hi
    split at he
    · rename_i n hn
      obtain ⟨x, hx, hk, hl, hr⟩ := findAnd_some hn
      obtain ⟨s1, s2, s3, s4, s5⟩ := h.wf.sides hx hk
      show bv env G.nodes (2 * n) = _
      rw [bv_node env hx hk (by omega) s4, hl, hr]
      exact minmax_sem (bv env G.nodes) a b
    · rename_i hn
      unfold put at he ⊢
      split at he
      · cases he
      · rename_i hm
        rw [if_neg hm]
        dsimp only
        rw [bv_last env _ _ rfl]
        exact minmax_sem (bv env G.nodes) a b
theorem mand_err0 {s : Mk} {a b : Nat} (h : (mand s a b).1.2 = 0) : s.2 = 0 ∧ mand s a b = (((and s.1 a b).1, (and s.1 a b).2.2), (and s.1 a b).2.1) ∧ (and s.1 a b).2.2 = 0 := by
  unfold mand at h ⊢
  split at h
  · rename_i h1; exact (h1 h).elim
  · rename_i h1
    rw [if_neg h1]
    exact ⟨by omega, rfl, h⟩
theorem mand_sem (env : Nat → Bool) {s : Mk} (h : MOk s) {a b : Nat} (ha : a < 2 * s.1.nodes.length) (hb : b < 2 * s.1.nodes.length) (he : (mand s a b).1.2 = 0) :
    bv env (mand s a b).1.1.nodes (mand s a b).2 = (bv env s.1.nodes a && bv env s.1.nodes b) := by
  obtain ⟨_, e, h0⟩ := mand_err0 he
  rw [e]
  exact and_sem env h.ok ha hb h0
theorem mor_sem (env : Nat → Bool) {s : Mk} (h : MOk s) {a b : Nat} (ha : a < 2 * s.1.nodes.length) (hb : b < 2 * s.1.nodes.length) (he : (mor s a b).1.2 = 0) :
    bv env (mor s a b).1.1.nodes (mor s a b).2 = (bv env s.1.nodes a || bv env s.1.nodes b) := by
  have := mand_sem env h (neg_lt ha) (neg_lt hb) he
  show bv env (mand s (neg a) (neg b)).1.1.nodes (neg (mand s (neg a) (neg b)).2) = _
  rw [bv_neg, this, bv_neg, bv_neg]
  cases bv env s.1.nodes a <;> cases bv env s.1.nodes b <;> rfl
theorem mmux_sem (env : Nat → Bool) {s : Mk} (h : MOk s) {c a b : Nat} (hc : c < 2 * s.1.nodes.length) (ha : a < 2 * s.1.nodes.length) (hb : b < 2 * s.1.nodes.length) (he : (mmux s c a b).1.2 = 0) :
    bv env (mmux s c a b).1.1.nodes (mmux s c a b).2 = (bv env s.1.nodes c && bv env s.1.nodes a || !bv env s.1.nodes c && bv env s.1.nodes b) := by
  obtain ⟨h1, h2, h3⟩ := mand_ok h hc ha
  obtain ⟨h4, h5, h6⟩ := mand_ok h1 (h2.lt (neg_lt hc)) (h2.lt hb)
  have e3 : (mor (mand (mand s c a).1 (neg c) b).1 (mand s c a).2 (mand (mand s c a).1 (neg c) b).2).1.2 = 0 := he
  have e2 := (mand_err0 (show (mand (mand (mand s c a).1 (neg c) b).1 (neg (mand s c a).2) (neg (mand (mand s c a).1 (neg c) b).2)).1.2 = 0 from e3)).1
  have e1 := (mand_err0 e2).1
  have s1 := mand_sem env h hc ha e1
  have s2 := mand_sem env h1 (h2.lt (neg_lt hc)) (h2.lt hb) e2
  have s3 := mor_sem env h4 (h5.lt h3) h6 e3
  show bv env (mor (mand (mand s c a).1 (neg c) b).1 (mand s c a).2 (mand (mand s c a).1 (neg c) b).2).1.1.nodes (mor (mand (mand s c a).1 (neg c) b).1 (mand s c a).2 (mand (mand s c a).1 (neg c) b).2).2 = _
  rw [s3, s2, bv_of env h5 h3, s1, bv_of env h2 (neg_lt hc), bv_of env h2 hb, bv_neg]
theorem mall_err0 : ∀ (l : List Nat) {s : Mk} {out : Nat}, (mall s out l).1.2 = 0 → s.2 = 0
  | [], _, _, h => h
  | _ :: l, _, _, h => (mand_err0 (mall_err0 l h)).1
theorem mall_sem (env : Nat → Bool) : ∀ (l : List Nat) {s : Mk} {out : Nat}, MOk s → out < 2 * s.1.nodes.length → (∀ r ∈ l, r < 2 * s.1.nodes.length) → (mall s out l).1.2 = 0 →
    bv env (mall s out l).1.1.nodes (mall s out l).2 = (bv env s.1.nodes out && l.all fun r => bv env s.1.nodes r)
  | [], s, out, _, _, _, _ => by simp [mall]
  | r :: l, s, out, h, ho, hl, he => by
    obtain ⟨h1, h2, h3⟩ := mand_ok h ho (hl r (by simp))
    have hr : ∀ x ∈ l, x < 2 * s.1.nodes.length := fun x hx => hl x (by simp [hx])
    have s2 := mall_sem env l h1 h3 (fun x hx => h2.lt (hr x hx)) he
    have s1 := mand_sem env h ho (hl r (by simp)) (mall_err0 l he)
    show bv env (mall (mand s out r).1 (mand s out r).2 l).1.1.nodes (mall (mand s out r).1 (mand s out r).2 l).2 = _
    rw [s2, s1, List.all_cons, ← Bool.and_assoc]
    congr 1
    rw [Bool.eq_iff_iff, List.all_eq_true, List.all_eq_true]
    exact ⟨fun q x hx => by rw [← bv_of env h2 (hr x hx)]; exact q x hx, fun q x hx => by rw [bv_of env h2 (hr x hx)]; exact q x hx⟩
end Go.Aig
namespace Go.Proofs.Ytkedpifopclipaa
open Go.RowKit Go.Mem Go.Aig
def rnCells (x : Nd) : List Value := [.int .i64 x.k, .int .i64 x.l, .int .i64 x.r]
def rCells : List Nd → List Value
  | [] => []
  | x :: ns => rnCells x ++ rCells ns
theorem rCells_length : ∀ ns : List Nd, (rCells ns).length = ns.length * 3
  | [] => rfl
  | x :: ns => by simp [rCells, rCells_length ns, rnCells]; omega
theorem rCells_append : ∀ (ns ms : List Nd), rCells (ns ++ ms) = rCells ns ++ rCells ms
  | [], _ => rfl
  | x :: ns, ms => by simp [rCells, rCells_append ns ms]
theorem rCells_get : ∀ {ns : List Nd} {n : Nat} {x : Nd} {j : Nat} {v : Value}, ns[n]? = some x → (rnCells x)[j]? = some v → (rCells ns)[n * 3 + j]? = some v
  | [], n, x, j, v, h, _ => by simp at h
  | y :: ns, 0, x, j, v, h, hv => by
    simp at h; subst h
    have : j < 3 := by have := (List.getElem?_eq_some_iff.1 hv).1; simpa [rnCells] using this
    simp only [rCells]
    rw [List.getElem?_append_left (by simp [rnCells]; omega)]
    simpa using hv
  | y :: ns, n + 1, x, j, v, h, hv => by
    simp only [rCells]
    rw [List.getElem?_append_right (by simp [rnCells]; omega)]
    have := rCells_get (ns := ns) (n := n) (x := x) (by simpa using h) hv
    rw [← this]
    congr 1
    simp [rnCells]
    omega
theorem rCells_one : ∀ (ns : List Nd) (u : Value), u ∈ rCells ns → u.oneCell' = true
  | [], u, h => by cases h
  | x :: ns, u, h => by
    rcases List.mem_append.1 h with h | h
    · simp [rnCells] at h
      rcases h with rfl | rfl | rfl <;> rfl
    · exact rCells_one ns u h
theorem rCells_take {ns : List Nd} {n : Nat} {j : Nat} {v : Value} (h : (rCells (ns.take n))[j]? = some v) : (rCells ns)[j]? = some v := by
  have e : rCells ns = rCells (ns.take n) ++ rCells (ns.drop n) := by rw [← rCells_append, List.take_append_drop]
  rw [e, List.getElem?_append_left (List.getElem?_eq_some_iff.1 h).1]
  exact h
/-- a graph of the reference, as a value: its nodes lie in a block -/
structure RG (w : World) (rb cap : Nat) (G : Gra) : Prop where
  cells : ∀ j u, (rCells G.nodes)[j]? = some u → w.cell? ⟨rb, j, none⟩ = some u
  lt : rb < w.heap.size
  le : G.nodes.length ≤ cap
  mx : cap ≤ 9223372036854775807
  ok : Ok G
theorem RG.ch {F : List Nat} {a w : World} {rb cap : Nat} {G : Gra} (h : RG a rb cap G) (hc : Ch F a w) (hF : rb ∉ F) : RG w rb cap G :=
  ⟨fun j u hu => (hc.cell (p := ⟨rb, j, none⟩) h.lt hF).trans (h.cells j u hu), Nat.lt_of_lt_of_le h.lt hc.size, h.le, h.mx, h.ok⟩
theorem RG.node {w : World} {rb cap : Nat} {G : Gra} (h : RG w rb cap G) {n : Nat} {x : Nd} (hx : G.nodes[n]? = some x) :
    w.cell? ⟨rb, n * 3, none⟩ = some (.int .i64 x.k) ∧ w.cell? ⟨rb, n * 3 + 1, none⟩ = some (.int .i64 x.l) ∧ w.cell? ⟨rb, n * 3 + 2, none⟩ = some (.int .i64 x.r) :=
  ⟨h.cells (n * 3 + 0) _ (rCells_get hx (j := 0) rfl), h.cells _ _ (rCells_get hx (j := 1) rfl), h.cells _ _ (rCells_get hx (j := 2) rfl)⟩
theorem RG.len {w : World} {rb cap : Nat} {G : Gra} (h : RG w rb cap G) : G.nodes.length ≤ 65536 ∧ 0 < G.nodes.length ∧ G.most ≤ 65536 := by
  have := h.ok.room; have := h.ok.most; have := h.ok.wf.pos; omega
/-- what a function of the reference returns: a graph, a reference, an error -/
def RTo (w : World) (rb : Nat) (R : Res) (e : Ending) (w' : World) : Prop := ∃ rb' cap', e = .returned (.tuple #[.agg #[.int .i64 R.1.most, .slice (some ⟨rb', 0, none⟩) R.1.nodes.length cap'], .int .i64 R.2.1, .int .i64 R.2.2]) ∧ RG w' rb' cap' R.1 ∧ Ch [] w w' ∧ (rb' = rb ∨ w.heap.size ≤ rb')
theorem infoRNode : (Try.prog.info? 229).map (fun i => (i.zero, i.size, i.bytes)) = some (some (.agg #[.int .i64 0, .int .i64 0, .int .i64 0]), 3, 24) := by kernel_rfl
theorem slRNodes : SliceTy Try.prog 120 229 3 24 (.agg #[.int .i64 0, .int .i64 0, .int .i64 0]) := ⟨Try.underlying120, infoRNode, rfl, by decide⟩
section
set_option maxRecDepth 100000 in
set_option maxHeartbeats 400000 in
theorem rNot_is (w : World) (r : Nat) (hr : r ≤ 9223372036854775806) : Calls Try.prog 199 #[.int .i64 r] w fun e w' => e = .returned (.int .i64 (neg r : Nat)) ∧ w = w' := by
  by_cases h : r % 2 = 0
  · have e : neg r = r + 1 := by unfold neg; rw [if_pos h]
    have q : ((r : Int) % 2 == 0) = true := by simp; omega
    rw [e]
    clear e h
    go_enter Try.func199, Try.ntmps199
    go_wp2_with fail
    go_ret
    exact ⟨ret_int (by omega), rfl⟩
  · have e : neg r = r - 1 := by unfold neg; rw [if_neg h]
    have q : ((r : Int) % 2 == 0) = false := by simp; omega
    have h1 : 1 ≤ r := by omega
    rw [e]
    clear e h
    go_enter Try.func199, Try.ntmps199
    go_wp2_with fail
    go_ret
    exact ⟨ret_int (by omega), rfl⟩
set_option maxRecDepth 100000 in
set_option maxHeartbeats 400000 in
theorem rRight_is {w : World} {rb cap : Nat} {G : Gra} (h : RG w rb cap G) (r : Int) : Calls Try.prog 151 #[.agg #[.int .i64 G.most, .slice (some ⟨rb, 0, none⟩) G.nodes.length cap], .int .i64 r] w fun e w' => e = .returned (.bool (right G.nodes r)) ∧ Ch [] w w' := by
  obtain ⟨hl, hp, hm⟩ := h.len
  have hle := h.le
  have hmx := h.mx
  clear h
  unfold right
  by_cases h0 : 0 ≤ r
  · by_cases h1 : r < 2 * G.nodes.length
    · have e : decide (0 ≤ r ∧ r < 2 * (G.nodes.length : Int)) = true := decide_eq_true ⟨h0, h1⟩
      rw [e]
      generalize G.nodes.length = n at *
      clear e
      go_enter Try.func151, Try.ntmps151
      go_wp2_with fail
      go_ret
      exact ⟨by simp [*], (Ch.refl _ _).alloc _⟩
    · have e : decide (0 ≤ r ∧ r < 2 * (G.nodes.length : Int)) = false := decide_eq_false (fun h => h1 h.2)
      rw [e]
      generalize G.nodes.length = n at *
      clear e
      go_enter Try.func151, Try.ntmps151
      go_wp2_with fail
      go_ret
      exact ⟨by simp [*], (Ch.refl _ _).alloc _⟩
  · have e : decide (0 ≤ r ∧ r < 2 * (G.nodes.length : Int)) = false := decide_eq_false (fun h => h0 h.1)
    rw [e]
    generalize G.nodes.length = n at *
    clear e
    go_enter Try.func151, Try.ntmps151
    go_wp2_with fail
    go_ret
    exact ⟨by simp [*], (Ch.refl _ _).alloc _⟩
set_option maxRecDepth 100000 in
set_option maxHeartbeats 400000 in
theorem rNew_no (w : World) (most : Int) (h : most < 1 ∨ 65536 < most) : Calls Try.prog 148 #[.int .i64 most] w fun e w' => e = .returned (.tuple #[.agg #[.int .i64 0, .slice none 0 0], .int .i64 2]) ∧ Ch [] w w' := by
  rcases h with h | h
  · go_enter Try.func148, Try.ntmps148
    go_wp2_with fail
    exact bodyPost_ret (v := .tuple #[.agg #[.int .i64 0, .slice none 0 0], .int .i64 2]) (by simp [results, Try.results148, go_sem]) rfl ⟨rfl, ((Ch.refl _ _).alloc _)⟩
  · have h1 : ¬ most < 1 := by omega
    go_enter Try.func148, Try.ntmps148
    go_wp2_with fail
    exact bodyPost_ret (v := .tuple #[.agg #[.int .i64 0, .slice none 0 0], .int .i64 2]) (by simp [results, Try.results148, go_sem]) rfl ⟨rfl, ((Ch.refl _ _).alloc _)⟩
set_option maxRecDepth 100000 in
set_option maxHeartbeats 400000 in
theorem rNew_yes (w : World) (most : Nat) (h1 : 1 ≤ most) (h2 : most ≤ 65536) : Calls Try.prog 148 #[.int .i64 most] w fun e w' => ∃ rb cap, e = .returned (.tuple #[.agg #[.int .i64 (newG most).most, .slice (some ⟨rb, 0, none⟩) (newG most).nodes.length cap], .int .i64 0]) ∧ RG w' rb cap (newG most) ∧ Ch [] w w' ∧ w.heap.size ≤ rb := by
  have HO := Lib.hid (newG_ok h1 h2)
  go_enter Try.func148, Try.ntmps148
  go_wp2_with fail
  have hb : blk ((w.alloc (.cells #[.int .i64 most, .slice (some ⟨w.heap.size + 1, 0, none⟩) 1 1] 122)).alloc (.cells #[.int .i64 1, .int .i64 0, .int .i64 0] 229)) (w.heap.size + 1) (rCells (newG most).nodes) := blk.new' (rCells (newG most).nodes) 229 (by simp)
  exact bodyPost_ret (v := .tuple #[.agg #[.int .i64 most, .slice (some ⟨w.heap.size + 1, 0, none⟩) 1 1], .int .i64 0]) (by simp [results, Try.results148, go_sem]) rfl ⟨_, 1, rfl, ⟨fun j u hu => hb.cell hu, hb.lt, Nat.le_refl _, by omega, HO.out⟩, ((Ch.refl _ _).alloc _).alloc _, by omega⟩
theorem row_new0 {w W : World} {e : TypeId} {size : Nat} (h : W = w.alloc (.cells #[] e)) : row W e size (.slice (some ⟨w.heap.size, 0, none⟩) 0 0) 0 [] :=
  ⟨by simp, .inr ⟨_, 0, #[], rfl, Nat.zero_le _, by rw [h]; exact heap_alloc_new w _, Nat.le_refl _, by unfold maxLen; omega, by simp, by simp⟩⟩
theorem new_lo {W0 w : World} (h : Ch [] W0 w) : ∀ k ∈ (Value.slice (some ⟨w.heap.size, 0, none⟩) 0 0).ownBlock.toList, W0.heap.size ≤ k := by
  intro k hk
  simp at hk
  subst hk
  exact h.size
theorem new_ne {w : World} {b : Nat} {xs : List Value} (h : blk w b xs) : ∀ k, (Value.slice (some ⟨w.heap.size, 0, none⟩) 0 0).ownBlock = some k → k ≠ b := by
  intro k hk
  simp at hk
  have := h.lt
  omega
theorem row_ne {w : World} {e : TypeId} {size : Nat} {v : Value} {n : Nat} {xs : List Value} (h : row w e size v n xs) : ∀ k, v.ownBlock = some k → k ≠ w.heap.size := fun k hk => by
  have := (h.lt k hk).2
  omega
theorem grow_ne {w : World} {b : Nat} {xs : List Value} {v v' : Value} (h : blk w b xs) (hx : ∀ k, v.ownBlock = some k → k ≠ b) (hf : ∀ k, v'.ownBlock = some k → v.ownBlock = some k ∨ w.heap.size ≤ k) : ∀ k, v'.ownBlock = some k → k ≠ b := fun k hk =>
  (hf k hk).elim (hx k) (fun e => by have := h.lt; omega)
theorem grow_lo {W0 w : World} {v v' : Value} (h : Ch [] W0 w) (hl : ∀ k ∈ v.ownBlock.toList, W0.heap.size ≤ k) (hf : ∀ k, v'.ownBlock = some k → v.ownBlock = some k ∨ w.heap.size ≤ k) : ∀ k ∈ v'.ownBlock.toList, W0.heap.size ≤ k := fun k hk =>
  (hf k (by simpa using hk)).elim (fun e => hl k (by simpa using e)) (fun e => Nat.le_trans h.size e)
theorem not_own {v : Value} {b : Nat} (hx : ∀ k, v.ownBlock = some k → k ≠ b) : b ∉ v.ownBlock.toList := fun hin => hx b (Option.mem_toList.1 hin) rfl
theorem row_cap {w : World} {e : TypeId} {size : Nat} {a : Option Addr} {n c m : Nat} {xs : List Value} (h : row w e size (.slice a n c) m xs) : m ≤ c ∧ c ≤ 9223372036854775807 := by
  rcases h.2 with ⟨e1, h0⟩ | ⟨g', cap', cur, e1, _, _, h1, h2, _⟩
  · cases e1; omega
  · cases e1; exact ⟨h1, by unfold maxLen at h2; exact h2⟩
/-- the world under a name -/
theorem wp_alw {P : Program} {c : Code} {Q : Exit → Act → World → Prop} {a : Act} {w : World} (h : ∀ W, W = w → Code.wp P c Q a W) : Code.wp P c Q a w := h w rfl
set_option maxRecDepth 100000 in
set_option maxHeartbeats 1000000 in
theorem rPut_no {w : World} {rb cap : Nat} {G : Gra} (h : RG w rb cap G) (x : Nd) (hm : G.most ≤ G.nodes.length) : Calls Try.prog 149 #[.agg #[.int .i64 G.most, .slice (some ⟨rb, 0, none⟩) G.nodes.length cap], .agg #[.int .i64 x.k, .int .i64 x.l, .int .i64 x.r]] w (RTo w rb (put G x)) := by
  have e : put G x = (G, 0, 201) := by unfold put; rw [if_pos hm]
  rw [e]
  have H := Lib.hid h; clear h
  have hd : decide (G.most ≤ G.nodes.length) = true := decide_eq_true hm
  clear e
  go_enter Try.func149, Try.ntmps149
  go_wp2_with fail
  have hc : Ch [] w (((w.alloc (.cells #[.int .i64 G.most, .slice (some ⟨rb, 0, none⟩) G.nodes.length cap] 122)).alloc (.cells #[.int .i64 x.k, .int .i64 x.l, .int .i64 x.r] 229)).alloc (.cells #[.int .i64 G.most, .slice (some ⟨rb, 0, none⟩) G.nodes.length cap] 122)) := (((Ch.refl _ _).alloc _).alloc _).alloc _
  exact bodyPost_ret (v := .tuple #[.agg #[.int .i64 G.most, .slice (some ⟨rb, 0, none⟩) G.nodes.length cap], .int .i64 0, .int .i64 201]) (by simp [results, Try.results149, go_sem]) rfl ⟨rb, cap, rfl, H.out.ch hc (by simp), hc, .inl rfl⟩
set_option maxRecDepth 100000 in
set_option maxHeartbeats 1000000 in
theorem rPut_yes {w : World} {rb cap : Nat} {G : Gra} (h : RG w rb cap G) (x : Nd) (hm : G.nodes.length < G.most) (ho2 : Ok { G with nodes := G.nodes ++ [x] }) : Calls Try.prog 149 #[.agg #[.int .i64 G.most, .slice (some ⟨rb, 0, none⟩) G.nodes.length cap], .agg #[.int .i64 x.k, .int .i64 x.l, .int .i64 x.r]] w (RTo w rb (put G x)) := by
  have e : put G x = ({ G with nodes := G.nodes ++ [x] }, 2 * G.nodes.length, 0) := by unfold put; rw [if_neg (by omega)]
  rw [e]
  have HO2 := Lib.hid ho2; clear ho2
  have H := Lib.hid h; clear h
  have hd : decide (G.most ≤ G.nodes.length) = false := decide_eq_false (by omega)
  clear e
  go_enter Try.func149, Try.ntmps149
  go_wp2_with fail
  refine wp_alw ?_
  intro W0 hW0
  have hc0 : Ch [] w W0 := by rw [hW0]; exact (((Ch.refl _ _).alloc _).alloc _).alloc _
  have b2 : blk W0 w.heap.size [.int .i64 G.most, .slice (some ⟨rb, 0, none⟩) G.nodes.length cap] := by rw [hW0]; exact ((blk.new' (w := w) [.int .i64 G.most, .slice (some ⟨rb, 0, none⟩) G.nodes.length cap] 122 rfl).alloc _).alloc _
  have b3 : blk W0 (w.heap.size + 1) [.int .i64 x.k, .int .i64 x.l, .int .i64 x.r] := by rw [hW0]; exact (blk.new' [.int .i64 x.k, .int .i64 x.l, .int .i64 x.r] 229 (by simp)).alloc _
  have b4 : blk W0 (w.heap.size + 1 + 1) [.int .i64 0, .slice none 0 0] := by rw [hW0]; exact blk.new' [.int .i64 0, .slice none 0 0] 122 (by simp)
  clear hW0
  have H0 := H.out.ch hc0 (by simp)
  have hrb := H.out.lt
  obtain ⟨hl, hp, hmo⟩ := H0.len
  have hle := H0.le
  have hmx := H0.mx
  have B2 := Lib.hid b2; clear b2
  have B3 := Lib.hid b3; clear b3
  have B4 := Lib.hid b4; clear b4
  have HC0 := Lib.hid hc0; clear hc0
  have HH := Lib.hid H0; clear H0 H hd
  obtain ⟨n, hn⟩ : ∃ n, G.nodes.length = n := ⟨_, rfl⟩
  have HN := Lib.hid hn
  rw [hn] at hl hp hle hm
  have hs0 := HC0.out.size
  refine Ord.St.door (fun w' => Ch [] W0 w') [.ef, .fl, .ho, .ef, .ho, .ef, .ef, .fl, .ef] [0, 0, 2, 7, 0, 16, 63, 127, 255] [0, 1, 2, 3, 4, 5, 6, 7, 8] mixed (by kernel_rfl) rfl ?_
  obtain ⟨Wc, hWc⟩ : ∃ Wc, Wc = W0.drew := ⟨_, rfl⟩
  rw [← hWc]
  have hcur : Ch [] W0 Wc := by rw [hWc]; exact (Ch.refl _ _).drew
  clear hWc
  refine Ord.St.fl2 (T' := ?_) 1 [0, 2, 3, 4, 5, 6, 7, 8] _ _ rfl (by kernel_rfl) rfl rfl rfl rfl (fun K w' hk => ?_) ?_
  rotate_left
  · go_step; exact hk
  refine Ord.St.ho2 (T' := ?_) 2 [0, 3, 4, 5, 6, 7, 8] _ _ rfl (by kernel_rfl) rfl rfl rfl rfl ?_ (fun K w' hw' hk => ?_) ?_
  rotate_left
  · trivial
  · have y1 := (B2.out.ch hw' (by simp)).cell (i := 1) rfl; have z0 := (B3.out.ch hw' (by simp)).cell (i := 0) rfl; have z1 := (B3.out.ch hw' (by simp)).cell (i := 1) rfl; have z2 := (B3.out.ch hw' (by simp)).cell (i := 2) rfl; go_step; exact hk
  refine Ord.St.ho2 (T' := ?_) 4 [0, 3, 5, 6, 7, 8] _ _ rfl (by kernel_rfl) rfl rfl rfl rfl ?_ (fun K w' hw' hk => ?_) ?_
  rotate_left
  · trivial
  · have y1 := (B2.out.ch hw' (by simp)).cell (i := 1) rfl; have z0 := (B3.out.ch hw' (by simp)).cell (i := 0) rfl; have z1 := (B3.out.ch hw' (by simp)).cell (i := 1) rfl; have z2 := (B3.out.ch hw' (by simp)).cell (i := 2) rfl; go_step; exact hk
  refine Ord.St.two 0 5 [3, 5, 6, 7, 8] [0, 3, 6, 7, 8] _ _ (by kernel_rfl) rfl rfl (by kernel_rfl) (by kernel_rfl) (fun K hK => ?_) (fun K hK => ?_)
  · go_wp2_with fail
    refine ⟨rfl, hK _ _ ?_ ?_⟩
    · exact hcur.alloc _
    clear hK K
    refine Ord.St.alw ?_; intro Wn hWn
    have hrow := row_new0 (e := 229) (size := 3) hWn
    have hlo := new_lo hcur
    try have hx := new_ne hb5
    try replace hb5 := hb5.ch (alw_ch hWn) (by simp)
    replace hcur := hcur.trans (alw_ch hWn) (by simp)
    clear hWn
    refine Ord.St.two 3 5 [5, 6, 7, 8] [3, 6, 7, 8] _ _ (by kernel_rfl) rfl rfl (by kernel_rfl) (by kernel_rfl) (fun K hK => ?_) (fun K hK => ?_)
    · have hnews : ∀ j u, (rCells G.nodes)[j]? = some u → _ := (HH.out.ch hcur (by simp)).cells
      have HNW := Lib.hid hnews; clear hnews
      have HROW := Lib.hid hrow; clear hrow
      go_wp2_with (at_builtin; go_loud (refine wpList_append_row slRNodes rfl _ _ rfl (v := .slice (some ⟨_, 0, none⟩) 0 0) (n := 0) (xs := []) rfl HROW.out (ad := ⟨rb, 0, none⟩) (m := n) (c := cap) (news := rCells G.nodes) rfl (by rw [rCells_length, HN.out]) (by intro j u hu; rw [Addr.add_lit, Nat.zero_add]; exact HNW.out j u hu) (rCells_one _) (by omega) (by omega) ?_; intro v1 wA hr1 hcA hfA; rw [Nat.zero_add, List.nil_append] at hr1; obtain ⟨ba, rca, rfl⟩ := row.parts hr1 (by omega)))
      refine ⟨rfl, hK _ _ ?_ ?_⟩
      · exact hcur.trans hcA (fun k hk => .inr (hlo k hk))
      clear hK K
      have hrow := hr1
      try have hx2 := grow_ne hb5 hx hfA
      try replace hb5 := hb5.ch hcA (not_own hx)
      try clear hx
      try have hx := hx2
      have hlo2 := grow_lo hcur hlo hfA
      replace hcur := hcur.trans hcA (fun k hk => .inr (hlo k hk))
      clear hlo
      have hlo := hlo2
      clear hcA hfA hr1 HROW HNW hlo2
      refine Ord.St.efC 5 [6, 7, 8] _ rfl (by kernel_rfl) (fun K hK => ?_)
      go_wp2_with fail
      refine ⟨rfl, hK _ _ ?_ ?_⟩
      · exact hcur.alloc _
      clear hK K
      refine Ord.St.alw ?_; intro Wn hWn
      have hb5 := alw_blk (xs := [.int .i64 x.k, .int .i64 x.l, .int .i64 x.r]) hWn
      try have hx := row_ne hrow
      try replace hrow := hrow.ch (alw_ch hWn) (by simp)
      replace hcur := hcur.trans (alw_ch hWn) (by simp)
      clear hWn
      refine Ord.St.ef 6 [7, 8] _ rfl (by kernel_rfl) (fun K hK => ?_)
      have HROW := Lib.hid hrow; clear hrow
      have HX := Lib.hid hx; clear hx
      have HB5 := Lib.hid hb5; clear hb5
      have HLO := Lib.hid hlo; clear hlo
      have HCUR := Lib.hid hcur; clear hcur
      go_wp2_with (at_builtin; go_loud (refine wpList_append_row slRNodes rfl _ _ rfl (v := .slice (some ⟨ba, 0, none⟩) n rca) (n := n) (xs := rCells G.nodes) rfl HROW.out (ad := ⟨_, 0, none⟩) (m := 1) (c := 1) (news := [.int .i64 x.k, .int .i64 x.l, .int .i64 x.r]) rfl rfl (news_blk HB5.out) (by simp [Value.oneCell']) (by omega) (by omega) ?_; intro v2 wB hr2 hcB hfB; obtain ⟨bb, rcb, rfl⟩ := row.parts hr2 (by omega); have hlo2 := grow_lo HCUR.out HLO.out hfB; have hcur := HCUR.out.trans hcB (fun k hk => .inr (HLO.out k hk))))
      refine ⟨rfl, hK _ _ ?_⟩; clear hK K
      clear hcB hfB
      have b2 := B2.out.ch hcur (by simp)
      have b4 := B4.out.ch hcur (by simp)
      have hne2 : bb ≠ w.heap.size := by have := hlo2 bb (by simp); have := B2.out.lt; omega
      have hne4 : bb ≠ w.heap.size + 1 + 1 := by have := hlo2 bb (by simp); have := B4.out.lt; omega
      have hwb : w.heap.size ≤ bb := by have := hlo2 bb (by simp); omega
      have y1 := b2.cell (i := 1) rfl
      have f1 := b2.frozen (i := 1)
      have BB2 := Lib.hid b2; clear b2
      have BB4 := Lib.hid b4; clear b4
      have HR2 := Lib.hid hr2; clear hr2
      clear hlo2
      refine Ord.St.fl2 (T' := ?_) 7 [8] _ _ rfl (by kernel_rfl) rfl rfl rfl rfl (fun K w' hk => ?_) ?_
      rotate_left
      · go_step; exact hk
      refine Ord.St.ef 8 [] _ rfl (by kernel_rfl) (fun K hK => ?_)
      go_wp2_with fail
      refine ⟨rfl, hK _ _ ?_⟩; clear hK K
      refine Ord.St.nil ?_
      go_wp2_with fail
      refine wp_alw ?_
      intro W5 hW5
      have b2 : blk W5 w.heap.size [.int .i64 G.most, .slice (some ⟨bb, 0, none⟩) (n + 1) rcb] := by rw [hW5]; exact BB2.out.set _
      have hc5 : Ch [w.heap.size] wB W5 := by rw [hW5]; exact (Ch.refl _ _).setCell (by simp) _
      have b4 := BB4.out.ch hc5 (by simp; omega)
      have hr5 := HR2.out.ch hc5 (by intro k hk; simp at hk; subst hk; simpa using hne2)
      have hc05 : Ch [] w W5 := (HC0.out.trans hcur (by simp)).trans hc5 (by simp)
      have y0 := b2.cell (i := 0) rfl
      have y1 := b2.cell (i := 1) rfl
      have z0 := b4.cell (i := 0) rfl
      have z1 := b4.cell (i := 1) rfl
      have f0 := b4.frozen (i := 0)
      have f1' := b4.frozen (i := 1)
      have BB2' := Lib.hid b2; clear b2
      have BB4' := Lib.hid b4; clear b4
      have HR5 := Lib.hid hr5; clear hr5
      have HC5 := Lib.hid hc05; clear hc05 hc5
      clear hW5 BB2 BB4 HR2 f1
      refine Ord.St.door (fun w' => w'.cell? ⟨w.heap.size, 1, none⟩ = some (.slice (some ⟨bb, 0, none⟩) (n + 1) rcb)) [.rd, .fl, .ho, .fl, .fl, .fl, .ef, .fl, .fl] [0, 0, 2, 6, 14, 30, 1, 127, 255] [0, 1, 2, 3, 4, 5, 6, 7, 8] mixed (by kernel_rfl) rfl ?_
      refine Ord.St.rd2 (T' := ?_) 0 [1, 2, 3, 4, 5, 6, 7, 8] _ _ rfl (by kernel_rfl) rfl rfl rfl rfl (fun K hk => ?_) ?_
      rotate_left
      · go_step; exact hk
      refine Ord.St.fl2 (T' := ?_) 1 [2, 3, 4, 5, 6, 7, 8] _ _ rfl (by kernel_rfl) rfl rfl rfl rfl (fun K w' hk => ?_) ?_
      rotate_left
      · go_step; exact hk
      refine Ord.St.ho2 (T' := ?_) 2 [3, 4, 5, 6, 7, 8] _ _ rfl (by kernel_rfl) rfl rfl rfl rfl ?_ (fun K w' hw' hk => ?_) ?_
      rotate_left
      · trivial
      · skip; go_step; exact hk
      refine Ord.St.fl2 (T' := ?_) 3 [4, 5, 6, 7, 8] _ _ rfl (by kernel_rfl) rfl rfl rfl rfl (fun K w' hk => ?_) ?_
      rotate_left
      · go_step; exact hk
      refine Ord.St.fl2 (T' := ?_) 4 [5, 6, 7, 8] _ _ rfl (by kernel_rfl) rfl rfl rfl rfl (fun K w' hk => ?_) ?_
      rotate_left
      · go_step; exact hk
      refine Ord.St.fl2 (T' := ?_) 5 [6, 7, 8] _ _ rfl (by kernel_rfl) rfl rfl rfl rfl (fun K w' hk => ?_) ?_
      rotate_left
      · go_step; exact hk
      refine Ord.St.efC 6 [7, 8] _ rfl (by kernel_rfl) (fun K hK => ?_)
      go_wp2_with fail
      refine ⟨rfl, hK _ _ ?_ ?_⟩
      · go_simp
      clear hK K
      refine Ord.St.fl2 (T' := ?_) 7 [8] _ _ rfl (by kernel_rfl) rfl rfl rfl rfl (fun K w' hk => ?_) ?_
      rotate_left
      · go_step; exact hk
      refine Ord.St.fl2 (T' := ?_) 8 [] _ _ rfl (by kernel_rfl) rfl rfl rfl rfl (fun K w' hk => ?_) ?_
      rotate_left
      · go_step; exact hk
      refine Ord.St.nil ?_
      go_wp2_with fail
      have hc9 : Ch [w.heap.size + 1 + 1] W5 ((W5.setCell ⟨w.heap.size + 1 + 1, 0, none⟩ (.int .i64 G.most)).setCell ⟨w.heap.size + 1 + 1, 1, none⟩ (.slice (some ⟨bb, 0, none⟩) (n + 1) rcb)).drew := (((Ch.refl _ _).setCell (by simp) _).setCell (by simp) _).drew
      have hr9 := HR5.out.ch hc9 (by intro k hk; simp at hk; subst hk; simpa using hne4)
      have hcap := row_cap hr9
      refine bodyPost_ret (v := .tuple #[.agg #[.int .i64 G.most, .slice (some ⟨bb, 0, none⟩) (n + 1) rcb], .int .i64 (2 * n), .int .i64 0]) (by simp [results, Try.results149, go_sem, z0, z1]) rfl ?_
      refine ⟨bb, rcb, ?_, ⟨fun j u hu => ?_, ?_, ?_, hcap.2, HO2.out⟩, HC5.out.trans hc9 (fun k hk => .inr (by simp at hk; omega)), .inr hwb⟩
      · simp [HN.out]
      · rw [rCells_append] at hu; have := hr9.cells (g := bb) rfl j u (by simpa [rCells, rnCells] using hu); rwa [Addr.add_lit, Nat.zero_add] at this
      · exact (hr9.lt bb rfl).2
      · simpa [HN.out] using hcap.1
    · go_wp2_with fail
      refine ⟨rfl, hK _ _ ?_ ?_⟩
      · exact hcur.alloc _
      clear hK K
      refine Ord.St.alw ?_; intro Wn hWn
      have hb5 := alw_blk (xs := [.int .i64 x.k, .int .i64 x.l, .int .i64 x.r]) hWn
      try have hx := row_ne hrow
      try replace hrow := hrow.ch (alw_ch hWn) (by simp)
      replace hcur := hcur.trans (alw_ch hWn) (by simp)
      clear hWn
      refine Ord.St.efC 3 [6, 7, 8] _ rfl (by kernel_rfl) (fun K hK => ?_)
      have hnews : ∀ j u, (rCells G.nodes)[j]? = some u → _ := (HH.out.ch hcur (by simp)).cells
      have HNW := Lib.hid hnews; clear hnews
      have HROW := Lib.hid hrow; clear hrow
      go_wp2_with (at_builtin; go_loud (refine wpList_append_row slRNodes rfl _ _ rfl (v := .slice (some ⟨_, 0, none⟩) 0 0) (n := 0) (xs := []) rfl HROW.out (ad := ⟨rb, 0, none⟩) (m := n) (c := cap) (news := rCells G.nodes) rfl (by rw [rCells_length, HN.out]) (by intro j u hu; rw [Addr.add_lit, Nat.zero_add]; exact HNW.out j u hu) (rCells_one _) (by omega) (by omega) ?_; intro v1 wA hr1 hcA hfA; rw [Nat.zero_add, List.nil_append] at hr1; obtain ⟨ba, rca, rfl⟩ := row.parts hr1 (by omega)))
      refine ⟨rfl, hK _ _ ?_ ?_⟩
      · exact hcur.trans hcA (fun k hk => .inr (hlo k hk))
      clear hK K
      have hrow := hr1
      try have hx2 := grow_ne hb5 hx hfA
      try replace hb5 := hb5.ch hcA (not_own hx)
      try clear hx
      try have hx := hx2
      have hlo2 := grow_lo hcur hlo hfA
      replace hcur := hcur.trans hcA (fun k hk => .inr (hlo k hk))
      clear hlo
      have hlo := hlo2
      clear hcA hfA hr1 HROW HNW hlo2
      refine Ord.St.ef 6 [7, 8] _ rfl (by kernel_rfl) (fun K hK => ?_)
      have HROW := Lib.hid hrow; clear hrow
      have HX := Lib.hid hx; clear hx
      have HB5 := Lib.hid hb5; clear hb5
      have HLO := Lib.hid hlo; clear hlo
      have HCUR := Lib.hid hcur; clear hcur
      go_wp2_with (at_builtin; go_loud (refine wpList_append_row slRNodes rfl _ _ rfl (v := .slice (some ⟨ba, 0, none⟩) n rca) (n := n) (xs := rCells G.nodes) rfl HROW.out (ad := ⟨_, 0, none⟩) (m := 1) (c := 1) (news := [.int .i64 x.k, .int .i64 x.l, .int .i64 x.r]) rfl rfl (news_blk HB5.out) (by simp [Value.oneCell']) (by omega) (by omega) ?_; intro v2 wB hr2 hcB hfB; obtain ⟨bb, rcb, rfl⟩ := row.parts hr2 (by omega); have hlo2 := grow_lo HCUR.out HLO.out hfB; have hcur := HCUR.out.trans hcB (fun k hk => .inr (HLO.out k hk))))
      refine ⟨rfl, hK _ _ ?_⟩; clear hK K
      clear hcB hfB
      have b2 := B2.out.ch hcur (by simp)
      have b4 := B4.out.ch hcur (by simp)
      have hne2 : bb ≠ w.heap.size := by have := hlo2 bb (by simp); have := B2.out.lt; omega
      have hne4 : bb ≠ w.heap.size + 1 + 1 := by have := hlo2 bb (by simp); have := B4.out.lt; omega
      have hwb : w.heap.size ≤ bb := by have := hlo2 bb (by simp); omega
      have y1 := b2.cell (i := 1) rfl
      have f1 := b2.frozen (i := 1)
      have BB2 := Lib.hid b2; clear b2
      have BB4 := Lib.hid b4; clear b4
      have HR2 := Lib.hid hr2; clear hr2
      clear hlo2
      refine Ord.St.fl2 (T' := ?_) 7 [8] _ _ rfl (by kernel_rfl) rfl rfl rfl rfl (fun K w' hk => ?_) ?_
      rotate_left
      · go_step; exact hk
      refine Ord.St.ef 8 [] _ rfl (by kernel_rfl) (fun K hK => ?_)
      go_wp2_with fail
      refine ⟨rfl, hK _ _ ?_⟩; clear hK K
      refine Ord.St.nil ?_
      go_wp2_with fail
      refine wp_alw ?_
      intro W5 hW5
      have b2 : blk W5 w.heap.size [.int .i64 G.most, .slice (some ⟨bb, 0, none⟩) (n + 1) rcb] := by rw [hW5]; exact BB2.out.set _
      have hc5 : Ch [w.heap.size] wB W5 := by rw [hW5]; exact (Ch.refl _ _).setCell (by simp) _
      have b4 := BB4.out.ch hc5 (by simp; omega)
      have hr5 := HR2.out.ch hc5 (by intro k hk; simp at hk; subst hk; simpa using hne2)
      have hc05 : Ch [] w W5 := (HC0.out.trans hcur (by simp)).trans hc5 (by simp)
      have y0 := b2.cell (i := 0) rfl
      have y1 := b2.cell (i := 1) rfl
      have z0 := b4.cell (i := 0) rfl
      have z1 := b4.cell (i := 1) rfl
      have f0 := b4.frozen (i := 0)
      have f1' := b4.frozen (i := 1)
      have BB2' := Lib.hid b2; clear b2
      have BB4' := Lib.hid b4; clear b4
      have HR5 := Lib.hid hr5; clear hr5
      have HC5 := Lib.hid hc05; clear hc05 hc5
      clear hW5 BB2 BB4 HR2 f1
      refine Ord.St.door (fun w' => w'.cell? ⟨w.heap.size, 1, none⟩ = some (.slice (some ⟨bb, 0, none⟩) (n + 1) rcb)) [.rd, .fl, .ho, .fl, .fl, .fl, .ef, .fl, .fl] [0, 0, 2, 6, 14, 30, 1, 127, 255] [0, 1, 2, 3, 4, 5, 6, 7, 8] mixed (by kernel_rfl) rfl ?_
      refine Ord.St.rd2 (T' := ?_) 0 [1, 2, 3, 4, 5, 6, 7, 8] _ _ rfl (by kernel_rfl) rfl rfl rfl rfl (fun K hk => ?_) ?_
      rotate_left
      · go_step; exact hk
      refine Ord.St.fl2 (T' := ?_) 1 [2, 3, 4, 5, 6, 7, 8] _ _ rfl (by kernel_rfl) rfl rfl rfl rfl (fun K w' hk => ?_) ?_
      rotate_left
      · go_step; exact hk
      refine Ord.St.ho2 (T' := ?_) 2 [3, 4, 5, 6, 7, 8] _ _ rfl (by kernel_rfl) rfl rfl rfl rfl ?_ (fun K w' hw' hk => ?_) ?_
      rotate_left
      · trivial
      · skip; go_step; exact hk
      refine Ord.St.fl2 (T' := ?_) 3 [4, 5, 6, 7, 8] _ _ rfl (by kernel_rfl) rfl rfl rfl rfl (fun K w' hk => ?_) ?_
      rotate_left
      · go_step; exact hk
      refine Ord.St.fl2 (T' := ?_) 4 [5, 6, 7, 8] _ _ rfl (by kernel_rfl) rfl rfl rfl rfl (fun K w' hk => ?_) ?_
      rotate_left
      · go_step; exact hk
      refine Ord.St.fl2 (T' := ?_) 5 [6, 7, 8] _ _ rfl (by kernel_rfl) rfl rfl rfl rfl (fun K w' hk => ?_) ?_
      rotate_left
      · go_step; exact hk
      refine Ord.St.efC 6 [7, 8] _ rfl (by kernel_rfl) (fun K hK => ?_)
      go_wp2_with fail
      refine ⟨rfl, hK _ _ ?_ ?_⟩
      · go_simp
      clear hK K
      refine Ord.St.fl2 (T' := ?_) 7 [8] _ _ rfl (by kernel_rfl) rfl rfl rfl rfl (fun K w' hk => ?_) ?_
      rotate_left
      · go_step; exact hk
      refine Ord.St.fl2 (T' := ?_) 8 [] _ _ rfl (by kernel_rfl) rfl rfl rfl rfl (fun K w' hk => ?_) ?_
      rotate_left
      · go_step; exact hk
      refine Ord.St.nil ?_
      go_wp2_with fail
      have hc9 : Ch [w.heap.size + 1 + 1] W5 ((W5.setCell ⟨w.heap.size + 1 + 1, 0, none⟩ (.int .i64 G.most)).setCell ⟨w.heap.size + 1 + 1, 1, none⟩ (.slice (some ⟨bb, 0, none⟩) (n + 1) rcb)).drew := (((Ch.refl _ _).setCell (by simp) _).setCell (by simp) _).drew
      have hr9 := HR5.out.ch hc9 (by intro k hk; simp at hk; subst hk; simpa using hne4)
      have hcap := row_cap hr9
      refine bodyPost_ret (v := .tuple #[.agg #[.int .i64 G.most, .slice (some ⟨bb, 0, none⟩) (n + 1) rcb], .int .i64 (2 * n), .int .i64 0]) (by simp [results, Try.results149, go_sem, z0, z1]) rfl ?_
      refine ⟨bb, rcb, ?_, ⟨fun j u hu => ?_, ?_, ?_, hcap.2, HO2.out⟩, HC5.out.trans hc9 (fun k hk => .inr (by simp at hk; omega)), .inr hwb⟩
      · simp [HN.out]
      · rw [rCells_append] at hu; have := hr9.cells (g := bb) rfl j u (by simpa [rCells, rnCells] using hu); rwa [Addr.add_lit, Nat.zero_add] at this
      · exact (hr9.lt bb rfl).2
      · simpa [HN.out] using hcap.1
  · go_wp2_with fail
    refine ⟨rfl, hK _ _ ?_ ?_⟩
    · exact hcur.alloc _
    clear hK K
    refine Ord.St.alw ?_; intro Wn hWn
    have hb5 := alw_blk (xs := [.int .i64 x.k, .int .i64 x.l, .int .i64 x.r]) hWn
    try have hx := row_ne hrow
    try replace hrow := hrow.ch (alw_ch hWn) (by simp)
    replace hcur := hcur.trans (alw_ch hWn) (by simp)
    clear hWn
    refine Ord.St.efC 0 [3, 6, 7, 8] _ rfl (by kernel_rfl) (fun K hK => ?_)
    go_wp2_with fail
    refine ⟨rfl, hK _ _ ?_ ?_⟩
    · exact hcur.alloc _
    clear hK K
    refine Ord.St.alw ?_; intro Wn hWn
    have hrow := row_new0 (e := 229) (size := 3) hWn
    have hlo := new_lo hcur
    try have hx := new_ne hb5
    try replace hb5 := hb5.ch (alw_ch hWn) (by simp)
    replace hcur := hcur.trans (alw_ch hWn) (by simp)
    clear hWn
    refine Ord.St.efC 3 [6, 7, 8] _ rfl (by kernel_rfl) (fun K hK => ?_)
    have hnews : ∀ j u, (rCells G.nodes)[j]? = some u → _ := (HH.out.ch hcur (by simp)).cells
    have HNW := Lib.hid hnews; clear hnews
    have HROW := Lib.hid hrow; clear hrow
    go_wp2_with (at_builtin; go_loud (refine wpList_append_row slRNodes rfl _ _ rfl (v := .slice (some ⟨_, 0, none⟩) 0 0) (n := 0) (xs := []) rfl HROW.out (ad := ⟨rb, 0, none⟩) (m := n) (c := cap) (news := rCells G.nodes) rfl (by rw [rCells_length, HN.out]) (by intro j u hu; rw [Addr.add_lit, Nat.zero_add]; exact HNW.out j u hu) (rCells_one _) (by omega) (by omega) ?_; intro v1 wA hr1 hcA hfA; rw [Nat.zero_add, List.nil_append] at hr1; obtain ⟨ba, rca, rfl⟩ := row.parts hr1 (by omega)))
    refine ⟨rfl, hK _ _ ?_ ?_⟩
    · exact hcur.trans hcA (fun k hk => .inr (hlo k hk))
    clear hK K
    have hrow := hr1
    try have hx2 := grow_ne hb5 hx hfA
    try replace hb5 := hb5.ch hcA (not_own hx)
    try clear hx
    try have hx := hx2
    have hlo2 := grow_lo hcur hlo hfA
    replace hcur := hcur.trans hcA (fun k hk => .inr (hlo k hk))
    clear hlo
    have hlo := hlo2
    clear hcA hfA hr1 HROW HNW hlo2
    refine Ord.St.ef 6 [7, 8] _ rfl (by kernel_rfl) (fun K hK => ?_)
    have HROW := Lib.hid hrow; clear hrow
    have HX := Lib.hid hx; clear hx
    have HB5 := Lib.hid hb5; clear hb5
    have HLO := Lib.hid hlo; clear hlo
    have HCUR := Lib.hid hcur; clear hcur
    go_wp2_with (at_builtin; go_loud (refine wpList_append_row slRNodes rfl _ _ rfl (v := .slice (some ⟨ba, 0, none⟩) n rca) (n := n) (xs := rCells G.nodes) rfl HROW.out (ad := ⟨_, 0, none⟩) (m := 1) (c := 1) (news := [.int .i64 x.k, .int .i64 x.l, .int .i64 x.r]) rfl rfl (news_blk HB5.out) (by simp [Value.oneCell']) (by omega) (by omega) ?_; intro v2 wB hr2 hcB hfB; obtain ⟨bb, rcb, rfl⟩ := row.parts hr2 (by omega); have hlo2 := grow_lo HCUR.out HLO.out hfB; have hcur := HCUR.out.trans hcB (fun k hk => .inr (HLO.out k hk))))
    refine ⟨rfl, hK _ _ ?_⟩; clear hK K
    clear hcB hfB
    have b2 := B2.out.ch hcur (by simp)
    have b4 := B4.out.ch hcur (by simp)
    have hne2 : bb ≠ w.heap.size := by have := hlo2 bb (by simp); have := B2.out.lt; omega
    have hne4 : bb ≠ w.heap.size + 1 + 1 := by have := hlo2 bb (by simp); have := B4.out.lt; omega
    have hwb : w.heap.size ≤ bb := by have := hlo2 bb (by simp); omega
    have y1 := b2.cell (i := 1) rfl
    have f1 := b2.frozen (i := 1)
    have BB2 := Lib.hid b2; clear b2
    have BB4 := Lib.hid b4; clear b4
    have HR2 := Lib.hid hr2; clear hr2
    clear hlo2
    refine Ord.St.fl2 (T' := ?_) 7 [8] _ _ rfl (by kernel_rfl) rfl rfl rfl rfl (fun K w' hk => ?_) ?_
    rotate_left
    · go_step; exact hk
    refine Ord.St.ef 8 [] _ rfl (by kernel_rfl) (fun K hK => ?_)
    go_wp2_with fail
    refine ⟨rfl, hK _ _ ?_⟩; clear hK K
    refine Ord.St.nil ?_
    go_wp2_with fail
    refine wp_alw ?_
    intro W5 hW5
    have b2 : blk W5 w.heap.size [.int .i64 G.most, .slice (some ⟨bb, 0, none⟩) (n + 1) rcb] := by rw [hW5]; exact BB2.out.set _
    have hc5 : Ch [w.heap.size] wB W5 := by rw [hW5]; exact (Ch.refl _ _).setCell (by simp) _
    have b4 := BB4.out.ch hc5 (by simp; omega)
    have hr5 := HR2.out.ch hc5 (by intro k hk; simp at hk; subst hk; simpa using hne2)
    have hc05 : Ch [] w W5 := (HC0.out.trans hcur (by simp)).trans hc5 (by simp)
    have y0 := b2.cell (i := 0) rfl
    have y1 := b2.cell (i := 1) rfl
    have z0 := b4.cell (i := 0) rfl
    have z1 := b4.cell (i := 1) rfl
    have f0 := b4.frozen (i := 0)
    have f1' := b4.frozen (i := 1)
    have BB2' := Lib.hid b2; clear b2
    have BB4' := Lib.hid b4; clear b4
    have HR5 := Lib.hid hr5; clear hr5
    have HC5 := Lib.hid hc05; clear hc05 hc5
    clear hW5 BB2 BB4 HR2 f1
    refine Ord.St.door (fun w' => w'.cell? ⟨w.heap.size, 1, none⟩ = some (.slice (some ⟨bb, 0, none⟩) (n + 1) rcb)) [.rd, .fl, .ho, .fl, .fl, .fl, .ef, .fl, .fl] [0, 0, 2, 6, 14, 30, 1, 127, 255] [0, 1, 2, 3, 4, 5, 6, 7, 8] mixed (by kernel_rfl) rfl ?_
    refine Ord.St.rd2 (T' := ?_) 0 [1, 2, 3, 4, 5, 6, 7, 8] _ _ rfl (by kernel_rfl) rfl rfl rfl rfl (fun K hk => ?_) ?_
    rotate_left
    · go_step; exact hk
    refine Ord.St.fl2 (T' := ?_) 1 [2, 3, 4, 5, 6, 7, 8] _ _ rfl (by kernel_rfl) rfl rfl rfl rfl (fun K w' hk => ?_) ?_
    rotate_left
    · go_step; exact hk
    refine Ord.St.ho2 (T' := ?_) 2 [3, 4, 5, 6, 7, 8] _ _ rfl (by kernel_rfl) rfl rfl rfl rfl ?_ (fun K w' hw' hk => ?_) ?_
    rotate_left
    · trivial
    · skip; go_step; exact hk
    refine Ord.St.fl2 (T' := ?_) 3 [4, 5, 6, 7, 8] _ _ rfl (by kernel_rfl) rfl rfl rfl rfl (fun K w' hk => ?_) ?_
    rotate_left
    · go_step; exact hk
    refine Ord.St.fl2 (T' := ?_) 4 [5, 6, 7, 8] _ _ rfl (by kernel_rfl) rfl rfl rfl rfl (fun K w' hk => ?_) ?_
    rotate_left
    · go_step; exact hk
    refine Ord.St.fl2 (T' := ?_) 5 [6, 7, 8] _ _ rfl (by kernel_rfl) rfl rfl rfl rfl (fun K w' hk => ?_) ?_
    rotate_left
    · go_step; exact hk
    refine Ord.St.efC 6 [7, 8] _ rfl (by kernel_rfl) (fun K hK => ?_)
    go_wp2_with fail
    refine ⟨rfl, hK _ _ ?_ ?_⟩
    · go_simp
    clear hK K
    refine Ord.St.fl2 (T' := ?_) 7 [8] _ _ rfl (by kernel_rfl) rfl rfl rfl rfl (fun K w' hk => ?_) ?_
    rotate_left
    · go_step; exact hk
    refine Ord.St.fl2 (T' := ?_) 8 [] _ _ rfl (by kernel_rfl) rfl rfl rfl rfl (fun K w' hk => ?_) ?_
    rotate_left
    · go_step; exact hk
    refine Ord.St.nil ?_
    go_wp2_with fail
    have hc9 : Ch [w.heap.size + 1 + 1] W5 ((W5.setCell ⟨w.heap.size + 1 + 1, 0, none⟩ (.int .i64 G.most)).setCell ⟨w.heap.size + 1 + 1, 1, none⟩ (.slice (some ⟨bb, 0, none⟩) (n + 1) rcb)).drew := (((Ch.refl _ _).setCell (by simp) _).setCell (by simp) _).drew
    have hr9 := HR5.out.ch hc9 (by intro k hk; simp at hk; subst hk; simpa using hne4)
    have hcap := row_cap hr9
    refine bodyPost_ret (v := .tuple #[.agg #[.int .i64 G.most, .slice (some ⟨bb, 0, none⟩) (n + 1) rcb], .int .i64 (2 * n), .int .i64 0]) (by simp [results, Try.results149, go_sem, z0, z1]) rfl ?_
    refine ⟨bb, rcb, ?_, ⟨fun j u hu => ?_, ?_, ?_, hcap.2, HO2.out⟩, HC5.out.trans hc9 (fun k hk => .inr (by simp at hk; omega)), .inr hwb⟩
    · simp [HN.out]
    · rw [rCells_append] at hu; have := hr9.cells (g := bb) rfl j u (by simpa [rCells, rnCells] using hu); rwa [Addr.add_lit, Nat.zero_add] at this
    · exact (hr9.lt bb rfl).2
    · simpa [HN.out] using hcap.1
  go_wp2_with fail

end
end Go.Proofs.Ytkedpifopclipaa
