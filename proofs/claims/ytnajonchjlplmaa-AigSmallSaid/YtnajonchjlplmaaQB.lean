/-
  Walks over and: a new node. Conditions: the graph is one in memory (GM).
  Walks over and, as one; over the maker's and, or, mux. Conditions: the graph is one in memory (GM), the maker a block of its own (MS).
  Walks over the maker's or and mux. Conditions: the maker is one in memory (MS).
  Walks over slices.DeleteFunc where what goes stands at the end, and over Cut. Conditions: the graph is one in memory (GM).
  Graphs that are cut: what stays right, its inputs. No program in sight. Conditions: none beyond the hypotheses.
  Walks over Cut: nodes are taken away. Conditions: the graph is one in memory (GM).
  Walks over Cut: nodes are taken away. Conditions: the graph is one in memory (GM).
  Walks over Cut: nodes are taken away. Conditions: the graph is one in memory (GM).
  Walks over make: what is made as a whole. Conditions: the graph is one in memory; what is called makes (MStep).
  Walks over And, Or, Xor, Mux and what they call. Conditions: the graph is one in memory.
  Walks over All and Any. Conditions: the graph is one in memory, the references are in a block that is not its own.
  Walks over Input: an input is made. Conditions: the graph is one in memory.
  Walks over New and Inputs. Conditions: numbers; a graph in memory.
  Walks over Inputs and the library's Clone. Conditions: a graph in memory.
-/
import Derived.Test.YtnajonchjlplmaaQA
import Derived.Lib.SliceRun
import Derived.Laws.Cover3
namespace Go.Proofs.Ytnajonchjlplmaa
open Go.RowKit Go.Mem Go.Aig
section
variable {w : World} {g : Nat} {G : Gra} {nb ncap : Nat} {iv : Value} {mb : Nat}
theorem setMap_ch (W : World) (m : Nat) (o : Obj) : Ch [m] W { W with heap := W.heap.setIfInBounds m o } :=
  ⟨rfl, rfl, rfl, by simp, fun k _ hn => by simp only [List.mem_singleton] at hn; show (W.heap.setIfInBounds m o)[k]? = _; rw [Array.getElem?_setIfInBounds_ne (fun e => hn e.symm)]⟩
theorem push_is {W : World} {ns : List Nd} (hm : ∃ es clock, W.heap[mb]? = some (.map es clock) ∧ MapOk es.toList ns) (l r : Nat) (d : Nat) (hf : findAnd ns l r = none) :
    ∃ w2, (Instr.mapUpdate 84 (.map (some mb)) (.agg #[.int .i64 l, .int .i64 r]) (.int .i64 ns.length)).run Try.prog W = .ok () w2 ∧ (∃ es clock, w2.heap[mb]? = some (.map es clock) ∧ MapOk es.toList (ns ++ [⟨3, l, r, d⟩])) ∧ Ch [mb] W w2 := by
  obtain ⟨es, clock, hm, ho⟩ := hm
  have hlt : mb < W.heap.size := (Array.getElem?_eq_some_iff.1 hm).1
  have hrun := pairSides.push Try.underlying84 hm ho.keys l r (.int .i64 ns.length) (ho.find_none hf)
  refine ⟨_, hrun, ⟨_, _, by show (W.heap.setIfInBounds mb _)[mb]? = _; rw [Array.getElem?_setIfInBounds_self_of_lt hlt], ?_⟩, setMap_ch W mb _⟩
  have := (ho.and (x := ⟨3, l, r, d⟩) hf clock).resolve_right (by simp)
  simpa using this
theorem inputsFrom_append (x : Nd) (hk : x.k ≠ 2) : ∀ (ns : List Nd) (n : Nat), inputsFrom (ns ++ [x]) n = inputsFrom ns n
  | [], n => by simp [inputsFrom, hk]
  | y :: ns, n => by simp only [List.cons_append, inputsFrom, inputsFrom_append x hk ns]
theorem inputs_append {ns : List Nd} {x : Nd} (hk : x.k ≠ 2) : inputs (ns ++ [x]) = inputs ns := inputsFrom_append x hk ns 0
/-- what is left behind a put, and the entry behind it: a graph with one node more -/
theorem GM.more {W w1 w2 : World} (h : GM W g G nb ncap iv mb) {l r d nb' ncap' : Nat} (hp : PutIs W g G ⟨3, l, r, d⟩ nb iv mb nb' ncap' w1) (hc : Ch [mb] w1 w2) (hm : ∃ es clock, w2.heap[mb]? = some (.map es clock) ∧ MapOk es.toList (G.nodes ++ [⟨3, l, r, d⟩])) (ok : Ok { G with nodes := G.nodes ++ [⟨3, l, r, d⟩] }) :
    GM w2 g { G with nodes := G.nodes ++ [⟨3, l, r, d⟩] } nb' ncap' iv mb := by
  have hl := h.lt
  have hng : g ≠ nb' := by rcases hp.fresh with e | e; rw [e]; exact h.gn; omega
  have hmn : mb ≠ nb' := by rcases hp.fresh with e | e; rw [e]; exact h.mn; omega
  have hni : iv.ownBlock ≠ some nb' := by
    rcases hp.fresh with e | e
    · rw [e]; exact h.ni
    · intro hh; have := hl.2.2.2 nb' hh; omega
  refine ⟨?_, ?_, hm, ?_, h.gm, hng, hmn, h.gi, hni, h.mi, ok⟩
  · have := hp.st.ch hc (by simp [h.gm])
    simpa using this
  · have := hp.nodes.ch hc (by simp; exact fun e => hmn e.symm)
    simpa using this
  · show row w2 _ 1 iv (inputs (G.nodes ++ [⟨3, l, r, d⟩])).length _
    rw [inputs_append (by simp)]
    refine (h.ins.ch hp.ch (fun k hk => ?_)).ch hc (fun k hk => ?_)
    · have h1 := h.gi; have h2 := h.ni
      rw [hk] at h1 h2
      simp only [Option.some.injEq, ne_eq] at h1 h2
      simp [h1, h2]
    · have h1 := h.mi
      rw [hk] at h1
      simp only [Option.some.injEq, ne_eq] at h1
      simp [h1]

set_option maxRecDepth 100000 in
set_option maxHeartbeats 2000000 in
theorem and_new1 (h : GM w g G nb ncap iv mb) {a b : Nat} (ha : a < 2 * G.nodes.length) (hb : b < 2 * G.nodes.length) (hi : andIs a b = .node a b) (hz : 2 ≤ a) (_hz' : 2 ≤ b) (hn : a ≠ neg b) (hab : a < b) (hf : findAnd G.nodes a b = none) (hfull : G.nodes.length < G.most) :
    Calls Try.prog 69 #[.pointer (some ⟨g, 0, none⟩), .int .i64 a, .int .i64 b] w fun e w' => e = .returned (.tuple #[.int .i64 (2 * G.nodes.length : Nat), .int .i64 0]) ∧ ∃ nb' ncap', Step w g { G with nodes := G.nodes ++ [⟨3, a, b, 1 + max (dep G.nodes a) (dep G.nodes b)⟩] } nb iv mb nb' ncap' w' := by
  have hm := h.ok.most
  have hr := h.ok.room
  have ⟨c0, c1, c2, c3⟩ := h.c
  have hl := h.lt.1
  have hln := h.lt.2.1
  have hlm := h.lt.2.2.1
  have h1 : ((a : Int) == (neg b : Nat)) = false := beqN (by omega)
  have h2 : ((a : Int) == (b : Int)) = false := beqN (by omega)
  have da := h.dep ha
  have db := h.dep hb
  have la := h.ok.wf.dep_le ha
  have lb := h.ok.wf.dep_le hb
  have ok : Ok { G with nodes := G.nodes ++ [⟨3, a, b, 1 + max (dep G.nodes a) (dep G.nodes b)⟩] } := ⟨h.ok.wf.and hi ha hb hf, by simp; omega, hm⟩
  have hlk := h.lookNone (heap_alloc_drew w (.cells #[.int .i64 a, .int .i64 b] 88) mb hlm) hf
  generalize dep G.nodes a = ea at *
  generalize dep G.nodes b = eb at *
  have HF := Lib.hid hf; clear hf
  have OK := Lib.hid ok; clear ok
  clear hn hi
  have H := Lib.hid h; clear h
  go_enter Try.func69, Try.ntmps69
  go_wp2_with (go_at_call 51; refine (Not_any _ _ (by omega)).mono ?_; rintro e w' ⟨rfl, rfl⟩)
  refine Ord.St.door (fun _ => True) [.fl, .fl, .fl, .rd, .rd, .rd, .fl, .fl, .fl, .fl, .fl] [0, 1, 3, 7, 0, 31, 63, 127, 127, 255, 1023] [0, 1, 2, 3, 4, 5, 6, 7, 8, 9, 10] mixed (by kernel_rfl) rfl ?_
  refine Ord.St.fl2 (T' := ?_) 0 [1, 2, 3, 4, 5, 6, 7, 8, 9, 10] _ _ rfl (by kernel_rfl) rfl rfl rfl rfl (fun K w' hk => ?_) ?_
  rotate_left
  · go_step; exact hk
  refine Ord.St.fl2 (T' := ?_) 1 [2, 3, 4, 5, 6, 7, 8, 9, 10] _ _ rfl (by kernel_rfl) rfl rfl rfl rfl (fun K w' hk => ?_) ?_
  rotate_left
  · go_step; exact hk
  refine Ord.St.fl2 (T' := ?_) 2 [3, 4, 5, 6, 7, 8, 9, 10] _ _ rfl (by kernel_rfl) rfl rfl rfl rfl (fun K w' hk => ?_) ?_
  rotate_left
  · go_step; exact hk
  refine Ord.St.rd2 (T' := ?_) 3 [4, 5, 6, 7, 8, 9, 10] _ _ rfl (by kernel_rfl) rfl rfl rfl rfl (fun K hk => ?_) ?_
  rotate_left
  · go_step; exact hk
  refine Ord.St.rd2 (T' := ?_) 4 [5, 6, 7, 8, 9, 10] _ _ rfl (by kernel_rfl) rfl rfl rfl rfl (fun K hk => ?_) ?_
  rotate_left
  · go_step; exact hk
  refine Ord.St.rd2 (T' := ?_) 5 [6, 7, 8, 9, 10] _ _ rfl (by kernel_rfl) rfl rfl rfl rfl (fun K hk => ?_) ?_
  rotate_left
  · go_step; exact hk
  refine Ord.St.fl2 (T' := ?_) 6 [7, 8, 9, 10] _ _ rfl (by kernel_rfl) rfl rfl rfl rfl (fun K w' hk => ?_) ?_
  rotate_left
  · go_step; exact hk
  refine Ord.St.fl2 (T' := ?_) 7 [8, 9, 10] _ _ rfl (by kernel_rfl) rfl rfl rfl rfl (fun K w' hk => ?_) ?_
  rotate_left
  · go_step; exact hk
  refine Ord.St.fl2 (T' := ?_) 8 [9, 10] _ _ rfl (by kernel_rfl) rfl rfl rfl rfl (fun K w' hk => ?_) ?_
  rotate_left
  · go_step; exact hk
  refine Ord.St.fl2 (T' := ?_) 9 [10] _ _ rfl (by kernel_rfl) rfl rfl rfl rfl (fun K w' hk => ?_) ?_
  rotate_left
  · go_step; exact hk
  refine Ord.St.fl2 (T' := ?_) 10 [] _ _ rfl (by kernel_rfl) rfl rfl rfl rfl (fun K w' hk => ?_) ?_
  rotate_left
  · go_step; exact hk
  refine Ord.St.nil ?_
  go_wp2
  have hmx : ((ea : Int) < (eb : Int) ∧ max ea eb = eb) ∨ (¬ ((ea : Int) < (eb : Int)) ∧ max ea eb = ea) := by omega
  rcases hmx with ⟨hd, hmx⟩ | ⟨hd, hmx⟩
  all_goals
    have HX := Lib.hid hmx
    clear hmx
    refine Ord.St.door (fun _ => True) [.fl, .rd, .fl, .fl, .fl, .rd, .fl, .fl, .fl, .fl, .rd, .fl, .fl, .fl, .rd, .fl, .fl, .fl, .fl, .rd, .fl, .fl, .fl, .ef, .fl, .fl, .fl, .fl, .fl] [0, 0, 0, 4, 12, 28, 0, 64, 252, 508, 1020, 0, 2048, 6144, 14336, 0, 32768, 129024, 260096, 522240, 1048572, 2097148, 4194302, 8388607, 16777215, 33554431, 33554431, 67108863, 268435455] [0, 1, 2, 3, 4, 5, 6, 7, 8, 9, 10, 11, 12, 13, 14, 15, 16, 17, 18, 19, 20, 21, 22, 23, 24, 25, 26, 27, 28] mixed (by kernel_rfl) rfl ?_
    refine Ord.St.fl2 (T' := ?_) 0 [1, 2, 3, 4, 5, 6, 7, 8, 9, 10, 11, 12, 13, 14, 15, 16, 17, 18, 19, 20, 21, 22, 23, 24, 25, 26, 27, 28] _ _ rfl (by kernel_rfl) rfl rfl rfl rfl (fun K w' hk => ?_) ?_
    rotate_left
    · go_step; exact hk
    refine Ord.St.rd2 (T' := ?_) 1 [2, 3, 4, 5, 6, 7, 8, 9, 10, 11, 12, 13, 14, 15, 16, 17, 18, 19, 20, 21, 22, 23, 24, 25, 26, 27, 28] _ _ rfl (by kernel_rfl) rfl rfl rfl rfl (fun K hk => ?_) ?_
    rotate_left
    · go_step; exact hk
    refine Ord.St.fl2 (T' := ?_) 2 [3, 4, 5, 6, 7, 8, 9, 10, 11, 12, 13, 14, 15, 16, 17, 18, 19, 20, 21, 22, 23, 24, 25, 26, 27, 28] _ _ rfl (by kernel_rfl) rfl rfl rfl rfl (fun K w' hk => ?_) ?_
    rotate_left
    · go_step; exact hk
    refine Ord.St.fl2 (T' := ?_) 3 [4, 5, 6, 7, 8, 9, 10, 11, 12, 13, 14, 15, 16, 17, 18, 19, 20, 21, 22, 23, 24, 25, 26, 27, 28] _ _ rfl (by kernel_rfl) rfl rfl rfl rfl (fun K w' hk => ?_) ?_
    rotate_left
    · go_step; exact hk
    refine Ord.St.fl2 (T' := ?_) 4 [5, 6, 7, 8, 9, 10, 11, 12, 13, 14, 15, 16, 17, 18, 19, 20, 21, 22, 23, 24, 25, 26, 27, 28] _ _ rfl (by kernel_rfl) rfl rfl rfl rfl (fun K w' hk => ?_) ?_
    rotate_left
    · go_step; exact hk
    refine Ord.St.rd2 (T' := ?_) 5 [6, 7, 8, 9, 10, 11, 12, 13, 14, 15, 16, 17, 18, 19, 20, 21, 22, 23, 24, 25, 26, 27, 28] _ _ rfl (by kernel_rfl) rfl rfl rfl rfl (fun K hk => ?_) ?_
    rotate_left
    · go_step; exact hk
    refine Ord.St.fl2 (T' := ?_) 6 [7, 8, 9, 10, 11, 12, 13, 14, 15, 16, 17, 18, 19, 20, 21, 22, 23, 24, 25, 26, 27, 28] _ _ rfl (by kernel_rfl) rfl rfl rfl rfl (fun K w' hk => ?_) ?_
    rotate_left
    · go_step; exact hk
    refine Ord.St.fl2 (T' := ?_) 7 [8, 9, 10, 11, 12, 13, 14, 15, 16, 17, 18, 19, 20, 21, 22, 23, 24, 25, 26, 27, 28] _ _ rfl (by kernel_rfl) rfl rfl rfl rfl (fun K w' hk => ?_) ?_
    rotate_left
    · go_step; exact hk
    refine Ord.St.fl2 (T' := ?_) 8 [9, 10, 11, 12, 13, 14, 15, 16, 17, 18, 19, 20, 21, 22, 23, 24, 25, 26, 27, 28] _ _ rfl (by kernel_rfl) rfl rfl rfl rfl (fun K w' hk => ?_) ?_
    rotate_left
    · go_step; exact hk
    refine Ord.St.fl2 (T' := ?_) 9 [10, 11, 12, 13, 14, 15, 16, 17, 18, 19, 20, 21, 22, 23, 24, 25, 26, 27, 28] _ _ rfl (by kernel_rfl) rfl rfl rfl rfl (fun K w' hk => ?_) ?_
    rotate_left
    · go_step; exact hk
    refine Ord.St.rd2 (T' := ?_) 10 [11, 12, 13, 14, 15, 16, 17, 18, 19, 20, 21, 22, 23, 24, 25, 26, 27, 28] _ _ rfl (by kernel_rfl) rfl rfl rfl rfl (fun K hk => ?_) ?_
    rotate_left
    · go_step; exact hk
    refine Ord.St.fl2 (T' := ?_) 11 [12, 13, 14, 15, 16, 17, 18, 19, 20, 21, 22, 23, 24, 25, 26, 27, 28] _ _ rfl (by kernel_rfl) rfl rfl rfl rfl (fun K w' hk => ?_) ?_
    rotate_left
    · go_step; exact hk
    refine Ord.St.fl2 (T' := ?_) 12 [13, 14, 15, 16, 17, 18, 19, 20, 21, 22, 23, 24, 25, 26, 27, 28] _ _ rfl (by kernel_rfl) rfl rfl rfl rfl (fun K w' hk => ?_) ?_
    rotate_left
    · go_step; exact hk
    refine Ord.St.fl2 (T' := ?_) 13 [14, 15, 16, 17, 18, 19, 20, 21, 22, 23, 24, 25, 26, 27, 28] _ _ rfl (by kernel_rfl) rfl rfl rfl rfl (fun K w' hk => ?_) ?_
    rotate_left
    · go_step; exact hk
    refine Ord.St.rd2 (T' := ?_) 14 [15, 16, 17, 18, 19, 20, 21, 22, 23, 24, 25, 26, 27, 28] _ _ rfl (by kernel_rfl) rfl rfl rfl rfl (fun K hk => ?_) ?_
    rotate_left
    · go_step; exact hk
    refine Ord.St.fl2 (T' := ?_) 15 [16, 17, 18, 19, 20, 21, 22, 23, 24, 25, 26, 27, 28] _ _ rfl (by kernel_rfl) rfl rfl rfl rfl (fun K w' hk => ?_) ?_
    rotate_left
    · go_step; exact hk
    refine Ord.St.fl2 (T' := ?_) 16 [17, 18, 19, 20, 21, 22, 23, 24, 25, 26, 27, 28] _ _ rfl (by kernel_rfl) rfl rfl rfl rfl (fun K w' hk => ?_) ?_
    rotate_left
    · go_step; exact hk
    refine Ord.St.fl2 (T' := ?_) 17 [18, 19, 20, 21, 22, 23, 24, 25, 26, 27, 28] _ _ rfl (by kernel_rfl) rfl rfl rfl rfl (fun K w' hk => ?_) ?_
    rotate_left
    · go_step; exact hk
    refine Ord.St.fl2 (T' := ?_) 18 [19, 20, 21, 22, 23, 24, 25, 26, 27, 28] _ _ rfl (by kernel_rfl) rfl rfl rfl rfl (fun K w' hk => ?_) ?_
    rotate_left
    · go_step; exact hk
    refine Ord.St.rd2 (T' := ?_) 19 [20, 21, 22, 23, 24, 25, 26, 27, 28] _ _ rfl (by kernel_rfl) rfl rfl rfl rfl (fun K hk => ?_) ?_
    rotate_left
    · go_step; exact hk
    refine Ord.St.fl2 (T' := ?_) 20 [21, 22, 23, 24, 25, 26, 27, 28] _ _ rfl (by kernel_rfl) rfl rfl rfl rfl (fun K w' hk => ?_) ?_
    rotate_left
    · go_step; exact hk
    refine Ord.St.fl2 (T' := ?_) 21 [22, 23, 24, 25, 26, 27, 28] _ _ rfl (by kernel_rfl) rfl rfl rfl rfl (fun K w' hk => ?_) ?_
    rotate_left
    · go_step; exact hk
    refine Ord.St.fl2 (T' := ?_) 22 [23, 24, 25, 26, 27, 28] _ _ rfl (by kernel_rfl) rfl rfl rfl rfl (fun K w' hk => ?_) ?_
    rotate_left
    · go_step; exact hk
    refine Ord.St.ef 23 [24, 25, 26, 27, 28] _ rfl (by kernel_rfl) (fun K hK => ?_)
    go_wp2_with fail
    have hC0 := (((Ch.refl [] w).alloc (.cells #[.int .i64 a, .int .i64 b] 88)).drew).drew
    have HG := H.out.ch hC0 (by simp)
    refine (put_yes_of HG _ _ _ _ ⟨3, a, b, 1 + max ea eb⟩ rfl rfl rfl (by have := HX.out; dsimp only; omega) hfull).mono ?_
    rintro e w1 ⟨rfl, nb', ncap', hp⟩
    have HP := Lib.hid hp
    have hz1 := hp.ch.size
    have b0 : w1.cell? ⟨w.heap.size, 0, none⟩ = some (.int .i64 a) := (hp.ch.cell (by simp) (by simp; omega)).trans (by go_simp)
    have b1 : w1.cell? ⟨w.heap.size, 1, none⟩ = some (.int .i64 b) := (hp.ch.cell (by simp) (by simp; omega)).trans (by go_simp)
    have s2 : w1.cell? ⟨g, 2, none⟩ = some (.map (some mb)) := hp.st.cell rfl
    simp at hz1
    clear hp
    go_wp2_with fail
    refine ⟨rfl, hK _ _ ?_⟩; clear hK K
    refine Ord.St.fl2 (T' := ?_) 24 [25, 26, 27, 28] _ _ rfl (by kernel_rfl) rfl rfl rfl rfl (fun K w' hk => ?_) ?_
    rotate_left
    · go_step; exact hk
    refine Ord.St.fl2 (T' := ?_) 25 [26, 27, 28] _ _ rfl (by kernel_rfl) rfl rfl rfl rfl (fun K w' hk => ?_) ?_
    rotate_left
    · go_step; exact hk
    refine Ord.St.fl2 (T' := ?_) 26 [27, 28] _ _ rfl (by kernel_rfl) rfl rfl rfl rfl (fun K w' hk => ?_) ?_
    rotate_left
    · go_step; exact hk
    refine Ord.St.fl2 (T' := ?_) 27 [28] _ _ rfl (by kernel_rfl) rfl rfl rfl rfl (fun K w' hk => ?_) ?_
    rotate_left
    · go_step; exact hk
    refine Ord.St.fl2 (T' := ?_) 28 [] _ _ rfl (by kernel_rfl) rfl rfl rfl rfl (fun K w' hk => ?_) ?_
    rotate_left
    · go_step; exact hk
    refine Ord.St.nil ?_
    go_wp2
    obtain ⟨es, clock, hmap, hmo⟩ := HG.mp
    have hm1 : w1.drew.heap[mb]? = some (.map es clock) := (HP.out.ch.block mb (by simp; omega) (by simp [H.out.mn, H.out.gm.symm])).trans hmap
    obtain ⟨w2, hup, hm2, hc2⟩ := push_is ⟨es, clock, hm1, hmo⟩ a b (1 + max ea eb) HF.out
    refine Ord.St.door (fun _ => True) [.fl, .fl, .fl, .rd, .rd, .fl, .fl, .ef] [0, 1, 3, 7, 0, 0, 32, 127] [0, 1, 2, 3, 4, 5, 6, 7] mixed (by kernel_rfl) rfl ?_
    refine Ord.St.fl2 (T' := ?_) 0 [1, 2, 3, 4, 5, 6, 7] _ _ rfl (by kernel_rfl) rfl rfl rfl rfl (fun K w' hk => ?_) ?_
    rotate_left
    · go_step; exact hk
    refine Ord.St.fl2 (T' := ?_) 1 [2, 3, 4, 5, 6, 7] _ _ rfl (by kernel_rfl) rfl rfl rfl rfl (fun K w' hk => ?_) ?_
    rotate_left
    · go_step; exact hk
    refine Ord.St.fl2 (T' := ?_) 2 [3, 4, 5, 6, 7] _ _ rfl (by kernel_rfl) rfl rfl rfl rfl (fun K w' hk => ?_) ?_
    rotate_left
    · go_step; exact hk
    refine Ord.St.rd2 (T' := ?_) 3 [4, 5, 6, 7] _ _ rfl (by kernel_rfl) rfl rfl rfl rfl (fun K hk => ?_) ?_
    rotate_left
    · go_step; exact hk
    refine Ord.St.rd2 (T' := ?_) 4 [5, 6, 7] _ _ rfl (by kernel_rfl) rfl rfl rfl rfl (fun K hk => ?_) ?_
    rotate_left
    · go_step; exact hk
    refine Ord.St.fl2 (T' := ?_) 5 [6, 7] _ _ rfl (by kernel_rfl) rfl rfl rfl rfl (fun K w' hk => ?_) ?_
    rotate_left
    · go_step; exact hk
    refine Ord.St.fl2 (T' := ?_) 6 [7] _ _ rfl (by kernel_rfl) rfl rfl rfl rfl (fun K w' hk => ?_) ?_
    rotate_left
    · go_step; exact hk
    refine Ord.St.ef 7 [] _ rfl (by kernel_rfl) (fun K hK => ?_)
    go_wp2_with fail
    refine ⟨rfl, hK _ _ ?_⟩; clear hK K
    refine Ord.St.nil ?_
    go_wp2
    go_ret2
    refine ⟨ret_ii (by omega) rfl, nb', ncap', ?_, ?_, ?_⟩
    · exact HG.more HP.out (((Ch.refl [mb] w1).drew).trans hc2 (by simp)) hm2 OK.out
    · rcases HP.out.fresh with e | e
      · exact .inl e
      · simp at e; exact .inr (by omega)
    · exact ((hC0.mono (F' := [g, nb, mb]) (by simp)).trans HP.out.ch.drew (by simp)).trans hc2 (by simp)

set_option maxRecDepth 100000 in
set_option maxHeartbeats 2000000 in
theorem and_new2 (h : GM w g G nb ncap iv mb) {a b : Nat} (ha : a < 2 * G.nodes.length) (hb : b < 2 * G.nodes.length) (hi : andIs a b = .node b a) (hz : 2 ≤ a) (hz' : 2 ≤ b) (hn : a ≠ neg b) (hab : b < a) (hf : findAnd G.nodes b a = none) (hfull : G.nodes.length < G.most) :
    Calls Try.prog 69 #[.pointer (some ⟨g, 0, none⟩), .int .i64 a, .int .i64 b] w fun e w' => e = .returned (.tuple #[.int .i64 (2 * G.nodes.length : Nat), .int .i64 0]) ∧ ∃ nb' ncap', Step w g { G with nodes := G.nodes ++ [⟨3, b, a, 1 + max (dep G.nodes a) (dep G.nodes b)⟩] } nb iv mb nb' ncap' w' := by
  have hm := h.ok.most
  have hr := h.ok.room
  have ⟨c0, c1, c2, c3⟩ := h.c
  have hl := h.lt.1
  have hln := h.lt.2.1
  have hlm := h.lt.2.2.1
  have h1 : ((a : Int) == (neg b : Nat)) = false := beqN (by omega)
  have h2 : ((a : Int) == (b : Int)) = false := beqN (by omega)
  have da := h.dep ha
  have db := h.dep hb
  have la := h.ok.wf.dep_le ha
  have lb := h.ok.wf.dep_le hb
  have ok : Ok { G with nodes := G.nodes ++ [⟨3, b, a, 1 + max (dep G.nodes a) (dep G.nodes b)⟩] } := ⟨h.ok.wf.and hi ha hb hf, by simp; omega, hm⟩
  have hlk := h.lookNone (heap_alloc_drew w (.cells #[.int .i64 b, .int .i64 a] 88) mb hlm) hf
  generalize dep G.nodes a = ea at *
  generalize dep G.nodes b = eb at *
  have HF := Lib.hid hf; clear hf
  have OK := Lib.hid ok; clear ok
  clear hn hi
  have H := Lib.hid h; clear h
  go_enter Try.func69, Try.ntmps69
  go_wp2_with (go_at_call 51; refine (Not_any _ _ (by omega)).mono ?_; rintro e w' ⟨rfl, rfl⟩)
  refine Ord.St.door (fun _ => True) [.fl, .fl, .fl, .rd, .rd, .rd, .fl, .fl, .fl, .fl, .fl] [0, 1, 3, 7, 0, 31, 63, 127, 127, 255, 1023] [0, 1, 2, 3, 4, 5, 6, 7, 8, 9, 10] mixed (by kernel_rfl) rfl ?_
  refine Ord.St.fl2 (T' := ?_) 0 [1, 2, 3, 4, 5, 6, 7, 8, 9, 10] _ _ rfl (by kernel_rfl) rfl rfl rfl rfl (fun K w' hk => ?_) ?_
  rotate_left
  · go_step; exact hk
  refine Ord.St.fl2 (T' := ?_) 1 [2, 3, 4, 5, 6, 7, 8, 9, 10] _ _ rfl (by kernel_rfl) rfl rfl rfl rfl (fun K w' hk => ?_) ?_
  rotate_left
  · go_step; exact hk
  refine Ord.St.fl2 (T' := ?_) 2 [3, 4, 5, 6, 7, 8, 9, 10] _ _ rfl (by kernel_rfl) rfl rfl rfl rfl (fun K w' hk => ?_) ?_
  rotate_left
  · go_step; exact hk
  refine Ord.St.rd2 (T' := ?_) 3 [4, 5, 6, 7, 8, 9, 10] _ _ rfl (by kernel_rfl) rfl rfl rfl rfl (fun K hk => ?_) ?_
  rotate_left
  · go_step; exact hk
  refine Ord.St.rd2 (T' := ?_) 4 [5, 6, 7, 8, 9, 10] _ _ rfl (by kernel_rfl) rfl rfl rfl rfl (fun K hk => ?_) ?_
  rotate_left
  · go_step; exact hk
  refine Ord.St.rd2 (T' := ?_) 5 [6, 7, 8, 9, 10] _ _ rfl (by kernel_rfl) rfl rfl rfl rfl (fun K hk => ?_) ?_
  rotate_left
  · go_step; exact hk
  refine Ord.St.fl2 (T' := ?_) 6 [7, 8, 9, 10] _ _ rfl (by kernel_rfl) rfl rfl rfl rfl (fun K w' hk => ?_) ?_
  rotate_left
  · go_step; exact hk
  refine Ord.St.fl2 (T' := ?_) 7 [8, 9, 10] _ _ rfl (by kernel_rfl) rfl rfl rfl rfl (fun K w' hk => ?_) ?_
  rotate_left
  · go_step; exact hk
  refine Ord.St.fl2 (T' := ?_) 8 [9, 10] _ _ rfl (by kernel_rfl) rfl rfl rfl rfl (fun K w' hk => ?_) ?_
  rotate_left
  · go_step; exact hk
  refine Ord.St.fl2 (T' := ?_) 9 [10] _ _ rfl (by kernel_rfl) rfl rfl rfl rfl (fun K w' hk => ?_) ?_
  rotate_left
  · go_step; exact hk
  refine Ord.St.fl2 (T' := ?_) 10 [] _ _ rfl (by kernel_rfl) rfl rfl rfl rfl (fun K w' hk => ?_) ?_
  rotate_left
  · go_step; exact hk
  refine Ord.St.nil ?_
  go_wp2
  have hmx : ((ea : Int) < (eb : Int) ∧ max ea eb = eb) ∨ (¬ ((ea : Int) < (eb : Int)) ∧ max ea eb = ea) := by omega
  rcases hmx with ⟨hd, hmx⟩ | ⟨hd, hmx⟩
  all_goals
    have HX := Lib.hid hmx
    clear hmx
    refine Ord.St.door (fun _ => True) [.fl, .rd, .fl, .fl, .fl, .rd, .fl, .fl, .fl, .fl, .rd, .fl, .fl, .fl, .rd, .fl, .fl, .fl, .fl, .rd, .fl, .fl, .fl, .ef, .fl, .fl, .fl, .fl, .fl] [0, 0, 0, 4, 12, 28, 0, 64, 252, 508, 1020, 0, 2048, 6144, 14336, 0, 32768, 129024, 260096, 522240, 1048572, 2097148, 4194302, 8388607, 16777215, 33554431, 33554431, 67108863, 268435455] [0, 1, 2, 3, 4, 5, 6, 7, 8, 9, 10, 11, 12, 13, 14, 15, 16, 17, 18, 19, 20, 21, 22, 23, 24, 25, 26, 27, 28] mixed (by kernel_rfl) rfl ?_
    refine Ord.St.fl2 (T' := ?_) 0 [1, 2, 3, 4, 5, 6, 7, 8, 9, 10, 11, 12, 13, 14, 15, 16, 17, 18, 19, 20, 21, 22, 23, 24, 25, 26, 27, 28] _ _ rfl (by kernel_rfl) rfl rfl rfl rfl (fun K w' hk => ?_) ?_
    rotate_left
    · go_step; exact hk
    refine Ord.St.rd2 (T' := ?_) 1 [2, 3, 4, 5, 6, 7, 8, 9, 10, 11, 12, 13, 14, 15, 16, 17, 18, 19, 20, 21, 22, 23, 24, 25, 26, 27, 28] _ _ rfl (by kernel_rfl) rfl rfl rfl rfl (fun K hk => ?_) ?_
    rotate_left
    · go_step; exact hk
    refine Ord.St.fl2 (T' := ?_) 2 [3, 4, 5, 6, 7, 8, 9, 10, 11, 12, 13, 14, 15, 16, 17, 18, 19, 20, 21, 22, 23, 24, 25, 26, 27, 28] _ _ rfl (by kernel_rfl) rfl rfl rfl rfl (fun K w' hk => ?_) ?_
    rotate_left
    · go_step; exact hk
    refine Ord.St.fl2 (T' := ?_) 3 [4, 5, 6, 7, 8, 9, 10, 11, 12, 13, 14, 15, 16, 17, 18, 19, 20, 21, 22, 23, 24, 25, 26, 27, 28] _ _ rfl (by kernel_rfl) rfl rfl rfl rfl (fun K w' hk => ?_) ?_
    rotate_left
    · go_step; exact hk
    refine Ord.St.fl2 (T' := ?_) 4 [5, 6, 7, 8, 9, 10, 11, 12, 13, 14, 15, 16, 17, 18, 19, 20, 21, 22, 23, 24, 25, 26, 27, 28] _ _ rfl (by kernel_rfl) rfl rfl rfl rfl (fun K w' hk => ?_) ?_
    rotate_left
    · go_step; exact hk
    refine Ord.St.rd2 (T' := ?_) 5 [6, 7, 8, 9, 10, 11, 12, 13, 14, 15, 16, 17, 18, 19, 20, 21, 22, 23, 24, 25, 26, 27, 28] _ _ rfl (by kernel_rfl) rfl rfl rfl rfl (fun K hk => ?_) ?_
    rotate_left
    · go_step; exact hk
    refine Ord.St.fl2 (T' := ?_) 6 [7, 8, 9, 10, 11, 12, 13, 14, 15, 16, 17, 18, 19, 20, 21, 22, 23, 24, 25, 26, 27, 28] _ _ rfl (by kernel_rfl) rfl rfl rfl rfl (fun K w' hk => ?_) ?_
    rotate_left
    · go_step; exact hk
    refine Ord.St.fl2 (T' := ?_) 7 [8, 9, 10, 11, 12, 13, 14, 15, 16, 17, 18, 19, 20, 21, 22, 23, 24, 25, 26, 27, 28] _ _ rfl (by kernel_rfl) rfl rfl rfl rfl (fun K w' hk => ?_) ?_
    rotate_left
    · go_step; exact hk
    refine Ord.St.fl2 (T' := ?_) 8 [9, 10, 11, 12, 13, 14, 15, 16, 17, 18, 19, 20, 21, 22, 23, 24, 25, 26, 27, 28] _ _ rfl (by kernel_rfl) rfl rfl rfl rfl (fun K w' hk => ?_) ?_
    rotate_left
    · go_step; exact hk
    refine Ord.St.fl2 (T' := ?_) 9 [10, 11, 12, 13, 14, 15, 16, 17, 18, 19, 20, 21, 22, 23, 24, 25, 26, 27, 28] _ _ rfl (by kernel_rfl) rfl rfl rfl rfl (fun K w' hk => ?_) ?_
    rotate_left
    · go_step; exact hk
    refine Ord.St.rd2 (T' := ?_) 10 [11, 12, 13, 14, 15, 16, 17, 18, 19, 20, 21, 22, 23, 24, 25, 26, 27, 28] _ _ rfl (by kernel_rfl) rfl rfl rfl rfl (fun K hk => ?_) ?_
    rotate_left
    · go_step; exact hk
    refine Ord.St.fl2 (T' := ?_) 11 [12, 13, 14, 15, 16, 17, 18, 19, 20, 21, 22, 23, 24, 25, 26, 27, 28] _ _ rfl (by kernel_rfl) rfl rfl rfl rfl (fun K w' hk => ?_) ?_
    rotate_left
    · go_step; exact hk
    refine Ord.St.fl2 (T' := ?_) 12 [13, 14, 15, 16, 17, 18, 19, 20, 21, 22, 23, 24, 25, 26, 27, 28] _ _ rfl (by kernel_rfl) rfl rfl rfl rfl (fun K w' hk => ?_) ?_
    rotate_left
    · go_step; exact hk
    refine Ord.St.fl2 (T' := ?_) 13 [14, 15, 16, 17, 18, 19, 20, 21, 22, 23, 24, 25, 26, 27, 28] _ _ rfl (by kernel_rfl) rfl rfl rfl rfl (fun K w' hk => ?_) ?_
    rotate_left
    · go_step; exact hk
    refine Ord.St.rd2 (T' := ?_) 14 [15, 16, 17, 18, 19, 20, 21, 22, 23, 24, 25, 26, 27, 28] _ _ rfl (by kernel_rfl) rfl rfl rfl rfl (fun K hk => ?_) ?_
    rotate_left
    · go_step; exact hk
    refine Ord.St.fl2 (T' := ?_) 15 [16, 17, 18, 19, 20, 21, 22, 23, 24, 25, 26, 27, 28] _ _ rfl (by kernel_rfl) rfl rfl rfl rfl (fun K w' hk => ?_) ?_
    rotate_left
    · go_step; exact hk
    refine Ord.St.fl2 (T' := ?_) 16 [17, 18, 19, 20, 21, 22, 23, 24, 25, 26, 27, 28] _ _ rfl (by kernel_rfl) rfl rfl rfl rfl (fun K w' hk => ?_) ?_
    rotate_left
    · go_step; exact hk
    refine Ord.St.fl2 (T' := ?_) 17 [18, 19, 20, 21, 22, 23, 24, 25, 26, 27, 28] _ _ rfl (by kernel_rfl) rfl rfl rfl rfl (fun K w' hk => ?_) ?_
    rotate_left
    · go_step; exact hk
    refine Ord.St.fl2 (T' := ?_) 18 [19, 20, 21, 22, 23, 24, 25, 26, 27, 28] _ _ rfl (by kernel_rfl) rfl rfl rfl rfl (fun K w' hk => ?_) ?_
    rotate_left
    · go_step; exact hk
    refine Ord.St.rd2 (T' := ?_) 19 [20, 21, 22, 23, 24, 25, 26, 27, 28] _ _ rfl (by kernel_rfl) rfl rfl rfl rfl (fun K hk => ?_) ?_
    rotate_left
    · go_step; exact hk
    refine Ord.St.fl2 (T' := ?_) 20 [21, 22, 23, 24, 25, 26, 27, 28] _ _ rfl (by kernel_rfl) rfl rfl rfl rfl (fun K w' hk => ?_) ?_
    rotate_left
    · go_step; exact hk
    refine Ord.St.fl2 (T' := ?_) 21 [22, 23, 24, 25, 26, 27, 28] _ _ rfl (by kernel_rfl) rfl rfl rfl rfl (fun K w' hk => ?_) ?_
    rotate_left
    · go_step; exact hk
    refine Ord.St.fl2 (T' := ?_) 22 [23, 24, 25, 26, 27, 28] _ _ rfl (by kernel_rfl) rfl rfl rfl rfl (fun K w' hk => ?_) ?_
    rotate_left
    · go_step; exact hk
    refine Ord.St.ef 23 [24, 25, 26, 27, 28] _ rfl (by kernel_rfl) (fun K hK => ?_)
    go_wp2_with fail
    have hC0 := (((Ch.refl [] w).alloc (.cells #[.int .i64 b, .int .i64 a] 88)).drew).drew
    have HG := H.out.ch hC0 (by simp)
    refine (put_yes_of HG _ _ _ _ ⟨3, b, a, 1 + max ea eb⟩ rfl rfl rfl (by have := HX.out; dsimp only; omega) hfull).mono ?_
    rintro e w1 ⟨rfl, nb', ncap', hp⟩
    have HP := Lib.hid hp
    have hz1 := hp.ch.size
    have b0 : w1.cell? ⟨w.heap.size, 0, none⟩ = some (.int .i64 b) := (hp.ch.cell (by simp) (by simp; omega)).trans (by go_simp)
    have b1 : w1.cell? ⟨w.heap.size, 1, none⟩ = some (.int .i64 a) := (hp.ch.cell (by simp) (by simp; omega)).trans (by go_simp)
    have s2 : w1.cell? ⟨g, 2, none⟩ = some (.map (some mb)) := hp.st.cell rfl
    simp at hz1
    clear hp
    go_wp2_with fail
    refine ⟨rfl, hK _ _ ?_⟩; clear hK K
    refine Ord.St.fl2 (T' := ?_) 24 [25, 26, 27, 28] _ _ rfl (by kernel_rfl) rfl rfl rfl rfl (fun K w' hk => ?_) ?_
    rotate_left
    · go_step; exact hk
    refine Ord.St.fl2 (T' := ?_) 25 [26, 27, 28] _ _ rfl (by kernel_rfl) rfl rfl rfl rfl (fun K w' hk => ?_) ?_
    rotate_left
    · go_step; exact hk
    refine Ord.St.fl2 (T' := ?_) 26 [27, 28] _ _ rfl (by kernel_rfl) rfl rfl rfl rfl (fun K w' hk => ?_) ?_
    rotate_left
    · go_step; exact hk
    refine Ord.St.fl2 (T' := ?_) 27 [28] _ _ rfl (by kernel_rfl) rfl rfl rfl rfl (fun K w' hk => ?_) ?_
    rotate_left
    · go_step; exact hk
    refine Ord.St.fl2 (T' := ?_) 28 [] _ _ rfl (by kernel_rfl) rfl rfl rfl rfl (fun K w' hk => ?_) ?_
    rotate_left
    · go_step; exact hk
    refine Ord.St.nil ?_
    go_wp2
    obtain ⟨es, clock, hmap, hmo⟩ := HG.mp
    have hm1 : w1.drew.heap[mb]? = some (.map es clock) := (HP.out.ch.block mb (by simp; omega) (by simp [H.out.mn, H.out.gm.symm])).trans hmap
    obtain ⟨w2, hup, hm2, hc2⟩ := push_is ⟨es, clock, hm1, hmo⟩ b a (1 + max ea eb) HF.out
    refine Ord.St.door (fun _ => True) [.fl, .fl, .fl, .rd, .rd, .fl, .fl, .ef] [0, 1, 3, 7, 0, 0, 32, 127] [0, 1, 2, 3, 4, 5, 6, 7] mixed (by kernel_rfl) rfl ?_
    refine Ord.St.fl2 (T' := ?_) 0 [1, 2, 3, 4, 5, 6, 7] _ _ rfl (by kernel_rfl) rfl rfl rfl rfl (fun K w' hk => ?_) ?_
    rotate_left
    · go_step; exact hk
    refine Ord.St.fl2 (T' := ?_) 1 [2, 3, 4, 5, 6, 7] _ _ rfl (by kernel_rfl) rfl rfl rfl rfl (fun K w' hk => ?_) ?_
    rotate_left
    · go_step; exact hk
    refine Ord.St.fl2 (T' := ?_) 2 [3, 4, 5, 6, 7] _ _ rfl (by kernel_rfl) rfl rfl rfl rfl (fun K w' hk => ?_) ?_
    rotate_left
    · go_step; exact hk
    refine Ord.St.rd2 (T' := ?_) 3 [4, 5, 6, 7] _ _ rfl (by kernel_rfl) rfl rfl rfl rfl (fun K hk => ?_) ?_
    rotate_left
    · go_step; exact hk
    refine Ord.St.rd2 (T' := ?_) 4 [5, 6, 7] _ _ rfl (by kernel_rfl) rfl rfl rfl rfl (fun K hk => ?_) ?_
    rotate_left
    · go_step; exact hk
    refine Ord.St.fl2 (T' := ?_) 5 [6, 7] _ _ rfl (by kernel_rfl) rfl rfl rfl rfl (fun K w' hk => ?_) ?_
    rotate_left
    · go_step; exact hk
    refine Ord.St.fl2 (T' := ?_) 6 [7] _ _ rfl (by kernel_rfl) rfl rfl rfl rfl (fun K w' hk => ?_) ?_
    rotate_left
    · go_step; exact hk
    refine Ord.St.ef 7 [] _ rfl (by kernel_rfl) (fun K hK => ?_)
    go_wp2_with fail
    refine ⟨rfl, hK _ _ ?_⟩; clear hK K
    refine Ord.St.nil ?_
    go_wp2
    go_ret2
    refine ⟨ret_ii (by omega) rfl, nb', ncap', ?_, ?_, ?_⟩
    · exact HG.more HP.out (((Ch.refl [mb] w1).drew).trans hc2 (by simp)) hm2 OK.out
    · rcases HP.out.fresh with e | e
      · exact .inl e
      · simp at e; exact .inr (by omega)
    · exact ((hC0.mono (F' := [g, nb, mb]) (by simp)).trans HP.out.ch.drew (by simp)).trans hc2 (by simp)
end
end Go.Proofs.Ytnajonchjlplmaa
namespace Go.Proofs.Ytnajonchjlplmaa
open Go.RowKit Go.Mem Go.Aig
section
variable {w : World} {g : Nat} {G : Gra} {nb ncap : Nat} {iv : Value} {mb : Nat}
theorem Step.same {w' : World} (h : GM w g G nb ncap iv mb) (hc : Ch [] w w') : ∃ nb' ncap', Step w g G nb iv mb nb' ncap' w' :=
  ⟨nb, ncap, h.ch hc (by simp), .inl rfl, hc.mono (by simp)⟩

theorem and_is (h : GM w g G nb ncap iv mb) {a b : Nat} (ha : a < 2 * G.nodes.length) (hb : b < 2 * G.nodes.length) :
    Calls Try.prog 69 #[.pointer (some ⟨g, 0, none⟩), .int .i64 a, .int .i64 b] w fun e w' => e = .returned (.tuple #[.int .i64 (Aig.and G a b).2.1, .int .i64 (Aig.and G a b).2.2]) ∧ ∃ nb' ncap', Step w g (Aig.and G a b).1 nb iv mb nb' ncap' w' := by
  by_cases hz : min a b = 0 ∨ a = neg b
  · have hA : Aig.and G a b = (G, 0, 0) := by unfold Aig.and andIs; rw [if_pos hz]
    rw [hA]
    exact (and_zero h ha hb hz).mono fun e w' ⟨he, hc⟩ => ⟨he, Step.same h hc⟩
  · by_cases ho : min a b = 1 ∨ a = b
    · have hA : Aig.and G a b = (G, max a b, 0) := by unfold Aig.and andIs; rw [if_neg hz, if_pos ho]
      rw [hA]
      simp only [not_or] at hz
      exact (and_one h ha hb (by omega) (by omega) hz.2 ho).mono fun e w' ⟨he, hc⟩ => ⟨he, Step.same h hc⟩
    · have hi : andIs a b = .node (min a b) (max a b) := by unfold andIs; rw [if_neg hz, if_neg ho]
      simp only [not_or] at hz ho
      cases hf : findAnd G.nodes (min a b) (max a b) with
      | some n =>
        have hA : Aig.and G a b = (G, 2 * n, 0) := by unfold Aig.and; rw [hi]; simp only [hf]
        rw [hA]
        exact (and_found h ha hb (by omega) (by omega) hz.2 ho.2 hf).mono fun e w' ⟨he, hc⟩ => ⟨he, Step.same h hc⟩
      | none =>
        have hA : Aig.and G a b = Aig.put G ⟨3, min a b, max a b, 1 + max (dep G.nodes a) (dep G.nodes b)⟩ := by unfold Aig.and; rw [hi]; simp only [hf]
        rw [hA]
        unfold Aig.put
        by_cases hfull : G.most ≤ G.nodes.length
        · rw [if_pos hfull]
          rcases Nat.lt_or_gt_of_ne ho.2 with hab | hab
          · rw [Nat.min_eq_left (by omega), Nat.max_eq_right (by omega)] at hf
            exact (and_full1 h ha hb (by omega) (by omega) hz.2 hab hf hfull).mono fun e w' ⟨he, hc⟩ => ⟨he, Step.same h hc⟩
          · rw [Nat.min_eq_right (by omega), Nat.max_eq_left (by omega)] at hf
            exact (and_full2 h ha hb (by omega) (by omega) hz.2 hab hf hfull).mono fun e w' ⟨he, hc⟩ => ⟨he, Step.same h hc⟩
        · rw [if_neg hfull]
          rcases Nat.lt_or_gt_of_ne ho.2 with hab | hab
          · rw [Nat.min_eq_left (by omega), Nat.max_eq_right (by omega)] at hf hi ⊢
            exact and_new1 h ha hb hi (by omega) (by omega) hz.2 hab hf (by omega)
          · rw [Nat.min_eq_right (by omega), Nat.max_eq_left (by omega)] at hf hi ⊢
            exact and_new2 h ha hb hi (by omega) (by omega) hz.2 hab hf (by omega)

/-- a maker in memory -/
structure MS (w : World) (g m : Nat) (s : Mk) (nb ncap : Nat) (iv : Value) (mb : Nat) : Prop where
  gm : GM w g s.1 nb ncap iv mb
  bk : blk w m [.pointer (some ⟨g, 0, none⟩), .int .i64 s.2]
  apart : m ∉ fp g nb mb iv
  ok : MOk s
/-- what a step of a maker leaves -/
structure MStep (w : World) (g m : Nat) (s' : Mk) (nb : Nat) (iv : Value) (mb : Nat) (nb' ncap' : Nat) (w' : World) : Prop where
  ms : MS w' g m s' nb' ncap' iv mb
  fresh : nb' = nb ∨ w.heap.size ≤ nb'
  ch : Ch [g, nb, mb, m] w w'
theorem MStep.trans {w w1 w2 : World} {m : Nat} {s1 s2 : Mk} {nb1 nc1 nb2 nc2 : Nat} (h1 : MStep w g m s1 nb iv mb nb1 nc1 w1) (h2 : MStep w1 g m s2 nb1 iv mb nb2 nc2 w2) : MStep w g m s2 nb iv mb nb2 nc2 w2 := by
  have hz := h1.ch.size
  refine ⟨h2.ms, ?_, ?_⟩
  · rcases h2.fresh with e | e
    · rw [e]; exact h1.fresh
    · exact .inr (by omega)
  · refine h1.ch.trans h2.ch (fun k hk => ?_)
    simp only [List.mem_cons, List.not_mem_nil, or_false] at hk ⊢
    rcases hk with rfl | rfl | rfl | rfl
    · simp
    · rcases h1.fresh with e | e
      · simp [e]
      · exact .inr e
    · simp
    · simp
theorem fp_fresh {w : World} {m nb' : Nat} (hm : m < w.heap.size) (h : m ∉ fp g nb mb iv) (hf : nb' = nb ∨ w.heap.size ≤ nb') : m ∉ fp g nb' mb iv := by
  simp only [fp, List.mem_cons, not_or] at h ⊢
  refine ⟨h.1, ?_, h.2.2.1, h.2.2.2⟩
  rcases hf with e | e
  · rw [e]; exact h.2.1
  · omega

set_option maxRecDepth 100000 in
set_option maxHeartbeats 1000000 in
theorem mand_err {m : Nat} {s : Mk} (h : MS w g m s nb ncap iv mb) (a b : Nat) (he : s.2 = 201) :
    Calls Try.prog 45 #[.pointer (some ⟨m, 0, none⟩), .int .i64 a, .int .i64 b] w fun e w' => e = .returned (.int .i64 0) ∧ w = w' := by
  have m1 : w.cell? ⟨m, 1, none⟩ = some (.int .i64 201) := by have := h.bk.cell (i := 1) rfl; rw [this, he]; rfl
  have hm := h.bk.lt
  clear h he
  go_enter Try.func45, Try.ntmps45
  go_wp2_with fail
  go_ret
  exact ⟨rfl, rfl⟩

set_option maxRecDepth 100000 in
set_option maxHeartbeats 1000000 in
theorem mand_ok0 {m : Nat} {s : Mk} (h : MS w g m s nb ncap iv mb) {a b : Nat} (ha : a < 2 * s.1.nodes.length) (hb : b < 2 * s.1.nodes.length) (he : s.2 = 0) :
    Calls Try.prog 45 #[.pointer (some ⟨m, 0, none⟩), .int .i64 a, .int .i64 b] w fun e w' => e = .returned (.int .i64 (mand s a b).2) ∧ ∃ nb' ncap', MStep w g m (mand s a b).1 nb iv mb nb' ncap' w' := by
  have hA : mand s a b = (((Aig.and s.1 a b).1, (Aig.and s.1 a b).2.2), (Aig.and s.1 a b).2.1) := by unfold mand; rw [if_neg (by omega)]
  have hO := (mand_ok h.ok ha hb).1
  rw [hA] at hO ⊢
  have m1 : w.cell? ⟨m, 1, none⟩ = some (.int .i64 0) := by have := h.bk.cell (i := 1) rfl; rw [this, he]; rfl
  have m0 : w.cell? ⟨m, 0, none⟩ = some (.pointer (some ⟨g, 0, none⟩)) := h.bk.cell rfl
  have hm := h.bk.lt
  have HA := (and_is h.gm ha hb)
  have H := Lib.hid h; clear h
  generalize Aig.and s.1 a b = R at *
  clear he ha hb
  have HR := Lib.hid hA; clear hA
  go_enter Try.func45, Try.ntmps45
  go_wp2_with fail
  refine HA.mono ?_
  rintro e w1 ⟨rfl, nb', ncap', hs⟩
  have hmn : m ∉ [g, nb, mb] := by have := H.out.apart; simp only [fp, List.mem_cons, not_or, List.not_mem_nil] at this ⊢; exact ⟨this.1, this.2.1, this.2.2.1, by simp⟩
  have k1 := H.out.bk.ch hs.ch hmn
  have m1' : w1.cell? ⟨m, 1, none⟩ = some _ := k1.cell rfl
  have m1f : w1.frozen? ⟨m, 1, none⟩ = false := k1.frozen
  have HS := Lib.hid hs; clear hs
  have hm1 := k1.lt
  have K1 := Lib.hid k1; clear k1
  go_wp2_with fail
  go_ret
  have hgm : GM (w1.setCell ⟨m, 1, none⟩ (.int .i64 R.2.2)) g R.1 nb' ncap' iv mb :=
    HS.out.gm.ch (F := [m]) ((Ch.refl _ _).setCell (by simp) _) (by
      have := fp_fresh hm H.out.apart HS.out.fresh
      intro k hk hkm
      simp only [List.mem_singleton] at hkm
      exact this (hkm ▸ hk))
  refine ⟨rfl, nb', ncap', ⟨hgm, K1.out.set _, fp_fresh hm H.out.apart HS.out.fresh, hO⟩, HS.out.fresh, (HS.out.ch.mono (fun k hk => .inl (by simp only [List.mem_cons, List.not_mem_nil, or_false] at hk ⊢; rcases hk with h | h | h <;> simp [h]))).setCell (by simp) _⟩

theorem mand_is {m : Nat} {s : Mk} (h : MS w g m s nb ncap iv mb) {a b : Nat} (ha : a < 2 * s.1.nodes.length) (hb : b < 2 * s.1.nodes.length) :
    Calls Try.prog 45 #[.pointer (some ⟨m, 0, none⟩), .int .i64 a, .int .i64 b] w fun e w' => e = .returned (.int .i64 (mand s a b).2) ∧ ∃ nb' ncap', MStep w g m (mand s a b).1 nb iv mb nb' ncap' w' := by
  rcases h.ok.err with he | he
  · exact mand_ok0 h ha hb he
  · have hA : mand s a b = (s, 0) := by unfold mand; rw [if_pos (by omega)]
    rw [hA]
    exact (mand_err h a b he).mono fun e w' ⟨h1, h2⟩ => by subst h2; exact ⟨h1, nb, ncap, h, .inl rfl, Ch.refl _ _⟩
end
end Go.Proofs.Ytnajonchjlplmaa
namespace Go.Proofs.Ytnajonchjlplmaa
open Go.RowKit Go.Mem Go.Aig
section
variable {w : World} {g : Nat} {nb ncap : Nat} {iv : Value} {mb : Nat}
theorem MS.bd {m : Nat} {s : Mk} (h : MS w g m s nb ncap iv mb) {r : Nat} (hr : r < 2 * s.1.nodes.length) : r ≤ 131072 := by
  have := h.ok.ok.room; have := h.ok.ok.most; omega

set_option maxRecDepth 100000 in
set_option maxHeartbeats 1000000 in
theorem mor_is {m : Nat} {s : Mk} (h : MS w g m s nb ncap iv mb) {a b : Nat} (ha : a < 2 * s.1.nodes.length) (hb : b < 2 * s.1.nodes.length) :
    Calls Try.prog 48 #[.pointer (some ⟨m, 0, none⟩), .int .i64 a, .int .i64 b] w fun e w' => e = .returned (.int .i64 (mor s a b).2) ∧ ∃ nb' ncap', MStep w g m (mor s a b).1 nb iv mb nb' ncap' w' := by
  have ba := h.bd ha
  have bb := h.bd hb
  have HA := mand_is h (neg_lt ha) (neg_lt hb)
  have bn : (mand s (neg a) (neg b)).2 ≤ 1000000 := by
    obtain ⟨h1, h2, h3⟩ := mand_ok h.ok (neg_lt ha) (neg_lt hb)
    have := h1.ok.room; have := h1.ok.most; omega
  unfold mor
  generalize mand s (neg a) (neg b) = R at *
  have H := Lib.hid h; clear h
  go_enter Try.func48, Try.ntmps48
  go_wp2_with fail
  refine (Not_any _ _ (by omega)).mono ?_
  rintro e w' ⟨rfl, rfl⟩
  go_wp2_with fail
  refine (Not_any _ _ (by omega)).mono ?_
  rintro e w' ⟨rfl, rfl⟩
  go_wp2_with fail
  refine HA.mono ?_
  rintro e w1 ⟨rfl, nb', ncap', hs⟩
  have HS := Lib.hid hs; clear hs
  go_wp2_with fail
  refine (Not_any _ _ (by omega)).mono ?_
  rintro e w' ⟨rfl, rfl⟩
  go_wp2_with fail
  go_ret
  exact ⟨rfl, nb', ncap', HS.out⟩

set_option maxRecDepth 100000 in
set_option maxHeartbeats 1000000 in
theorem mmux_is {m : Nat} {s : Mk} (h : MS w g m s nb ncap iv mb) {c a b : Nat} (hc : c < 2 * s.1.nodes.length) (ha : a < 2 * s.1.nodes.length) (hb : b < 2 * s.1.nodes.length) :
    Calls Try.prog 50 #[.pointer (some ⟨m, 0, none⟩), .int .i64 c, .int .i64 a, .int .i64 b] w fun e w' => e = .returned (.int .i64 (mmux s c a b).2) ∧ ∃ nb' ncap', MStep w g m (mmux s c a b).1 nb iv mb nb' ncap' w' := by
  have bc := h.bd hc
  obtain ⟨h1, h2, h3⟩ := mand_ok h.ok hc ha
  have H1 := mand_is h hc ha
  have e1 := h2.lt (neg_lt hc)
  have e2 := h2.lt hb
  obtain ⟨h4, h5, h6⟩ := mand_ok h1 e1 e2
  have e3 := h5.lt h3
  unfold mmux
  dsimp only
  generalize mand s c a = R1 at *
  have H2 : ∀ (w : World) (nb ncap : Nat) (h : MS w g m R1.1 nb ncap iv mb), Calls Try.prog 45 #[.pointer (some ⟨m, 0, none⟩), .int .i64 (neg c : Nat), .int .i64 b] w fun e w' => e = .returned (.int .i64 (mand R1.1 (neg c) b).2) ∧ ∃ nb' ncap', MStep w g m (mand R1.1 (neg c) b).1 nb iv mb nb' ncap' w' := fun _ _ _ h => mand_is h e1 e2
  generalize mand R1.1 (neg c) b = R2 at *
  have H3 : ∀ (w : World) (nb ncap : Nat) (h : MS w g m R2.1 nb ncap iv mb), Calls Try.prog 48 #[.pointer (some ⟨m, 0, none⟩), .int .i64 R1.2, .int .i64 R2.2] w fun e w' => e = .returned (.int .i64 (mor R2.1 R1.2 R2.2).2) ∧ ∃ nb' ncap', MStep w g m (mor R2.1 R1.2 R2.2).1 nb iv mb nb' ncap' w' := fun _ _ _ h => mor_is h e3 h6
  generalize mor R2.1 R1.2 R2.2 = R3 at *
  have HH2 := Lib.hid H2; clear H2
  have HH3 := Lib.hid H3; clear H3
  clear h h1 h2 h3 h4 h5 h6 e1 e2 e3
  go_enter Try.func50, Try.ntmps50
  go_wp2_with fail
  refine H1.mono ?_
  rintro e w1 ⟨rfl, nb1, ncap1, hs⟩
  have HS1 := Lib.hid hs; clear hs H1
  go_wp2_with fail
  refine (Not_any _ _ (by omega)).mono ?_
  rintro e w' ⟨rfl, rfl⟩
  go_wp2_with fail
  refine (HH2.out _ _ _ HS1.out.ms).mono ?_
  rintro e w2 ⟨rfl, nb2, ncap2, hs⟩
  have HS2 := Lib.hid hs; clear hs
  go_wp2_with fail
  refine (HH3.out _ _ _ HS2.out.ms).mono ?_
  rintro e w3 ⟨rfl, nb3, ncap3, hs⟩
  have HS3 := Lib.hid hs; clear hs
  go_wp2_with fail
  go_ret
  exact ⟨rfl, nb3, ncap3, (HS1.out.trans HS2.out).trans HS3.out⟩
end

/-! ### the library's IndexFunc and ContainsFunc over references -/
section
/-- a slice of references, to be read: its cells -/
structure Sl (w : World) (a : Option Addr) (xs : List Int) : Prop where
  cells : ∀ (i : Nat) (x : Int), xs[i]? = some x → ∃ b o, a = some ⟨b, o, none⟩ ∧ w.cell? ⟨b, o + i, none⟩ = some (.int .i64 x)
  bd : xs.length ≤ 9223372036854775807
theorem Sl.at {w : World} {a : Option Addr} {xs : List Int} (h : Sl w a xs) (hn : 0 < xs.length) : ∃ b o, a = some ⟨b, o, none⟩ ∧ ∀ (i : Nat) (x : Int), xs[i]? = some x → w.cell? ⟨b, o + i, none⟩ = some (.int .i64 x) := by
  obtain ⟨b, o, rfl, _⟩ := h.cells 0 xs[0] (List.getElem?_eq_getElem hn)
  refine ⟨b, o, rfl, fun i x hx => ?_⟩
  obtain ⟨b', o', e, hc⟩ := h.cells i x hx
  cases e
  exact hc

def idxOf (p : Int → Bool) (xs : List Int) : Int := match xs.findIdx? p with | some i => i | none => -1
theorem idxOf_yes {p : Int → Bool} {xs : List Int} {k : Nat} {x : Int} (hx : xs[k]? = some x) (hp : p x = true) (hno : ∀ (j : Nat) (y : Int), j < k → xs[j]? = some y → p y = false) : idxOf p xs = k := by
  have : xs.findIdx? p = some k := by
    rw [List.findIdx?_eq_some_iff_getElem]
    obtain ⟨hk, rfl⟩ := List.getElem?_eq_some_iff.1 hx
    exact ⟨hk, hp, fun j hj => by rw [hno j _ hj (List.getElem?_eq_getElem (by omega))]; simp⟩
  unfold idxOf; rw [this]
theorem idxOf_no {p : Int → Bool} {xs : List Int} (hno : ∀ (j : Nat) (y : Int), xs[j]? = some y → p y = false) : idxOf p xs = -1 := by
  have : xs.findIdx? p = none := by
    rw [List.findIdx?_eq_none_iff]
    intro x hx
    obtain ⟨j, hj⟩ := List.mem_iff_getElem?.1 hx
    exact hno j x hj
  unfold idxOf; rw [this]

/-- a function with a body: called by its value, it is entered -/
def Fnv (fid : Nat) : Prop := ∀ (args : Array Value) (w : World), (callFunc fid args).run Try.prog w = .ok (.enter fid args) w
theorem fnv_of {fid : Nat} {fn : Func} (h : Try.prog.funcs[fid]? = some fn) (hb : fn.body ≠ none) (hn : fn.name ≠ "runtime.NumGoroutine") : Fnv fid := fun args w => by
  unfold callFunc
  simp [h, hb, hn]

set_option maxRecDepth 100000 in
set_option maxHeartbeats 1000000 in
theorem IFref_is {w : World} {a : Option Addr} {xs : List Int} (cap fid : Nat) (caps : Array Value) (p : Int → Bool) (h : Sl w a xs) (hf : ∀ x ∈ xs, Calls Try.prog fid (#[.int .i64 x] ++ caps) w fun e w' => e = .returned (.bool (p x)) ∧ w = w')
    (hfn : Fnv fid) :
    Calls Try.prog 70 #[.slice a xs.length cap, .func (.func fid) #[] caps] w fun e w' => e = .returned (.int .i64 (idxOf p xs)) ∧ w = w' := by
  have hbd := h.bd
  have hcf : ∀ (args : Array Value) (w : World), (callFunc fid args).run Try.prog w = .ok (.enter fid args) w := hfn
  have HF := Lib.hid hf; clear hf
  have H := Lib.hid h; clear h
  go_enter Try.func70, Try.ntmps70
  go_wp2_with fail
  go_loop [8] (fun i => ∃ k : Nat, k ≤ xs.length ∧ i = .int .i64 k ∧ ∀ (j : Nat) (y : Int), j < k → xs[j]? = some y → p y = false) (fun i => xs.length - (intOf i).toNat)
  case atStart => exact ⟨0, Nat.zero_le _, rfl, fun j y hj => by omega⟩
  case round =>
    obtain ⟨k, hk, rfl, hno⟩ := hrel
    have HN := Lib.hid hno; clear hno
    by_cases hlt : k < xs.length
    · obtain ⟨b, o, rfl, hc⟩ := H.out.at (by omega)
      have hx : xs[k]? = some xs[k] := List.getElem?_eq_getElem hlt
      have c1 := hc k _ hx
      have hcall := HF.out xs[k] (List.getElem_mem hlt)
      have HX := Lib.hid hx; clear hx hc
      generalize xs[k] = x at *
      have HC := Lib.hid hcall; clear hcall
      cases hp : p x
      · rw [hp] at HC
        go_wp2_with fail
        refine HC.out.mono ?_
        rintro e w' ⟨rfl, rfl⟩
        go_wp2_with fail
        go_round
        case rel => 
          refine ⟨k + 1, by omega, by go_num, fun j y hj hy => ?_⟩
          by_cases hjk : j = k
          · subst hjk; rw [HX.out] at hy; cases hy; exact hp
          · exact HN.out j y (by omega) hy
        case measure => simp [intOf]; omega
      · rw [hp] at HC
        go_wp2_with fail
        refine HC.out.mono ?_
        rintro e w' ⟨rfl, rfl⟩
        go_wp2_with fail
        go_ret
        exact ⟨ret_int (idxOf_yes HX.out hp HN.out).symm, rfl⟩
    · go_wp2_with fail
      go_ret
      exact ⟨ret_int (idxOf_no (fun j y hy => HN.out j y (by have := (List.getElem?_eq_some_iff.1 hy).1; omega) hy)).symm, rfl⟩

set_option maxRecDepth 100000 in
set_option maxHeartbeats 1000000 in
theorem CFref_is {w : World} {a : Option Addr} {xs : List Int} (cap fid : Nat) (caps : Array Value) (p : Int → Bool) (h : Sl w a xs) (hf : ∀ x ∈ xs, Calls Try.prog fid (#[.int .i64 x] ++ caps) w fun e w' => e = .returned (.bool (p x)) ∧ w = w')
    (hfn : Fnv fid) :
    Calls Try.prog 54 #[.slice a xs.length cap, .func (.func fid) #[] caps] w fun e w' => e = .returned (.bool (xs.any p)) ∧ w = w' := by
  have HI := IFref_is cap fid caps p h hf hfn
  have hidx : decide (0 ≤ idxOf p xs) = xs.any p := by
    unfold idxOf
    cases hh : xs.findIdx? p with
    | none =>
      have := List.findIdx?_eq_none_iff.1 hh
      have h2 : xs.any p = false := by simpa using this
      rw [h2]; rfl
    | some i =>
      have := List.findIdx?_eq_some_iff_getElem.1 hh
      obtain ⟨hlt, hp, _⟩ := this
      have h2 : xs.any p = true := List.any_eq_true.2 ⟨_, List.getElem_mem hlt, hp⟩
      rw [h2]; simp
  clear hf h hfn
  generalize idxOf p xs = q at *
  have HQ := Lib.hid hidx; clear hidx
  have HH := Lib.hid HI; clear HI
  go_enter Try.func54, Try.ntmps54
  go_wp2_with fail
  refine HH.out.mono ?_
  rintro e w' ⟨rfl, rfl⟩
  go_wp2_with fail
  go_ret
  exact ⟨ret_bool HQ.out, rfl⟩
end
end Go.Proofs.Ytnajonchjlplmaa
namespace Go.Proofs.Ytnajonchjlplmaa
open Go.RowKit Go.Mem Go.Aig
theorem setCells_ch {b : Nat} {a : World} : ∀ (vs : List Value) (o : Nat) {w : World}, Ch [b] a w → Ch [b] a (w.setCells b o vs)
  | [], _, _, h => h
  | v :: vs, o, _, h => setCells_ch vs (o + 1) (h.setCell (by simp) v)
theorem setCells_blk {b : Nat} {e : TypeId} : ∀ (vs : List Value) (o : Nat) {w : World} {cur : Array Value}, w.heap[b]? = some (.cells cur e (0, 0)) →
    ∃ cur', (w.setCells b o vs).heap[b]? = some (.cells cur' e (0, 0)) ∧ cur'.size = cur.size ∧ cur'.toList.take o = cur.toList.take o
  | [], _, _, cur, h => ⟨cur, h, rfl, rfl⟩
  | v :: vs, o, w, cur, h => by
    have h1 : (w.setCell ⟨b, o, none⟩ v).heap[b]? = some (.cells (cur.setIfInBounds o v) e (0, 0)) := by
      simp only [World.setCell, Array.getElem?_modify]
      rw [if_pos trivial, h]
      rfl
    obtain ⟨cur', h2, h3, h4⟩ := setCells_blk vs (o + 1) h1
    refine ⟨cur', h2, by rw [h3]; simp, ?_⟩
    have h5 := congrArg (List.take o) h4
    rw [List.take_take, List.take_take, Nat.min_eq_left (by omega)] at h5
    rw [h5]
    simp [List.take_set_of_le]

/-- a row of references, to be read -/
def ints (l : List Int) : List Value := l.map fun x => .int .i64 x
theorem row.sl {w : World} {v : Value} {xs : List Int} {a : Option Addr} {n c : Nat} (h : row w 33 1 v xs.length (ints xs)) (hv : v = .slice a n c) : Sl w a xs := by
  refine ⟨fun i x hx => ?_, ?_⟩
  · have hi := (List.getElem?_eq_some_iff.1 hx).1
    rcases h.2 with ⟨_, h0⟩ | ⟨g, cap, cur, e, _, hg, hle, hm, hs, ht⟩
    · omega
    · rw [e] at hv
      cases hv
      refine ⟨g, 0, rfl, ?_⟩
      have := h.cells (g := g) (by rw [e]; rfl) i (.int .i64 x) (by simp [ints, hx])
      rw [Addr.add_lit] at this
      simpa using this
  · rcases h.2 with ⟨_, h0⟩ | ⟨g, cap, cur, e, _, hg, hle, hm, hs, ht⟩
    · omega
    · unfold maxLen at hm; omega

theorem clear_row {w : World} {b cap n i : Nat} {xs : List Int} (h : row w 33 1 (.slice (some ⟨b, 0, none⟩) n cap) n (ints xs)) (hi : i < n) :
    ∃ w2, (∀ (ty c : Nat), (Builtin.clear_ #[25] ty #[.slice (some ⟨b, i, none⟩) (n - i) c]).run Try.prog w = .ok (.tuple #[]) w2) ∧ row w2 33 1 (.slice (some ⟨b, 0, none⟩) i cap) i (ints (xs.take i)) ∧ Ch [b] w w2 := by
  have hl := h.1
  rcases h.2 with ⟨e, _⟩ | ⟨g, cap', cur, e, hb, hg, hle, hm, hs, ht⟩
  · cases e
  · cases e
    simp only [Nat.mul_one] at hs ht
    have hc : ∀ j, j < n - i → (w.cell? ⟨b, i + j, none⟩).isSome = true := fun j hj => by
      have hlt : i + j < cur.size := by omega
      simp [World.cell?, hg, hlt]
    have hf : ∀ j, j < n - i → w.frozen? ⟨b, i + j, none⟩ = false := fun j hj => by simp [World.frozen?, hg]
    have hz : ∀ w, (zeroValue 33).run Try.prog w = .ok (.int .i64 0) w := fun w => by kernel_rfl
    refine ⟨_, fun ty c => Lib.run_clear_slice w 25 33 ty (.int .i64 0) Try.underlying25 hz rfl rfl b i (n - i) c (by omega) hc hf, ?_, setCells_ch _ _ (Ch.refl _ _)⟩
    obtain ⟨cur', h2, h3, h4⟩ := setCells_blk (e := 33) (List.replicate (n - i) (.int .i64 0)) i hg
    refine ⟨?_, .inr ⟨b, cap, cur', rfl, Nat.zero_le _, h2, by omega, hm, by omega, ?_⟩⟩
    · have : xs.length = n := by simpa [ints] using hl
      simp [ints, this]; omega
    · rw [Nat.mul_one, h4]
      have : (cur.toList.take n).take i = (ints xs).take i := by rw [ht]
      rw [List.take_take, Nat.min_eq_left (by omega)] at this
      rw [this]
      simp [ints, List.map_take]

set_option maxRecDepth 100000 in
set_option maxHeartbeats 1000000 in
theorem DFref_none {w : World} {a : Option Addr} {xs : List Int} (cap fid : Nat) (caps : Array Value) (p : Int → Bool) (h : Sl w a xs) (hf : ∀ x ∈ xs, Calls Try.prog fid (#[.int .i64 x] ++ caps) w fun e w' => e = .returned (.bool (p x)) ∧ w = w')
    (hfn : Fnv fid) (hno : idxOf p xs = -1) :
    Calls Try.prog 58 #[.slice a xs.length cap, .func (.func fid) #[] caps] w fun e w' => e = .returned (.slice a xs.length cap) ∧ w = w' := by
  have HI := IFref_is cap fid caps p h hf hfn
  rw [hno] at HI
  clear hf h hfn hno
  have HH := Lib.hid HI; clear HI
  go_enter Try.func58, Try.ntmps58
  go_wp2_with fail
  refine HH.out.mono ?_
  rintro e w' ⟨rfl, rfl⟩
  go_wp2_with fail
  go_ret
  exact ⟨rfl, rfl⟩

set_option maxRecDepth 100000 in
set_option maxHeartbeats 1000000 in
theorem DFref_tail {w : World} {b cap n : Nat} {xs : List Int} (fid : Nat) (caps : Array Value) (p : Int → Bool) (h : row w 33 1 (.slice (some ⟨b, 0, none⟩) n cap) n (ints xs)) (hn : xs.length = n) (hf : ∀ x ∈ xs, Calls Try.prog fid (#[.int .i64 x] ++ caps) w fun e w' => e = .returned (.bool (p x)) ∧ w = w')
    (hfn : Fnv fid) (i : Nat) (hi : i < n) (hidx : idxOf p xs = i) (htail : ∀ (j : Nat) (x : Int), i ≤ j → xs[j]? = some x → p x = true) :
    Calls Try.prog 58 #[.slice (some ⟨b, 0, none⟩) n cap, .func (.func fid) #[] caps] w fun e w' => e = .returned (.slice (some ⟨b, 0, none⟩) i cap) ∧ row w' 33 1 (.slice (some ⟨b, 0, none⟩) i cap) i (ints (xs.take i)) ∧ Ch [b] w w' := by
  have hs := row.sl (by rw [hn]; exact h) rfl
  have HI := IFref_is cap fid caps p hs hf hfn
  rw [hidx, hn] at HI
  have hcap : n ≤ cap ∧ cap ≤ 9223372036854775807 := by
    rcases h.2 with ⟨e, _⟩ | ⟨g, cap', cur, e, _, hg, hle, hm, _⟩
    · cases e
    · cases e; unfold maxLen at hm; exact ⟨hle, by omega⟩
  have hcf : ∀ (args : Array Value) (w : World), (callFunc fid args).run Try.prog w = .ok (.enter fid args) w := hfn
  obtain ⟨w2, hclr, hrow, hch⟩ := clear_row h hi
  have hcells : ∀ (j : Nat) (x : Int), xs[j]? = some x → w.cell? ⟨b, j, none⟩ = some (.int .i64 x) := fun j x hx => by
    obtain ⟨b', o', e, hc⟩ := hs.cells j x hx
    cases e
    simpa using hc
  have HC := Lib.hid hcells; clear hcells
  have HF := Lib.hid hf; clear hf
  have HT := Lib.hid htail; clear htail
  have HH := Lib.hid HI; clear HI
  have HR := Lib.hid hrow; clear hrow
  have HN := Lib.hid hn; clear hn
  have HCH := Lib.hid hch; clear hch
  clear h hs hidx
  go_enter Try.func58, Try.ntmps58
  go_wp2_with fail
  refine HH.out.mono ?_
  rintro e w' ⟨rfl, rfl⟩
  have e1 : ((i : Int) == -1) = false := beqN (by omega)
  go_wp2_with fail
  go_loop [5, 6] (fun i5 i6 => ∃ k : Nat, k ≤ n ∧ i < k ∧ i5 = .int .i64 i ∧ i6 = .int .i64 k) (fun _ i6 => n - (intOf i6).toNat)
  case atStart => exact ⟨i + 1, by omega, by omega, rfl, by go_num⟩
  case round =>
    obtain ⟨k, hk, hik, rfl, rfl⟩ := hrel
    by_cases hlt : k < n
    · have hlx : k < xs.length := by have := HN.out; omega
      have hx : xs[k]? = some xs[k] := List.getElem?_eq_getElem hlx
      have c1 := HC.out k _ hx
      have hp := HT.out k _ (by omega) hx
      have hcall := HF.out xs[k] (List.getElem_mem hlx)
      rw [hp] at hcall
      have HX := Lib.hid hx; clear hx hp
      generalize xs[k] = x at *
      have HC2 := Lib.hid hcall; clear hcall
      go_wp2_with fail
      refine HC2.out.mono ?_
      rintro e w' ⟨rfl, rfl⟩
      go_wp2_with fail
      go_round
      case rel => exact ⟨k + 1, by omega, by omega, rfl, by go_num⟩
      case measure => simp [intOf]; omega
    · go_wp2_with fail
      go_ret
      exact ⟨rfl, HR.out, HCH.out⟩
end Go.Proofs.Ytnajonchjlplmaa
namespace Go.Aig
theorem take_get {ns : List Nd} {n m : Nat} {x : Nd} (h : (ns.take n)[m]? = some x) : m < n ∧ ns[m]? = some x := by
  rw [List.getElem?_take] at h
  split at h
  · exact ⟨by assumption, h⟩
  · cases h
theorem dep_take {ns : List Nd} {n r : Nat} (h : r < 2 * n) : dep (ns.take n) r = dep ns r := by
  unfold dep
  rw [List.getElem?_take, if_pos (by omega)]
theorem WF.take {ns : List Nd} (h : WF ns) {n : Nat} (hn : 1 ≤ n) : WF (ns.take n) := by
  refine ⟨?_, ?_, ?_, ?_⟩
  · rw [List.getElem?_take, if_pos (by omega)]; exact h.const
  · intro m x hx hm
    obtain ⟨hlt, hx⟩ := take_get hx
    rcases h.other m x hx hm with h1 | ⟨h1, h2, h3, h4, h5, h6⟩
    · exact .inl h1
    · exact .inr ⟨h1, h2, h3, h4, h5, by rw [h6, dep_take (by omega), dep_take (by omega)]⟩
  · intro m k x y hx hy
    exact h.once m k x y (take_get hx).2 (take_get hy).2
  · intro m x hx
    exact h.low m x (take_get hx).2
theorem Ok.take {G : Gra} (h : Ok G) {n : Nat} (hn : 1 ≤ n) : Ok { G with nodes := G.nodes.take n } :=
  ⟨h.wf.take hn, by have := h.room; simp; omega, h.most⟩

theorem inputsFrom_ge : ∀ (ns : List Nd) (k r : Nat), r ∈ inputsFrom ns k → 2 * k ≤ r ∧ r % 2 = 0 ∧ r < 2 * (k + ns.length)
  | [], _, _, h => by simp [inputsFrom] at h
  | x :: ns, k, r, h => by
    unfold inputsFrom at h
    split at h
    · rcases List.mem_cons.1 h with rfl | h
      · simp
      · obtain ⟨h1, h2, h3⟩ := inputsFrom_ge ns (k + 1) r h
        exact ⟨by omega, h2, by simp; omega⟩
    · obtain ⟨h1, h2, h3⟩ := inputsFrom_ge ns (k + 1) r h
      exact ⟨by omega, h2, by simp; omega⟩
theorem inputsFrom_split (ms : List Nd) : ∀ (ns : List Nd) (k : Nat), inputsFrom (ns ++ ms) k = inputsFrom ns k ++ inputsFrom ms (k + ns.length)
  | [], k => by simp [inputsFrom]
  | x :: ns, k => by
    simp only [List.cons_append, inputsFrom, inputsFrom_split ms ns (k + 1), List.length_cons]
    rw [show k + 1 + ns.length = k + (ns.length + 1) from by omega]
    split <;> simp
theorem inputs_take (ns : List Nd) (n : Nat) : ∃ l, inputs ns = inputs (ns.take n) ++ l ∧ (∀ r ∈ l, 2 * min n ns.length ≤ r) := by
  refine ⟨inputsFrom (ns.drop n) (min n ns.length), ?_, fun r hr => (inputsFrom_ge _ _ _ hr).1⟩
  have := inputsFrom_split (ns.drop n) (ns.take n) 0
  rw [List.take_append_drop] at this
  unfold inputs
  rw [this]
  simp
end Go.Aig
namespace Go.Proofs.Ytnajonchjlplmaa
open Go.RowKit Go.Mem Go.Aig

/-- the map of the ands whose numbers are in S -/
structure MapOn (es : List MapEntry) (ns : List Nd) (S : Nat → Prop) : Prop where
  of : ∀ e ∈ es, ∃ (n : Nat) (x : Nd), S n ∧ ns[n]? = some x ∧ x.k = 3 ∧ e.key = pr x.l x.r ∧ e.val = .int .i64 n
  has : ∀ (n : Nat) (x : Nd), S n → ns[n]? = some x → x.k = 3 → ∃ e ∈ es, e.key = pr x.l x.r
  once : es.Pairwise (fun e f => e.key ≠ f.key)
theorem MapOk.on {es : List MapEntry} {ns : List Nd} (h : MapOk es ns) {S : Nat → Prop} (hS : ∀ n, n < ns.length → S n) : MapOn es ns S :=
  ⟨fun e he => by obtain ⟨n, x, h1, h2⟩ := h.of e he; exact ⟨n, x, hS n (List.getElem?_eq_some_iff.1 h1).1, h1, h2⟩, fun n x _ => h.has n x, h.once⟩
theorem MapOn.take {es : List MapEntry} {ns : List Nd} {n : Nat} (h : MapOn es ns (· < n)) : MapOk es (ns.take n) :=
  ⟨fun e he => by obtain ⟨m, x, h0, h1, h2⟩ := h.of e he; exact ⟨m, x, by rw [List.getElem?_take, if_pos h0]; exact h1, h2⟩, fun m x hx => h.has m x (take_get hx).1 (take_get hx).2, h.once⟩
theorem MapOn.mono {es : List MapEntry} {ns : List Nd} {S T : Nat → Prop} (h : MapOn es ns S) (h1 : ∀ (n : Nat) (x : Nd), S n → ns[n]? = some x → x.k = 3 → T n) (h2 : ∀ (n : Nat) (x : Nd), T n → ns[n]? = some x → x.k = 3 → S n) : MapOn es ns T :=
  ⟨fun e he => by obtain ⟨m, x, h0, hx, hk, h3⟩ := h.of e he; exact ⟨m, x, h1 m x h0 hx hk, hx, hk, h3⟩, fun m x hT hx hk => h.has m x (h2 m x hT hx hk) hx hk, h.once⟩
theorem MapOn.keys {es : List MapEntry} {ns : List Nd} {S : Nat → Prop} (h : MapOn es ns S) : PairKeys es := fun e he => by
  obtain ⟨n, x, _, _, _, hk, _⟩ := h.of e he
  exact ⟨_, _, hk⟩
theorem pairwise_get {es : List MapEntry} (h : es.Pairwise (fun e f => e.key ≠ f.key)) {i j : Nat} {e f : MapEntry} (he : es[i]? = some e) (hf : es[j]? = some f) (hk : e.key = f.key) : i = j := by
  obtain ⟨hi, rfl⟩ := List.getElem?_eq_some_iff.1 he
  obtain ⟨hj, rfl⟩ := List.getElem?_eq_some_iff.1 hf
  rcases Nat.lt_trichotomy i j with hlt | heq | hgt
  · exact (List.pairwise_iff_getElem.1 h i j hi hj hlt hk).elim
  · exact heq
  · exact (List.pairwise_iff_getElem.1 h j i hj hi hgt hk.symm).elim
theorem MapOn.delete {es : List MapEntry} {ns : List Nd} {S : Nat → Prop} (h : MapOn es ns S) (hw : WF ns) {n : Nat} {x : Nd} (hS : S n) (hx : ns[n]? = some x) (hk : x.k = 3) :
    ∃ j v, findP x.l x.r es 0 = some (j, v) ∧ MapOn (es.eraseIdx j) ns (fun m => S m ∧ m ≠ n) := by
  cases hp : findP x.l x.r es 0 with
  | none =>
    obtain ⟨e, he, hek⟩ := h.has n x hS hx hk
    exact (findP_none hp e he hek).elim
  | some q =>
    obtain ⟨j, v⟩ := q
    obtain ⟨_, e, he, hek, hev⟩ := findP_some hp
    simp only [Nat.sub_zero] at he
    have hsub : ∀ f ∈ es.eraseIdx j, f ∈ es ∧ f.key ≠ e.key := by
      intro f hf
      obtain ⟨i, hi⟩ := List.mem_iff_getElem?.1 hf
      rw [List.getElem?_eraseIdx] at hi
      split at hi
      · exact ⟨List.mem_of_getElem? hi, fun hh => by have := pairwise_get h.once hi he hh; omega⟩
      · exact ⟨List.mem_of_getElem? hi, fun hh => by have := pairwise_get h.once hi he hh; omega⟩
    refine ⟨j, v, rfl, fun f hf => ?_, fun m y hm hy hyk => ?_, h.once.sublist (List.eraseIdx_sublist _ _)⟩
    · obtain ⟨h1, h2⟩ := hsub f hf
      obtain ⟨m, y, hm, hy, hyk, hky, hv⟩ := h.of f h1
      refine ⟨m, y, ⟨hm, fun e1 => ?_⟩, hy, hyk, hky, hv⟩
      subst e1
      rw [hx] at hy; cases hy
      exact h2 (hky.trans hek.symm)
    · obtain ⟨f, hf, hfk⟩ := h.has m y hm.1 hy hyk
      refine ⟨f, ?_, hfk⟩
      obtain ⟨i, hi⟩ := List.mem_iff_getElem?.1 hf
      have hij : i ≠ j := by
        intro e1
        subst e1
        rw [hi] at he; cases he
        obtain ⟨e1, e2⟩ := pr_nat (hfk.symm.trans hek)
        exact hm.2 (hw.once m n y x hy hx hyk hk e1 e2)
      rcases Nat.lt_or_gt_of_ne hij with hlt | hgt
      · exact List.mem_of_getElem? (i := i) (by rw [List.getElem?_eraseIdx, if_pos hlt]; exact hi)
      · refine List.mem_of_getElem? (i := i - 1) ?_
        rw [List.getElem?_eraseIdx, if_neg (by omega), show i - 1 + 1 = i from by omega]
        exact hi

theorem delete_is {W : World} {mb : Nat} {ns : List Nd} {S : Nat → Prop} (hm : ∃ es clock, W.heap[mb]? = some (.map es clock) ∧ MapOn es.toList ns S) (hw : WF ns) {n : Nat} {x : Nd} (hS : S n) (hx : ns[n]? = some x) (hk : x.k = 3) :
    ∃ w2, (∀ ty, (Builtin.delete_ #[84, 88] ty #[.map (some mb), .agg #[.int .i64 x.l, .int .i64 x.r]]).run Try.prog W = .ok (.tuple #[]) w2) ∧ (∃ es clock, w2.heap[mb]? = some (.map es clock) ∧ MapOn es.toList ns (fun m => S m ∧ m ≠ n)) ∧ Ch [mb] W w2 := by
  obtain ⟨es, clock, hm, ho⟩ := hm
  have hlt : mb < W.heap.size := (Array.getElem?_eq_some_iff.1 hm).1
  obtain ⟨j, v, hf, ho2⟩ := ho.delete hw hS hx hk
  refine ⟨_, fun ty => pairSides.delete Try.underlying84 ty hm ho.keys x.l x.r hf, ⟨_, _, by show (W.heap.setIfInBounds mb _)[mb]? = _; rw [Array.getElem?_setIfInBounds_self_of_lt hlt], ?_⟩, setMap_ch W mb _⟩
  simpa [Array.toList_eraseIdxIfInBounds] using ho2
section
variable {w : World} {g : Nat} {G : Gra} {nb ncap : Nat} {iv : Value} {mb : Nat}

set_option maxRecDepth 100000 in
set_option maxHeartbeats 1000000 in
theorem Cut_arg (h : GM w g G nb ncap iv mb) (n : Int) (hn : n < 1 ∨ (G.nodes.length : Int) < n) (_h1 : n ≤ 9223372036854775807) (_h0 : -9223372036854775808 ≤ n) :
    Calls Try.prog 29 #[.pointer (some ⟨g, 0, none⟩), .int .i64 n] w fun e w' => e = .returned (.int .i64 2) ∧ Ch [] w w' := by
  have ⟨c0, c1, c2, _⟩ := h.c
  have hl := h.lt.1
  by_cases hlt : n < 1
  · have hd : decide (n < 1) = true := decide_eq_true hlt
    clear hn
    have HN := (none_no (h.ch (F := []) ((Ch.refl _ _).alloc (.cells #[.int .i64 n] 3)) (by simp)))
    clear h
    go_enter Try.func29, Try.ntmps29
    go_wp2_with fail
    refine HN.mono ?_
    rintro e w' ⟨rfl, rfl⟩
    go_wp2_with fail
    refine Ord.St.door (fun _ => True) [.rd, .fl, .fl, .rd, .fl, .fl, .fl, .rd, .rd, .fl, .fl, .fl] [0, 1, 3, 7, 7, 23, 55, 119, 247, 511, 1023, 2047] [0, 1, 2, 3, 4, 5, 6, 7, 8, 9, 10, 11] mixed (by kernel_rfl) rfl ?_
    refine Ord.St.rd2 (T' := ?_) 0 [1, 2, 3, 4, 5, 6, 7, 8, 9, 10, 11] _ _ rfl (by kernel_rfl) rfl rfl rfl rfl (fun K hk => ?_) ?_
    rotate_left
    · go_step; exact hk
    refine Ord.St.fl2 (T' := ?_) 1 [2, 3, 4, 5, 6, 7, 8, 9, 10, 11] _ _ rfl (by kernel_rfl) rfl rfl rfl rfl (fun K w' hk => ?_) ?_
    rotate_left
    · go_step; exact hk
    refine Ord.St.fl2 (T' := ?_) 2 [3, 4, 5, 6, 7, 8, 9, 10, 11] _ _ rfl (by kernel_rfl) rfl rfl rfl rfl (fun K w' hk => ?_) ?_
    rotate_left
    · go_step; exact hk
    first | (refine Ord.St.rd2 (T' := ?_) 3 [4, 5, 6, 7, 8, 9, 10, 11] _ _ rfl (by kernel_rfl) ?_ rfl rfl rfl (fun K hk => ?_) ?_; rotate_left; (first | rfl | (simp [Region.wanted, yielded, *]; done)); focus (go_step; exact hk)) | (refine Ord.St.skipr 3 [4, 5, 6, 7, 8, 9, 10, 11] _ rfl (by kernel_rfl) ?_ (fun K hK => ?_); (first | rfl | (simp [Region.wanted, yielded, *]; done)); go_simp; refine hK _ ?_; clear hK K)
    first | (refine Ord.St.fl2 (T' := ?_) 4 [5, 6, 7, 8, 9, 10, 11] _ _ rfl (by kernel_rfl) ?_ rfl rfl rfl (fun K w' hk => ?_) ?_; rotate_left; (first | rfl | (simp [Region.wanted, yielded, *]; done)); focus (go_step; exact hk)) | (refine Ord.St.skip 4 [5, 6, 7, 8, 9, 10, 11] _ rfl (by kernel_rfl) ?_ (fun K hK => ?_); (first | rfl | (simp [Region.wanted, yielded, *]; done)); go_simp; refine hK _ ?_; clear hK K)
    first | (refine Ord.St.fl2 (T' := ?_) 5 [6, 7, 8, 9, 10, 11] _ _ rfl (by kernel_rfl) ?_ rfl rfl rfl (fun K w' hk => ?_) ?_; rotate_left; (first | rfl | (simp [Region.wanted, yielded, *]; done)); focus (go_step; exact hk)) | (refine Ord.St.skip 5 [6, 7, 8, 9, 10, 11] _ rfl (by kernel_rfl) ?_ (fun K hK => ?_); (first | rfl | (simp [Region.wanted, yielded, *]; done)); go_simp; refine hK _ ?_; clear hK K)
    first | (refine Ord.St.fl2 (T' := ?_) 6 [7, 8, 9, 10, 11] _ _ rfl (by kernel_rfl) ?_ rfl rfl rfl (fun K w' hk => ?_) ?_; rotate_left; (first | rfl | (simp [Region.wanted, yielded, *]; done)); focus (go_step; exact hk)) | (refine Ord.St.skip 6 [7, 8, 9, 10, 11] _ rfl (by kernel_rfl) ?_ (fun K hK => ?_); (first | rfl | (simp [Region.wanted, yielded, *]; done)); go_simp; refine hK _ ?_; clear hK K)
    first | (refine Ord.St.rd2 (T' := ?_) 7 [8, 9, 10, 11] _ _ rfl (by kernel_rfl) ?_ rfl rfl rfl (fun K hk => ?_) ?_; rotate_left; (first | rfl | (simp [Region.wanted, yielded, *]; done)); focus (go_step; exact hk)) | (refine Ord.St.skipr 7 [8, 9, 10, 11] _ rfl (by kernel_rfl) ?_ (fun K hK => ?_); (first | rfl | (simp [Region.wanted, yielded, *]; done)); go_simp; refine hK _ ?_; clear hK K)
    first | (refine Ord.St.rd2 (T' := ?_) 8 [9, 10, 11] _ _ rfl (by kernel_rfl) ?_ rfl rfl rfl (fun K hk => ?_) ?_; rotate_left; (first | rfl | (simp [Region.wanted, yielded, *]; done)); focus (go_step; exact hk)) | (refine Ord.St.skipr 8 [9, 10, 11] _ rfl (by kernel_rfl) ?_ (fun K hK => ?_); (first | rfl | (simp [Region.wanted, yielded, *]; done)); go_simp; refine hK _ ?_; clear hK K)
    first | (refine Ord.St.fl2 (T' := ?_) 9 [10, 11] _ _ rfl (by kernel_rfl) ?_ rfl rfl rfl (fun K w' hk => ?_) ?_; rotate_left; (first | rfl | (simp [Region.wanted, yielded, *]; done)); focus (go_step; exact hk)) | (refine Ord.St.skip 9 [10, 11] _ rfl (by kernel_rfl) ?_ (fun K hK => ?_); (first | rfl | (simp [Region.wanted, yielded, *]; done)); go_simp; refine hK _ ?_; clear hK K)
    refine Ord.St.fl2 (T' := ?_) 10 [11] _ _ rfl (by kernel_rfl) rfl rfl rfl rfl (fun K w' hk => ?_) ?_
    rotate_left
    · go_step; exact hk
    refine Ord.St.fl2 (T' := ?_) 11 [] _ _ rfl (by kernel_rfl) rfl rfl rfl rfl (fun K w' hk => ?_) ?_
    rotate_left
    · go_step; exact hk
    refine Ord.St.nil ?_
    go_wp2
    go_ret
    exact ⟨rfl, ((Ch.refl _ _).alloc _).drew⟩
  · have hgt := hn.resolve_left hlt
    have hd : decide (n < 1) = false := decide_eq_false hlt
    have hd2 : decide ((G.nodes.length : Int) < n) = true := decide_eq_true hgt
    clear hn
    have HN := (none_no (h.ch (F := []) ((Ch.refl _ _).alloc (.cells #[.int .i64 n] 3)) (by simp)))
    clear h
    go_enter Try.func29, Try.ntmps29
    go_wp2_with fail
    refine HN.mono ?_
    rintro e w' ⟨rfl, rfl⟩
    go_wp2_with fail
    refine Ord.St.door (fun _ => True) [.rd, .fl, .fl, .rd, .fl, .fl, .fl, .rd, .rd, .fl, .fl, .fl] [0, 1, 3, 7, 7, 23, 55, 119, 247, 511, 1023, 2047] [0, 1, 2, 3, 4, 5, 6, 7, 8, 9, 10, 11] mixed (by kernel_rfl) rfl ?_
    refine Ord.St.rd2 (T' := ?_) 0 [1, 2, 3, 4, 5, 6, 7, 8, 9, 10, 11] _ _ rfl (by kernel_rfl) rfl rfl rfl rfl (fun K hk => ?_) ?_
    rotate_left
    · go_step; exact hk
    refine Ord.St.fl2 (T' := ?_) 1 [2, 3, 4, 5, 6, 7, 8, 9, 10, 11] _ _ rfl (by kernel_rfl) rfl rfl rfl rfl (fun K w' hk => ?_) ?_
    rotate_left
    · go_step; exact hk
    refine Ord.St.fl2 (T' := ?_) 2 [3, 4, 5, 6, 7, 8, 9, 10, 11] _ _ rfl (by kernel_rfl) rfl rfl rfl rfl (fun K w' hk => ?_) ?_
    rotate_left
    · go_step; exact hk
    first | (refine Ord.St.rd2 (T' := ?_) 3 [4, 5, 6, 7, 8, 9, 10, 11] _ _ rfl (by kernel_rfl) ?_ rfl rfl rfl (fun K hk => ?_) ?_; rotate_left; (first | rfl | (simp [Region.wanted, yielded, *]; done)); focus (go_step; exact hk)) | (refine Ord.St.skipr 3 [4, 5, 6, 7, 8, 9, 10, 11] _ rfl (by kernel_rfl) ?_ (fun K hK => ?_); (first | rfl | (simp [Region.wanted, yielded, *]; done)); go_simp; refine hK _ ?_; clear hK K)
    first | (refine Ord.St.fl2 (T' := ?_) 4 [5, 6, 7, 8, 9, 10, 11] _ _ rfl (by kernel_rfl) ?_ rfl rfl rfl (fun K w' hk => ?_) ?_; rotate_left; (first | rfl | (simp [Region.wanted, yielded, *]; done)); focus (go_step; exact hk)) | (refine Ord.St.skip 4 [5, 6, 7, 8, 9, 10, 11] _ rfl (by kernel_rfl) ?_ (fun K hK => ?_); (first | rfl | (simp [Region.wanted, yielded, *]; done)); go_simp; refine hK _ ?_; clear hK K)
    first | (refine Ord.St.fl2 (T' := ?_) 5 [6, 7, 8, 9, 10, 11] _ _ rfl (by kernel_rfl) ?_ rfl rfl rfl (fun K w' hk => ?_) ?_; rotate_left; (first | rfl | (simp [Region.wanted, yielded, *]; done)); focus (go_step; exact hk)) | (refine Ord.St.skip 5 [6, 7, 8, 9, 10, 11] _ rfl (by kernel_rfl) ?_ (fun K hK => ?_); (first | rfl | (simp [Region.wanted, yielded, *]; done)); go_simp; refine hK _ ?_; clear hK K)
    first | (refine Ord.St.fl2 (T' := ?_) 6 [7, 8, 9, 10, 11] _ _ rfl (by kernel_rfl) ?_ rfl rfl rfl (fun K w' hk => ?_) ?_; rotate_left; (first | rfl | (simp [Region.wanted, yielded, *]; done)); focus (go_step; exact hk)) | (refine Ord.St.skip 6 [7, 8, 9, 10, 11] _ rfl (by kernel_rfl) ?_ (fun K hK => ?_); (first | rfl | (simp [Region.wanted, yielded, *]; done)); go_simp; refine hK _ ?_; clear hK K)
    first | (refine Ord.St.rd2 (T' := ?_) 7 [8, 9, 10, 11] _ _ rfl (by kernel_rfl) ?_ rfl rfl rfl (fun K hk => ?_) ?_; rotate_left; (first | rfl | (simp [Region.wanted, yielded, *]; done)); focus (go_step; exact hk)) | (refine Ord.St.skipr 7 [8, 9, 10, 11] _ rfl (by kernel_rfl) ?_ (fun K hK => ?_); (first | rfl | (simp [Region.wanted, yielded, *]; done)); go_simp; refine hK _ ?_; clear hK K)
    first | (refine Ord.St.rd2 (T' := ?_) 8 [9, 10, 11] _ _ rfl (by kernel_rfl) ?_ rfl rfl rfl (fun K hk => ?_) ?_; rotate_left; (first | rfl | (simp [Region.wanted, yielded, *]; done)); focus (go_step; exact hk)) | (refine Ord.St.skipr 8 [9, 10, 11] _ rfl (by kernel_rfl) ?_ (fun K hK => ?_); (first | rfl | (simp [Region.wanted, yielded, *]; done)); go_simp; refine hK _ ?_; clear hK K)
    first | (refine Ord.St.fl2 (T' := ?_) 9 [10, 11] _ _ rfl (by kernel_rfl) ?_ rfl rfl rfl (fun K w' hk => ?_) ?_; rotate_left; (first | rfl | (simp [Region.wanted, yielded, *]; done)); focus (go_step; exact hk)) | (refine Ord.St.skip 9 [10, 11] _ rfl (by kernel_rfl) ?_ (fun K hK => ?_); (first | rfl | (simp [Region.wanted, yielded, *]; done)); go_simp; refine hK _ ?_; clear hK K)
    refine Ord.St.fl2 (T' := ?_) 10 [11] _ _ rfl (by kernel_rfl) rfl rfl rfl rfl (fun K w' hk => ?_) ?_
    rotate_left
    · go_step; exact hk
    refine Ord.St.fl2 (T' := ?_) 11 [] _ _ rfl (by kernel_rfl) rfl rfl rfl rfl (fun K w' hk => ?_) ?_
    rotate_left
    · go_step; exact hk
    refine Ord.St.nil ?_
    go_wp2
    go_ret
    exact ⟨rfl, ((Ch.refl _ _).alloc _).drew⟩
end
end Go.Proofs.Ytnajonchjlplmaa
namespace Go.Proofs.Ytnajonchjlplmaa
open Go.RowKit Go.Mem Go.Aig

theorem fnvCut1 : Fnv 59 := fnv_of Try.func59 (by simp [Try.f59]) (by simp [Try.f59])
set_option maxRecDepth 100000 in
set_option maxHeartbeats 1000000 in
theorem Cut1_is {w : World} {bx : Nat} (n : Nat) (x : Nat) (hx : x ≤ 1000000) (h : w.cell? ⟨bx, 0, none⟩ = some (.int .i64 n)) :
    Calls Try.prog 59 (#[.int .i64 x] ++ #[.pointer (some ⟨bx, 0, none⟩)]) w fun e w' => e = .returned (.bool (decide (n ≤ x / 2))) ∧ w = w' := by
  show Calls Try.prog 59 #[.int .i64 x, .pointer (some ⟨bx, 0, none⟩)] w _
  go_enter Try.func59, Try.ntmps59
  go_wp2_with fail
  go_ret
  refine ⟨ret_bool ?_, rfl⟩
  rw [Bool.eq_iff_iff]
  simp
  try omega

theorem ints_refs (l : List Nat) : ints (l.map fun (r : Nat) => (r : Int)) = refsCells l := by simp [ints, refsCells]

theorem row.take {w : World} {e : TypeId} {size g n cap m : Nat} {xs : List Value} (h : row w e size (.slice (some ⟨g, 0, none⟩) n cap) n xs) (hm : m ≤ n) : row w e size (.slice (some ⟨g, 0, none⟩) m cap) m (xs.take (m * size)) := by
  have hms : m * size ≤ n * size := Nat.mul_le_mul_right _ hm
  refine ⟨by rw [List.length_take, h.1]; omega, ?_⟩
  rcases h.2 with ⟨e1, _⟩ | ⟨g', cap', cur, e1, hb, hg, hle, hmx, hs, ht⟩
  · cases e1
  · cases e1
    refine .inr ⟨g, cap, cur, rfl, hb, hg, by omega, hmx, hs, ?_⟩
    rw [← ht, List.take_take, Nat.min_eq_left hms]
theorem nodesCells_take : ∀ (ns : List Nd) (n : Nat), nodesCells (ns.take n) = (nodesCells ns).take (n * 4)
  | [], n => by simp [nodesCells]
  | x :: ns, 0 => by simp [nodesCells]
  | x :: ns, n + 1 => by
    simp only [List.take_succ_cons, nodesCells, nodesCells_take ns n]
    rw [List.take_append, show (n + 1) * 4 = n * 4 + 4 from by omega]
    have : (nodeCells x).length = 4 := rfl
    rw [this, List.take_of_length_le (l := nodeCells x) (by rw [this]; omega)]
    congr 2

theorem DF_inputs {W : World} {iv : Value} {ns : List Nd} {bx n : Nat} (hrow : row W 33 1 iv (inputs ns).length (refsCells (inputs ns))) (hb : W.cell? ⟨bx, 0, none⟩ = some (.int .i64 n)) (hn : n ≤ ns.length) (hs : ns.length ≤ 65536) :
    Calls Try.prog 58 #[iv, .func (.func 59) #[] #[.pointer (some ⟨bx, 0, none⟩)]] W fun e w' => ∃ iv', e = .returned iv' ∧ row w' 33 1 iv' (inputs (ns.take n)).length (refsCells (inputs (ns.take n))) ∧ Ch iv.ownBlock.toList W w' ∧ iv'.ownBlock = iv.ownBlock := by
  obtain ⟨l, hl, hlo⟩ := inputs_take ns n
  have hsm : ∀ r ∈ inputs (ns.take n), r < 2 * n := fun r hr => by
    have := (inputsFrom_ge _ _ _ hr).2.2
    simp at this; omega
  have hbd : ∀ r ∈ inputs ns, r < 2 * ns.length := fun r hr => by have := (inputsFrom_ge _ _ _ hr).2.2; simpa using this
  rw [Nat.min_eq_left hn] at hlo
  let p : Int → Bool := fun x => decide ((n : Int) ≤ x / 2)
  have hp : ∀ x : Nat, p x = decide (n ≤ x / 2) := fun x => by show decide ((n : Int) ≤ (x : Int) / 2) = _; rw [Bool.eq_iff_iff]; simp; omega
  let xs : List Int := (inputs ns).map fun (r : Nat) => (r : Int)
  have hxl : xs.length = (inputs ns).length := by simp [xs]
  have hrow' : row W 33 1 iv (inputs ns).length (ints xs) := by rw [ints_refs]; exact hrow
  have hf : ∀ x ∈ xs, Calls Try.prog 59 (#[.int .i64 x] ++ #[.pointer (some ⟨bx, 0, none⟩)]) W fun e w' => e = .returned (.bool (p x)) ∧ W = w' := by
    intro x hx
    obtain ⟨r, hr, rfl⟩ := List.mem_map.1 hx
    rw [hp]
    exact Cut1_is n r (by have := hbd r hr; omega) hb
  have hget : ∀ (j : Nat) (x : Int), xs[j]? = some x → ∃ r : Nat, (inputs ns)[j]? = some r ∧ x = r := by
    intro j x hx
    simp only [xs, List.getElem?_map] at hx
    cases hr : (inputs ns)[j]? with
    | none => rw [hr] at hx; cases hx
    | some r => rw [hr] at hx; cases hx; exact ⟨r, rfl, rfl⟩
  have hlow : ∀ (j : Nat) (x : Int), j < (inputs (ns.take n)).length → xs[j]? = some x → p x = false := by
    intro j x hj hx
    obtain ⟨r, hr, rfl⟩ := hget j x hx
    rw [hl, List.getElem?_append_left hj] at hr
    have := hsm r (List.mem_of_getElem? hr)
    rw [hp]; simp; omega
  have hhigh : ∀ (j : Nat) (x : Int), (inputs (ns.take n)).length ≤ j → xs[j]? = some x → p x = true := by
    intro j x hj hx
    obtain ⟨r, hr, rfl⟩ := hget j x hx
    rw [hl, List.getElem?_append_right hj] at hr
    have := hlo r (List.mem_of_getElem? hr)
    rw [hp]; simp; omega
  have hlen : (inputs ns).length = (inputs (ns.take n)).length + l.length := by rw [hl, List.length_append]
  by_cases hz : l = []
  · have e : inputs ns = inputs (ns.take n) := by rw [hl, hz, List.append_nil]
    have hno : idxOf p xs = -1 := idxOf_no fun j x hx => hlow j x (by have := (List.getElem?_eq_some_iff.1 hx).1; rw [hxl, e] at this; exact this) hx
    have key : ∀ (a : Option Addr) (cap : Nat), iv = .slice a (inputs ns).length cap → Sl W a xs → Calls Try.prog 58 #[iv, .func (.func 59) #[] #[.pointer (some ⟨bx, 0, none⟩)]] W fun e w' => ∃ iv', e = .returned iv' ∧ row w' 33 1 iv' (inputs (ns.take n)).length (refsCells (inputs (ns.take n))) ∧ Ch iv.ownBlock.toList W w' ∧ iv'.ownBlock = iv.ownBlock := by
      intro a cap hiv hsl
      have := DFref_none cap 59 #[.pointer (some ⟨bx, 0, none⟩)] p hsl hf fnvCut1 hno
      rw [hxl] at this
      rw [hiv] at hrow ⊢
      refine this.mono ?_
      rintro e' w' ⟨rfl, rfl⟩
      rw [← e]
      exact ⟨_, rfl, hrow, Ch.refl _ _, rfl⟩
    rcases hrow.2 with ⟨h1, h2⟩ | ⟨g', cap, cur, h1, _⟩
    · refine key none 0 (by rw [h2]; exact h1) (row.sl (xs := xs) (by rw [hxl]; exact hrow') h1)
    · exact key _ cap h1 (row.sl (xs := xs) (by rw [hxl]; exact hrow') h1)
  · have hpos : 0 < l.length := List.length_pos_iff.2 hz
    rcases hrow.2 with ⟨h1, h2⟩ | ⟨g', cap, cur, h1, _⟩
    · omega
    · rw [h1] at hrow' ⊢
      have hlt : (inputs (ns.take n)).length < xs.length := by omega
      have hidx : idxOf p xs = ((inputs (ns.take n)).length : Int) := idxOf_yes (List.getElem?_eq_getElem hlt) (hhigh _ _ (Nat.le_refl _) (List.getElem?_eq_getElem hlt)) (fun j y hj hy => hlow j y hj hy)
      have := DFref_tail 59 #[.pointer (some ⟨bx, 0, none⟩)] p hrow' hxl hf fnvCut1 (inputs (ns.take n)).length (by omega) hidx hhigh
      refine this.mono ?_
      rintro e' w' ⟨rfl, hr, hc⟩
      refine ⟨_, rfl, ?_, by simpa using hc, by simp⟩
      have ht : xs.take (inputs (ns.take n)).length = (inputs (ns.take n)).map fun (r : Nat) => (r : Int) := by
        simp only [xs]
        rw [← List.map_take]
        conv => lhs; rw [hl]
        rw [List.take_left]
      rw [ht, ints_refs] at hr
      exact hr
end Go.Proofs.Ytnajonchjlplmaa
namespace Go.Proofs.Ytnajonchjlplmaa
open Go.RowKit Go.Mem Go.Aig
theorem dep_bd {ns : List Nd} (h : WF ns) {m : Nat} {x : Nd} (hx : ns[m]? = some x) (hs : ns.length ≤ 65536) : x.k ≤ 3 ∧ x.l ≤ 131072 ∧ x.r ≤ 131072 ∧ x.d ≤ 65536 := by
  have hm := (List.getElem?_eq_some_iff.1 hx).1
  have hd := h.low m x hx
  by_cases h0 : m = 0
  · subst h0
    rw [h.const] at hx; cases hx
    simp
  · rcases h.other m x hx (by omega) with rfl | ⟨h1, h2, h3, h4, h5, h6⟩
    · simp
    · omega
section
variable {w : World} {g : Nat} {G : Gra} {nb ncap : Nat} {iv : Value} {mb : Nat}
theorem row.shape {w : World} {e : TypeId} {size : Nat} {v : Value} {n : Nat} {xs : List Value} (h : row w e size v n xs) : ∃ a c, v = .slice a n c := by
  rcases h.2 with ⟨e1, h0⟩ | ⟨g', cap', cur, e1, _⟩
  · exact ⟨none, 0, by rw [e1, h0]⟩
  · exact ⟨_, _, e1⟩
theorem GM.cap (h : GM w g G nb ncap iv mb) : G.nodes.length ≤ ncap ∧ ncap ≤ 9223372036854775807 := by
  rcases h.nodes.2 with ⟨e, _⟩ | ⟨g', cap', cur, e, _, hg, hle, hm, _⟩
  · cases e
  · cases e; unfold maxLen at hm; exact ⟨hle, by omega⟩

set_option maxRecDepth 100000 in
set_option maxHeartbeats 4000000 in
theorem Cut_lt (n : Nat) (h : GM w g G nb ncap iv mb) (hn : 1 ≤ n) (hle : n ≤ G.nodes.length) (hcn : ¬ ncap = n) :
    Calls Try.prog 29 #[.pointer (some ⟨g, 0, none⟩), .int .i64 n] w fun e w' => e = .returned (.int .i64 0) ∧ ∃ iv', GM w' g { G with nodes := G.nodes.take n } nb ncap iv' mb ∧ iv'.ownBlock = iv.ownBlock ∧ Ch (fp g nb mb iv) w w' := by
  have ⟨c0, c1, c2, c3⟩ := h.c
  have ⟨hl, hln, hlm, hli⟩ := h.lt
  have hm := h.ok.most
  have hr := h.ok.room
  have ⟨hcap, hcap2⟩ := h.cap
  have hd1 : decide ((n : Int) < 1) = false := decide_eq_false (by omega)
  have hd2 : decide ((G.nodes.length : Int) < n) = false := decide_eq_false (by omega)
  have hd3 : decide (G.nodes.length < n) = false := decide_eq_false (by omega)
  have hC0 : Ch [] w ((w.alloc (.cells #[.int .i64 n] 3)).drew) := ((Ch.refl _ _).alloc _).drew
  have HN := none_no (h.ch (F := []) ((Ch.refl _ _).alloc (.cells #[.int .i64 n] 3)) (by simp))
  have H := Lib.hid h; clear h
  have Hli := Lib.hid hli; clear hli
  have HC0 := Lib.hid hC0; clear hC0
  have f1 : w.frozen? ⟨g, 1, none⟩ = false := H.out.st.frozen
  have f3 : w.frozen? ⟨g, 3, none⟩ = false := H.out.st.frozen
  go_enter Try.func29, Try.ntmps29
  go_wp2_with fail
  refine HN.mono ?_
  rintro e w' ⟨rfl, rfl⟩
  go_wp2_with fail
  refine Ord.St.door (fun _ => True) [.rd, .fl, .fl, .rd, .fl, .fl, .fl, .rd, .rd, .fl, .fl, .fl] [0, 1, 3, 7, 7, 23, 55, 119, 247, 511, 1023, 2047] [0, 1, 2, 3, 4, 5, 6, 7, 8, 9, 10, 11] mixed (by kernel_rfl) rfl ?_
  refine Ord.St.rd2 (T' := ?_) 0 [1, 2, 3, 4, 5, 6, 7, 8, 9, 10, 11] _ _ rfl (by kernel_rfl) rfl rfl rfl rfl (fun K hk => ?_) ?_
  rotate_left
  · go_step; exact hk
  refine Ord.St.fl2 (T' := ?_) 1 [2, 3, 4, 5, 6, 7, 8, 9, 10, 11] _ _ rfl (by kernel_rfl) rfl rfl rfl rfl (fun K w' hk => ?_) ?_
  rotate_left
  · go_step; exact hk
  refine Ord.St.fl2 (T' := ?_) 2 [3, 4, 5, 6, 7, 8, 9, 10, 11] _ _ rfl (by kernel_rfl) rfl rfl rfl rfl (fun K w' hk => ?_) ?_
  rotate_left
  · go_step; exact hk
  first | (refine Ord.St.rd2 (T' := ?_) 3 [4, 5, 6, 7, 8, 9, 10, 11] _ _ rfl (by kernel_rfl) ?_ rfl rfl rfl (fun K hk => ?_) ?_; rotate_left; (first | rfl | (simp [Region.wanted, yielded, *]; done)); focus (go_step; exact hk)) | (refine Ord.St.skipr 3 [4, 5, 6, 7, 8, 9, 10, 11] _ rfl (by kernel_rfl) ?_ (fun K hK => ?_); (first | rfl | (simp [Region.wanted, yielded, *]; done)); go_simp; refine hK _ ?_; clear hK K)
  first | (refine Ord.St.fl2 (T' := ?_) 4 [5, 6, 7, 8, 9, 10, 11] _ _ rfl (by kernel_rfl) ?_ rfl rfl rfl (fun K w' hk => ?_) ?_; rotate_left; (first | rfl | (simp [Region.wanted, yielded, *]; done)); focus (go_step; exact hk)) | (refine Ord.St.skip 4 [5, 6, 7, 8, 9, 10, 11] _ rfl (by kernel_rfl) ?_ (fun K hK => ?_); (first | rfl | (simp [Region.wanted, yielded, *]; done)); go_simp; refine hK _ ?_; clear hK K)
  first | (refine Ord.St.fl2 (T' := ?_) 5 [6, 7, 8, 9, 10, 11] _ _ rfl (by kernel_rfl) ?_ rfl rfl rfl (fun K w' hk => ?_) ?_; rotate_left; (first | rfl | (simp [Region.wanted, yielded, *]; done)); focus (go_step; exact hk)) | (refine Ord.St.skip 5 [6, 7, 8, 9, 10, 11] _ rfl (by kernel_rfl) ?_ (fun K hK => ?_); (first | rfl | (simp [Region.wanted, yielded, *]; done)); go_simp; refine hK _ ?_; clear hK K)
  first | (refine Ord.St.fl2 (T' := ?_) 6 [7, 8, 9, 10, 11] _ _ rfl (by kernel_rfl) ?_ rfl rfl rfl (fun K w' hk => ?_) ?_; rotate_left; (first | rfl | (simp [Region.wanted, yielded, *]; done)); focus (go_step; exact hk)) | (refine Ord.St.skip 6 [7, 8, 9, 10, 11] _ rfl (by kernel_rfl) ?_ (fun K hK => ?_); (first | rfl | (simp [Region.wanted, yielded, *]; done)); go_simp; refine hK _ ?_; clear hK K)
  first | (refine Ord.St.rd2 (T' := ?_) 7 [8, 9, 10, 11] _ _ rfl (by kernel_rfl) ?_ rfl rfl rfl (fun K hk => ?_) ?_; rotate_left; (first | rfl | (simp [Region.wanted, yielded, *]; done)); focus (go_step; exact hk)) | (refine Ord.St.skipr 7 [8, 9, 10, 11] _ rfl (by kernel_rfl) ?_ (fun K hK => ?_); (first | rfl | (simp [Region.wanted, yielded, *]; done)); go_simp; refine hK _ ?_; clear hK K)
  first | (refine Ord.St.rd2 (T' := ?_) 8 [9, 10, 11] _ _ rfl (by kernel_rfl) ?_ rfl rfl rfl (fun K hk => ?_) ?_; rotate_left; (first | rfl | (simp [Region.wanted, yielded, *]; done)); focus (go_step; exact hk)) | (refine Ord.St.skipr 8 [9, 10, 11] _ rfl (by kernel_rfl) ?_ (fun K hK => ?_); (first | rfl | (simp [Region.wanted, yielded, *]; done)); go_simp; refine hK _ ?_; clear hK K)
  first | (refine Ord.St.fl2 (T' := ?_) 9 [10, 11] _ _ rfl (by kernel_rfl) ?_ rfl rfl rfl (fun K w' hk => ?_) ?_; rotate_left; (first | rfl | (simp [Region.wanted, yielded, *]; done)); focus (go_step; exact hk)) | (refine Ord.St.skip 9 [10, 11] _ rfl (by kernel_rfl) ?_ (fun K hK => ?_); (first | rfl | (simp [Region.wanted, yielded, *]; done)); go_simp; refine hK _ ?_; clear hK K)
  refine Ord.St.fl2 (T' := ?_) 10 [11] _ _ rfl (by kernel_rfl) rfl rfl rfl rfl (fun K w' hk => ?_) ?_
  rotate_left
  · go_step; exact hk
  refine Ord.St.fl2 (T' := ?_) 11 [] _ _ rfl (by kernel_rfl) rfl rfl rfl rfl (fun K w' hk => ?_) ?_
  rotate_left
  · go_step; exact hk
  refine Ord.St.nil ?_
  go_wp2
  refine Ord.St.door (fun _ => True) [.fl, .fl, .fl, .rd, .rd, .fl, .rd, .fl] [0, 1, 3, 7, 0, 31, 63, 0] [0, 1, 2, 3, 4, 5, 6, 7] mixed (by kernel_rfl) rfl ?_
  refine Ord.St.fl2 (T' := ?_) 0 [1, 2, 3, 4, 5, 6, 7] _ _ rfl (by kernel_rfl) rfl rfl rfl rfl (fun K w' hk => ?_) ?_
  rotate_left
  · go_step; exact hk
  refine Ord.St.fl2 (T' := ?_) 1 [2, 3, 4, 5, 6, 7] _ _ rfl (by kernel_rfl) rfl rfl rfl rfl (fun K w' hk => ?_) ?_
  rotate_left
  · go_step; exact hk
  refine Ord.St.fl2 (T' := ?_) 2 [3, 4, 5, 6, 7] _ _ rfl (by kernel_rfl) rfl rfl rfl rfl (fun K w' hk => ?_) ?_
  rotate_left
  · go_step; exact hk
  refine Ord.St.rd2 (T' := ?_) 3 [4, 5, 6, 7] _ _ rfl (by kernel_rfl) rfl rfl rfl rfl (fun K hk => ?_) ?_
  rotate_left
  · go_step; exact hk
  refine Ord.St.rd2 (T' := ?_) 4 [5, 6, 7] _ _ rfl (by kernel_rfl) rfl rfl rfl rfl (fun K hk => ?_) ?_
  rotate_left
  · go_step; exact hk
  refine Ord.St.fl2 (T' := ?_) 5 [6, 7] _ _ rfl (by kernel_rfl) rfl rfl rfl rfl (fun K w' hk => ?_) ?_
  rotate_left
  · go_step; exact hk
  refine Ord.St.rd2 (T' := ?_) 6 [7] _ _ rfl (by kernel_rfl) rfl rfl rfl rfl (fun K hk => ?_) ?_
  rotate_left
  · go_step; exact hk
  refine Ord.St.fl2 (T' := ?_) 7 [] _ _ rfl (by kernel_rfl) rfl rfl rfl rfl (fun K w' hk => ?_) ?_
  rotate_left
  · go_step; exact hk
  refine Ord.St.nil ?_
  go_wp2
  have hS : ∃ es clock, ((w.alloc (.cells #[.int .i64 n] 3)).drew.drew).heap[mb]? = some (.map es clock) ∧ MapOn es.toList G.nodes (fun m => m < n ∨ n + 0 ≤ m) := by
    obtain ⟨es, clock, hmap, hmo⟩ := H.out.mp
    exact ⟨es, clock, (HC0.out.block mb hlm (by simp)).trans hmap, hmo.on (fun m _ => by omega)⟩
  have b0 : ((w.alloc (.cells #[.int .i64 n] 3)).drew.drew).cell? ⟨w.heap.size, 0, none⟩ = some (.int .i64 n) := by go_simp
  have hCW : Ch [] w ((w.alloc (.cells #[.int .i64 n] 3)).drew.drew) := HC0.out.drew
  have hz0 : ((w.alloc (.cells #[.int .i64 n] 3)).drew.drew).heap.size = w.heap.size + 1 := by simp
  have HS := Lib.hid hS; clear hS
  have B0 := Lib.hid b0; clear b0
  have HCW := Lib.hid hCW; clear hCW
  have HZ := Lib.hid hz0; clear hz0
  generalize (w.alloc (.cells #[.int .i64 n] 3)).drew.drew = W0 at *
  go_loopw [29] (fun i wr => ∃ k : Nat, k ≤ G.nodes.length - n ∧ i = .int .i64 k ∧ Ch [mb] W0 wr ∧ ∃ es clock, wr.heap[mb]? = some (.map es clock) ∧ MapOn es.toList G.nodes (fun m => m < n ∨ n + k ≤ m)) (fun i _ => G.nodes.length - n - (intOf i).toNat)
  case atStart => exact ⟨0, Nat.zero_le _, rfl, Ch.refl _ _, HS.out⟩
  case round =>
    obtain ⟨k, hk, rfl, hc, hmap⟩ := hrel
    have hcw : Ch [mb] w wr := (HCW.out.mono (by simp)).trans hc (by simp)
    have hzr := hc.size
    have hgz := HZ.out
    have HMAP := Lib.hid hmap; clear hmap
    have hgm' : g ∉ [mb] := by simp [H.out.gm]
    have st := H.out.st.ch hcw hgm'
    have d0 : wr.cell? ⟨g, 0, none⟩ = some _ := st.cell rfl
    have d1 : wr.cell? ⟨g, 1, none⟩ = some _ := st.cell rfl
    have d2 : wr.cell? ⟨g, 2, none⟩ = some _ := st.cell rfl
    have d3 : wr.cell? ⟨g, 3, none⟩ = some _ := st.cell rfl
    have e1 : wr.frozen? ⟨g, 1, none⟩ = false := st.frozen
    have e3 : wr.frozen? ⟨g, 3, none⟩ = false := st.frozen
    have hbx : wr.cell? ⟨w.heap.size, 0, none⟩ = some (.int .i64 n) := (hc.cell (by show w.heap.size < _; omega) (by simp; omega)).trans B0.out
    clear c0 c1 c2 c3 f1 f3
    have HST := Lib.hid st; clear st hgm'
    have HC := Lib.hid hc; clear hc
    have HCR := Lib.hid hcw; clear hcw
    have hzz : w.heap.size + 1 ≤ wr.heap.size := by omega
    clear hzr hgz
    by_cases hlt : k < G.nodes.length - n
    · have hlt' : n + k < G.nodes.length := by omega
      have hxg : G.nodes[n + k]? = some G.nodes[n + k] := List.getElem?_eq_getElem hlt'
      generalize G.nodes[n + k] = x at hxg
      have ⟨xk, xl, xr, xd⟩ := dep_bd H.out.ok.1 hxg (by omega)
      have hnbw := HCR.out
      have ⟨n0, n1, n2, n3⟩ := H.out.node hxg
      have hs1 : (n + k) * 4 = n * 4 + k * 4 := by omega
      rw [hs1] at n0 n1 n2 n3
      have hnm : nb ∉ [mb] := by simp [H.out.mn.symm]
      have n0 := (HCR.out.cell (p := ⟨nb, n * 4 + k * 4, none⟩) hln hnm).trans n0
      have n1 := (HCR.out.cell (p := ⟨nb, n * 4 + k * 4 + 1, none⟩) hln hnm).trans n1
      have n2 := (HCR.out.cell (p := ⟨nb, n * 4 + k * 4 + 2, none⟩) hln hnm).trans n2
      have n3 := (HCR.out.cell (p := ⟨nb, n * 4 + k * 4 + 3, none⟩) hln hnm).trans n3
      clear hnbw
      have hdk : decide ((k : Int) < (G.nodes.length - n : Nat)) = true := decide_eq_true (by omega)
      have hgr : g < wr.heap.size := by omega
      have hlmr : mb < wr.heap.size := by have := HC.out.size; have := HZ.out; omega
      have hwa : ∀ (T : TypeId) cs, (wr.alloc (.cells cs T)).heap[mb]? = wr.heap[mb]? := fun T cs => by
        exact ((Ch.refl [] wr).alloc _).block mb hlmr (by simp)
      have hcm : ((n + k : Nat) : Int) = n + k := by omega
      by_cases hx3 : x.k = 3
      · have hb3 : ((x.k : Int) == 3) = true := by rw [hx3]; rfl
        have hmr : ∃ es clock, ((wr.alloc (.cells #[.int .u8 x.k, .int .i64 x.l, .int .i64 x.r, .int .i64 x.d] 90)).drew).heap[mb]? = some (.map es clock) ∧ MapOn es.toList G.nodes (fun m => m < n ∨ n + k ≤ m) := by
          obtain ⟨es, clock, h1, h2⟩ := HMAP.out
          exact ⟨es, clock, (hwa _ _).trans h1, h2⟩
        obtain ⟨w2, hrun, hmap2, hcd⟩ := delete_is hmr H.out.ok.1 (n := n + k) (x := x) (.inr (Nat.le_refl _)) hxg hx3
        have HM2 := Lib.hid hmap2; clear hmap2 hmr
        have HCD := Lib.hid hcd; clear hcd
        clear hwa hlmr
        have HX3 := Lib.hid hx3; clear hx3
        go_wp2_with fail
        refine Ord.St.door (fun _ => True) [.fl, .fl, .fl, .rd, .fl, .rd, .ef] [0, 1, 3, 7, 0, 16, 63] [0, 1, 2, 3, 4, 5, 6] mixed (by kernel_rfl) rfl ?_
        refine Ord.St.fl2 (T' := ?_) 0 [1, 2, 3, 4, 5, 6] _ _ rfl (by kernel_rfl) rfl rfl rfl rfl (fun K w' hk => ?_) ?_
        rotate_left
        · go_step; exact hk
        refine Ord.St.fl2 (T' := ?_) 1 [2, 3, 4, 5, 6] _ _ rfl (by kernel_rfl) rfl rfl rfl rfl (fun K w' hk => ?_) ?_
        rotate_left
        · go_step; exact hk
        refine Ord.St.fl2 (T' := ?_) 2 [3, 4, 5, 6] _ _ rfl (by kernel_rfl) rfl rfl rfl rfl (fun K w' hk => ?_) ?_
        rotate_left
        · go_step; exact hk
        refine Ord.St.rd2 (T' := ?_) 3 [4, 5, 6] _ _ rfl (by kernel_rfl) rfl rfl rfl rfl (fun K hk => ?_) ?_
        rotate_left
        · go_step; exact hk
        refine Ord.St.fl2 (T' := ?_) 4 [5, 6] _ _ rfl (by kernel_rfl) rfl rfl rfl rfl (fun K w' hk => ?_) ?_
        rotate_left
        · go_step; exact hk
        refine Ord.St.rd2 (T' := ?_) 5 [6] _ _ rfl (by kernel_rfl) rfl rfl rfl rfl (fun K hk => ?_) ?_
        rotate_left
        · go_step; exact hk
        refine Ord.St.ef 6 [] _ rfl (by kernel_rfl) (fun K hK => ?_)
        go_wp2_with fail
        refine ⟨rfl, hK _ _ ?_⟩; clear hK K
        refine Ord.St.nil ?_
        go_wp2_with fail
        go_roundw
        case rel =>
          refine ⟨k + 1, by omega, by go_num, ?_, ?_⟩
          · exact ((HC.out.alloc _).drew).trans HCD.out (by simp)
          · obtain ⟨es, clock, h1, h2⟩ := HM2.out
            exact ⟨es, clock, h1, h2.mono (fun m y hm hy _ => by omega) (fun m y hm hy _ => by omega)⟩
        case measure => simp [intOf]; omega
      · have hb3 : ((x.k : Int) == 3) = false := beqN (by omega)
        go_wp2_with fail
        go_roundw
        case rel =>
          refine ⟨k + 1, by omega, by go_num, HC.out.alloc _, ?_⟩
          obtain ⟨es, clock, h1, h2⟩ := HMAP.out
          refine ⟨es, clock, (hwa _ _).trans h1, h2.mono (fun m y hm hy hky => ?_) (fun m y hm hy _ => by omega)⟩
          have : m ≠ n + k := by
            rintro rfl
            rw [hxg] at hy; cases hy
            exact hx3 hky
          omega
        case measure => simp [intOf]; omega
    · go_wp2_with fail
      refine Ord.St.door (fun _ => True) [.fl, .fl, .fl, .fl, .rd, .rd, .fl, .fl, .fl, .ef] [0, 0, 2, 6, 14, 0, 62, 127, 255, 511] [0, 1, 2, 3, 4, 5, 6, 7, 8, 9] mixed (by kernel_rfl) rfl ?_
      refine Ord.St.fl2 (T' := ?_) 0 [1, 2, 3, 4, 5, 6, 7, 8, 9] _ _ rfl (by kernel_rfl) rfl rfl rfl rfl (fun K w' hk => ?_) ?_
      rotate_left
      · go_step; exact hk
      refine Ord.St.fl2 (T' := ?_) 1 [2, 3, 4, 5, 6, 7, 8, 9] _ _ rfl (by kernel_rfl) rfl rfl rfl rfl (fun K w' hk => ?_) ?_
      rotate_left
      · go_step; exact hk
      refine Ord.St.fl2 (T' := ?_) 2 [3, 4, 5, 6, 7, 8, 9] _ _ rfl (by kernel_rfl) rfl rfl rfl rfl (fun K w' hk => ?_) ?_
      rotate_left
      · go_step; exact hk
      refine Ord.St.fl2 (T' := ?_) 3 [4, 5, 6, 7, 8, 9] _ _ rfl (by kernel_rfl) rfl rfl rfl rfl (fun K w' hk => ?_) ?_
      rotate_left
      · go_step; exact hk
      refine Ord.St.rd2 (T' := ?_) 4 [5, 6, 7, 8, 9] _ _ rfl (by kernel_rfl) rfl rfl rfl rfl (fun K hk => ?_) ?_
      rotate_left
      · go_step; exact hk
      refine Ord.St.rd2 (T' := ?_) 5 [6, 7, 8, 9] _ _ rfl (by kernel_rfl) rfl rfl rfl rfl (fun K hk => ?_) ?_
      rotate_left
      · go_step; exact hk
      refine Ord.St.fl2 (T' := ?_) 6 [7, 8, 9] _ _ rfl (by kernel_rfl) rfl rfl rfl rfl (fun K w' hk => ?_) ?_
      rotate_left
      · go_step; exact hk
      refine Ord.St.fl2 (T' := ?_) 7 [8, 9] _ _ rfl (by kernel_rfl) rfl rfl rfl rfl (fun K w' hk => ?_) ?_
      rotate_left
      · go_step; exact hk
      refine Ord.St.fl2 (T' := ?_) 8 [9] _ _ rfl (by kernel_rfl) rfl rfl rfl rfl (fun K w' hk => ?_) ?_
      rotate_left
      · go_step; exact hk
      refine Ord.St.ef 9 [] _ rfl (by kernel_rfl) (fun K hK => ?_)
      go_wp2_with fail
      refine ⟨rfl, hK _ _ ?_⟩; clear hK K
      refine Ord.St.nil ?_
      have hC3 : Ch [g, mb] w ((wr.setCell ⟨g, 1, none⟩ (.slice (some ⟨nb, 0, none⟩) n ncap)).drew) := ((HCR.out.mono (F' := [g, mb]) (by simp)).setCell (by simp) _).drew
      have b3 : ((wr.setCell ⟨g, 1, none⟩ (.slice (some ⟨nb, 0, none⟩) n ncap)).drew).cell? ⟨w.heap.size, 0, none⟩ = some (.int .i64 n) := by go_simp
      have hrow := H.out.ins.ch hC3 (fun kk hkk => by have h1 := H.out.gi; have h2 := H.out.mi; rw [hkk] at h1 h2; simp only [Option.some.injEq, ne_eq] at h1 h2; simp [h1, h2])
      have HDF := DF_inputs hrow b3 hle (by omega)
      have HROW := Lib.hid hrow; clear hrow
      have HC3 := Lib.hid hC3; clear hC3
      clear b3
      have st3 := (HST.out.set (i := 1) (.slice (some ⟨nb, 0, none⟩) n ncap)).drew
      have HST3 := Lib.hid st3; clear st3
      have hz3 : w.heap.size + 1 ≤ ((wr.setCell ⟨g, 1, none⟩ (.slice (some ⟨nb, 0, none⟩) n ncap)).drew).heap.size := by simpa using hzz
      have hmap3 : ∃ es clock, ((wr.setCell ⟨g, 1, none⟩ (.slice (some ⟨nb, 0, none⟩) n ncap)).drew).heap[mb]? = some (.map es clock) ∧ MapOk es.toList (G.nodes.take n) := by
        obtain ⟨es, clock, h1, h2⟩ := HMAP.out
        refine ⟨es, clock, (Below.heap_setCell _ _ _ _ (by simpa using H.out.gm.symm)).trans h1, MapOn.take (h2.mono (fun m x hm hx _ => ?_) (fun m x hm _ _ => .inl hm))⟩
        have := (List.getElem?_eq_some_iff.1 hx).1
        omega
      have HMAP3 := Lib.hid hmap3; clear hmap3
      go_wp2_with fail
      generalize (wr.setCell ⟨g, 1, none⟩ (.slice (some ⟨nb, 0, none⟩) n ncap)).drew = W3 at *
      refine HDF.mono ?_
      rintro e w4 ⟨iv', rfl, hrow4, hc4, hob⟩
      have HROW4 := Lib.hid hrow4; clear hrow4
      have hgiv : g ∉ iv.ownBlock.toList := by have := H.out.gi; simpa [eq_comm] using this
      have st4 := HST3.out.ch hc4 hgiv
      have k3 : w4.cell? ⟨g, 3, none⟩ = some _ := st4.cell rfl
      have k3f : w4.frozen? ⟨g, 3, none⟩ = false := st4.frozen
      have HC4 := Lib.hid hc4; clear hc4
      have HOB := Lib.hid hob; clear hob
      have HST4 := Lib.hid st4; clear st4
      obtain ⟨ia, icap, hiv⟩ := row.shape HROW4.out
      rw [hiv]
      go_wp2_with fail
      go_ret
      rw [← hiv]
      have hcf : Ch (g :: mb :: iv.ownBlock.toList) w (w4.setCell ⟨g, 3, none⟩ iv') := Ch.setCell ((HC3.out.mono (F' := g :: mb :: iv.ownBlock.toList) (by simp)).trans HC4.out (fun kk hkk => .inl (by simp [hkk]))) (by simp) _
      have hni : ∀ kk, iv.ownBlock = some kk → kk ≠ g ∧ kk ≠ nb ∧ kk ≠ mb := fun kk hkk => ⟨by rintro rfl; exact H.out.gi hkk, by rintro rfl; exact H.out.ni hkk, by rintro rfl; exact H.out.mi hkk⟩
      have hnf : nb ∉ g :: mb :: iv.ownBlock.toList := by
        have h1 := H.out.ni
        have h2 := H.out.gn
        have h3 := H.out.mn
        simp [Ne.symm h2, Ne.symm h3]
        exact h1
      have hlt2 : (G.nodes.take n).length = n := by rw [List.length_take]; omega
      have hmbi : mb ∉ iv.ownBlock.toList := by have := H.out.mi; simpa [eq_comm] using this
      refine ⟨ret_int (by rfl), iv', ?_, HOB.out, ?_⟩
      · have hst := HST4.out.set (i := 3) iv'
        refine ⟨?_, ?_, ?_, ?_, H.out.gm, H.out.gn, H.out.mn, by rw [HOB.out]; exact H.out.gi, by rw [HOB.out]; exact H.out.ni, by rw [HOB.out]; exact H.out.mi, H.out.ok.take hn⟩
        · rw [hlt2]; exact hst
        · show row _ _ 4 (.slice (some ⟨nb, 0, none⟩) (G.nodes.take n).length ncap) (G.nodes.take n).length (nodesCells (G.nodes.take n))
          rw [hlt2, nodesCells_take]
          exact (row.take H.out.nodes hle).ch hcf (fun kk hkk => by cases hkk; exact hnf)
        · obtain ⟨es, clock, h1, h2⟩ := HMAP3.out
          exact ⟨es, clock, (Below.heap_setCell _ _ _ _ (by simpa using H.out.gm.symm)).trans ((HC4.out.block mb (Array.getElem?_eq_some_iff.1 h1).1 hmbi).trans h1), h2⟩
        · exact HROW4.out.ch (Ch.setCell (Ch.refl [g] _) (by simp) _) (fun kk hkk => by rw [HOB.out] at hkk; simp [(hni kk hkk).1])
      · exact hcf.mono (fun kk hkk => .inl (by simp [fp] at hkk ⊢; rcases hkk with rfl | rfl | h <;> simp [*]))

set_option maxRecDepth 100000 in
set_option maxHeartbeats 4000000 in
theorem Cut_eq (n : Nat) (h : GM w g G nb n iv mb) (hn : 1 ≤ n) (hle : n ≤ G.nodes.length) :
    Calls Try.prog 29 #[.pointer (some ⟨g, 0, none⟩), .int .i64 n] w fun e w' => e = .returned (.int .i64 0) ∧ ∃ iv', GM w' g { G with nodes := G.nodes.take n } nb n iv' mb ∧ iv'.ownBlock = iv.ownBlock ∧ Ch (fp g nb mb iv) w w' := by
  have ⟨c0, c1, c2, c3⟩ := h.c
  have ⟨hl, hln, hlm, hli⟩ := h.lt
  have hm := h.ok.most
  have hr := h.ok.room
  have ⟨hcap, hcap2⟩ := h.cap
  have hd1 : decide ((n : Int) < 1) = false := decide_eq_false (by omega)
  have hd2 : decide ((G.nodes.length : Int) < n) = false := decide_eq_false (by omega)
  have hd3 : decide (G.nodes.length < n) = false := decide_eq_false (by omega)
  have hC0 : Ch [] w ((w.alloc (.cells #[.int .i64 n] 3)).drew) := ((Ch.refl _ _).alloc _).drew
  have HN := none_no (h.ch (F := []) ((Ch.refl _ _).alloc (.cells #[.int .i64 n] 3)) (by simp))
  have H := Lib.hid h; clear h
  have Hli := Lib.hid hli; clear hli
  have HC0 := Lib.hid hC0; clear hC0
  have f1 : w.frozen? ⟨g, 1, none⟩ = false := H.out.st.frozen
  have f3 : w.frozen? ⟨g, 3, none⟩ = false := H.out.st.frozen
  go_enter Try.func29, Try.ntmps29
  go_wp2_with fail
  refine HN.mono ?_
  rintro e w' ⟨rfl, rfl⟩
  go_wp2_with fail
  refine Ord.St.door (fun _ => True) [.rd, .fl, .fl, .rd, .fl, .fl, .fl, .rd, .rd, .fl, .fl, .fl] [0, 1, 3, 7, 7, 23, 55, 119, 247, 511, 1023, 2047] [0, 1, 2, 3, 4, 5, 6, 7, 8, 9, 10, 11] mixed (by kernel_rfl) rfl ?_
  refine Ord.St.rd2 (T' := ?_) 0 [1, 2, 3, 4, 5, 6, 7, 8, 9, 10, 11] _ _ rfl (by kernel_rfl) rfl rfl rfl rfl (fun K hk => ?_) ?_
  rotate_left
  · go_step; exact hk
  refine Ord.St.fl2 (T' := ?_) 1 [2, 3, 4, 5, 6, 7, 8, 9, 10, 11] _ _ rfl (by kernel_rfl) rfl rfl rfl rfl (fun K w' hk => ?_) ?_
  rotate_left
  · go_step; exact hk
  refine Ord.St.fl2 (T' := ?_) 2 [3, 4, 5, 6, 7, 8, 9, 10, 11] _ _ rfl (by kernel_rfl) rfl rfl rfl rfl (fun K w' hk => ?_) ?_
  rotate_left
  · go_step; exact hk
  first | (refine Ord.St.rd2 (T' := ?_) 3 [4, 5, 6, 7, 8, 9, 10, 11] _ _ rfl (by kernel_rfl) ?_ rfl rfl rfl (fun K hk => ?_) ?_; rotate_left; (first | rfl | (simp [Region.wanted, yielded, *]; done)); focus (go_step; exact hk)) | (refine Ord.St.skipr 3 [4, 5, 6, 7, 8, 9, 10, 11] _ rfl (by kernel_rfl) ?_ (fun K hK => ?_); (first | rfl | (simp [Region.wanted, yielded, *]; done)); go_simp; refine hK _ ?_; clear hK K)
  first | (refine Ord.St.fl2 (T' := ?_) 4 [5, 6, 7, 8, 9, 10, 11] _ _ rfl (by kernel_rfl) ?_ rfl rfl rfl (fun K w' hk => ?_) ?_; rotate_left; (first | rfl | (simp [Region.wanted, yielded, *]; done)); focus (go_step; exact hk)) | (refine Ord.St.skip 4 [5, 6, 7, 8, 9, 10, 11] _ rfl (by kernel_rfl) ?_ (fun K hK => ?_); (first | rfl | (simp [Region.wanted, yielded, *]; done)); go_simp; refine hK _ ?_; clear hK K)
  first | (refine Ord.St.fl2 (T' := ?_) 5 [6, 7, 8, 9, 10, 11] _ _ rfl (by kernel_rfl) ?_ rfl rfl rfl (fun K w' hk => ?_) ?_; rotate_left; (first | rfl | (simp [Region.wanted, yielded, *]; done)); focus (go_step; exact hk)) | (refine Ord.St.skip 5 [6, 7, 8, 9, 10, 11] _ rfl (by kernel_rfl) ?_ (fun K hK => ?_); (first | rfl | (simp [Region.wanted, yielded, *]; done)); go_simp; refine hK _ ?_; clear hK K)
  first | (refine Ord.St.fl2 (T' := ?_) 6 [7, 8, 9, 10, 11] _ _ rfl (by kernel_rfl) ?_ rfl rfl rfl (fun K w' hk => ?_) ?_; rotate_left; (first | rfl | (simp [Region.wanted, yielded, *]; done)); focus (go_step; exact hk)) | (refine Ord.St.skip 6 [7, 8, 9, 10, 11] _ rfl (by kernel_rfl) ?_ (fun K hK => ?_); (first | rfl | (simp [Region.wanted, yielded, *]; done)); go_simp; refine hK _ ?_; clear hK K)
  first | (refine Ord.St.rd2 (T' := ?_) 7 [8, 9, 10, 11] _ _ rfl (by kernel_rfl) ?_ rfl rfl rfl (fun K hk => ?_) ?_; rotate_left; (first | rfl | (simp [Region.wanted, yielded, *]; done)); focus (go_step; exact hk)) | (refine Ord.St.skipr 7 [8, 9, 10, 11] _ rfl (by kernel_rfl) ?_ (fun K hK => ?_); (first | rfl | (simp [Region.wanted, yielded, *]; done)); go_simp; refine hK _ ?_; clear hK K)
  first | (refine Ord.St.rd2 (T' := ?_) 8 [9, 10, 11] _ _ rfl (by kernel_rfl) ?_ rfl rfl rfl (fun K hk => ?_) ?_; rotate_left; (first | rfl | (simp [Region.wanted, yielded, *]; done)); focus (go_step; exact hk)) | (refine Ord.St.skipr 8 [9, 10, 11] _ rfl (by kernel_rfl) ?_ (fun K hK => ?_); (first | rfl | (simp [Region.wanted, yielded, *]; done)); go_simp; refine hK _ ?_; clear hK K)
  first | (refine Ord.St.fl2 (T' := ?_) 9 [10, 11] _ _ rfl (by kernel_rfl) ?_ rfl rfl rfl (fun K w' hk => ?_) ?_; rotate_left; (first | rfl | (simp [Region.wanted, yielded, *]; done)); focus (go_step; exact hk)) | (refine Ord.St.skip 9 [10, 11] _ rfl (by kernel_rfl) ?_ (fun K hK => ?_); (first | rfl | (simp [Region.wanted, yielded, *]; done)); go_simp; refine hK _ ?_; clear hK K)
  refine Ord.St.fl2 (T' := ?_) 10 [11] _ _ rfl (by kernel_rfl) rfl rfl rfl rfl (fun K w' hk => ?_) ?_
  rotate_left
  · go_step; exact hk
  refine Ord.St.fl2 (T' := ?_) 11 [] _ _ rfl (by kernel_rfl) rfl rfl rfl rfl (fun K w' hk => ?_) ?_
  rotate_left
  · go_step; exact hk
  refine Ord.St.nil ?_
  go_wp2
  refine Ord.St.door (fun _ => True) [.fl, .fl, .fl, .rd, .rd, .fl, .rd, .fl] [0, 1, 3, 7, 0, 31, 63, 0] [0, 1, 2, 3, 4, 5, 6, 7] mixed (by kernel_rfl) rfl ?_
  refine Ord.St.fl2 (T' := ?_) 0 [1, 2, 3, 4, 5, 6, 7] _ _ rfl (by kernel_rfl) rfl rfl rfl rfl (fun K w' hk => ?_) ?_
  rotate_left
  · go_step; exact hk
  refine Ord.St.fl2 (T' := ?_) 1 [2, 3, 4, 5, 6, 7] _ _ rfl (by kernel_rfl) rfl rfl rfl rfl (fun K w' hk => ?_) ?_
  rotate_left
  · go_step; exact hk
  refine Ord.St.fl2 (T' := ?_) 2 [3, 4, 5, 6, 7] _ _ rfl (by kernel_rfl) rfl rfl rfl rfl (fun K w' hk => ?_) ?_
  rotate_left
  · go_step; exact hk
  refine Ord.St.rd2 (T' := ?_) 3 [4, 5, 6, 7] _ _ rfl (by kernel_rfl) rfl rfl rfl rfl (fun K hk => ?_) ?_
  rotate_left
  · go_step; exact hk
  refine Ord.St.rd2 (T' := ?_) 4 [5, 6, 7] _ _ rfl (by kernel_rfl) rfl rfl rfl rfl (fun K hk => ?_) ?_
  rotate_left
  · go_step; exact hk
  refine Ord.St.fl2 (T' := ?_) 5 [6, 7] _ _ rfl (by kernel_rfl) rfl rfl rfl rfl (fun K w' hk => ?_) ?_
  rotate_left
  · go_step; exact hk
  refine Ord.St.rd2 (T' := ?_) 6 [7] _ _ rfl (by kernel_rfl) rfl rfl rfl rfl (fun K hk => ?_) ?_
  rotate_left
  · go_step; exact hk
  refine Ord.St.fl2 (T' := ?_) 7 [] _ _ rfl (by kernel_rfl) rfl rfl rfl rfl (fun K w' hk => ?_) ?_
  rotate_left
  · go_step; exact hk
  refine Ord.St.nil ?_
  go_wp2
  have hS : ∃ es clock, ((w.alloc (.cells #[.int .i64 n] 3)).drew.drew).heap[mb]? = some (.map es clock) ∧ MapOn es.toList G.nodes (fun m => m < n ∨ n + 0 ≤ m) := by
    obtain ⟨es, clock, hmap, hmo⟩ := H.out.mp
    exact ⟨es, clock, (HC0.out.block mb hlm (by simp)).trans hmap, hmo.on (fun m _ => by omega)⟩
  have b0 : ((w.alloc (.cells #[.int .i64 n] 3)).drew.drew).cell? ⟨w.heap.size, 0, none⟩ = some (.int .i64 n) := by go_simp
  have hCW : Ch [] w ((w.alloc (.cells #[.int .i64 n] 3)).drew.drew) := HC0.out.drew
  have hz0 : ((w.alloc (.cells #[.int .i64 n] 3)).drew.drew).heap.size = w.heap.size + 1 := by simp
  have HS := Lib.hid hS; clear hS
  have B0 := Lib.hid b0; clear b0
  have HCW := Lib.hid hCW; clear hCW
  have HZ := Lib.hid hz0; clear hz0
  generalize (w.alloc (.cells #[.int .i64 n] 3)).drew.drew = W0 at *
  go_loopw [29] (fun i wr => ∃ k : Nat, k ≤ G.nodes.length - n ∧ i = .int .i64 k ∧ Ch [mb] W0 wr ∧ ∃ es clock, wr.heap[mb]? = some (.map es clock) ∧ MapOn es.toList G.nodes (fun m => m < n ∨ n + k ≤ m)) (fun i _ => G.nodes.length - n - (intOf i).toNat)
  case atStart => exact ⟨0, Nat.zero_le _, rfl, Ch.refl _ _, HS.out⟩
  case round =>
    obtain ⟨k, hk, rfl, hc, hmap⟩ := hrel
    have hcw : Ch [mb] w wr := (HCW.out.mono (by simp)).trans hc (by simp)
    have hzr := hc.size
    have hgz := HZ.out
    have HMAP := Lib.hid hmap; clear hmap
    have hgm' : g ∉ [mb] := by simp [H.out.gm]
    have st := H.out.st.ch hcw hgm'
    have d0 : wr.cell? ⟨g, 0, none⟩ = some _ := st.cell rfl
    have d1 : wr.cell? ⟨g, 1, none⟩ = some _ := st.cell rfl
    have d2 : wr.cell? ⟨g, 2, none⟩ = some _ := st.cell rfl
    have d3 : wr.cell? ⟨g, 3, none⟩ = some _ := st.cell rfl
    have e1 : wr.frozen? ⟨g, 1, none⟩ = false := st.frozen
    have e3 : wr.frozen? ⟨g, 3, none⟩ = false := st.frozen
    have hbx : wr.cell? ⟨w.heap.size, 0, none⟩ = some (.int .i64 n) := (hc.cell (by show w.heap.size < _; omega) (by simp; omega)).trans B0.out
    clear c0 c1 c2 c3 f1 f3
    have HST := Lib.hid st; clear st hgm'
    have HC := Lib.hid hc; clear hc
    have HCR := Lib.hid hcw; clear hcw
    have hzz : w.heap.size + 1 ≤ wr.heap.size := by omega
    clear hzr hgz
    by_cases hlt : k < G.nodes.length - n
    · omega
    · go_wp2_with fail
      refine Ord.St.door (fun _ => True) [.fl, .fl, .fl, .fl, .rd, .rd, .fl, .fl, .fl, .ef] [0, 0, 2, 6, 14, 0, 62, 127, 255, 511] [0, 1, 2, 3, 4, 5, 6, 7, 8, 9] mixed (by kernel_rfl) rfl ?_
      refine Ord.St.fl2 (T' := ?_) 0 [1, 2, 3, 4, 5, 6, 7, 8, 9] _ _ rfl (by kernel_rfl) rfl rfl rfl rfl (fun K w' hk => ?_) ?_
      rotate_left
      · go_step; exact hk
      refine Ord.St.fl2 (T' := ?_) 1 [2, 3, 4, 5, 6, 7, 8, 9] _ _ rfl (by kernel_rfl) rfl rfl rfl rfl (fun K w' hk => ?_) ?_
      rotate_left
      · go_step; exact hk
      refine Ord.St.fl2 (T' := ?_) 2 [3, 4, 5, 6, 7, 8, 9] _ _ rfl (by kernel_rfl) rfl rfl rfl rfl (fun K w' hk => ?_) ?_
      rotate_left
      · go_step; exact hk
      refine Ord.St.fl2 (T' := ?_) 3 [4, 5, 6, 7, 8, 9] _ _ rfl (by kernel_rfl) rfl rfl rfl rfl (fun K w' hk => ?_) ?_
      rotate_left
      · go_step; exact hk
      refine Ord.St.rd2 (T' := ?_) 4 [5, 6, 7, 8, 9] _ _ rfl (by kernel_rfl) rfl rfl rfl rfl (fun K hk => ?_) ?_
      rotate_left
      · go_step; exact hk
      refine Ord.St.rd2 (T' := ?_) 5 [6, 7, 8, 9] _ _ rfl (by kernel_rfl) rfl rfl rfl rfl (fun K hk => ?_) ?_
      rotate_left
      · go_step; exact hk
      refine Ord.St.fl2 (T' := ?_) 6 [7, 8, 9] _ _ rfl (by kernel_rfl) rfl rfl rfl rfl (fun K w' hk => ?_) ?_
      rotate_left
      · go_step; exact hk
      refine Ord.St.fl2 (T' := ?_) 7 [8, 9] _ _ rfl (by kernel_rfl) rfl rfl rfl rfl (fun K w' hk => ?_) ?_
      rotate_left
      · go_step; exact hk
      refine Ord.St.fl2 (T' := ?_) 8 [9] _ _ rfl (by kernel_rfl) rfl rfl rfl rfl (fun K w' hk => ?_) ?_
      rotate_left
      · go_step; exact hk
      refine Ord.St.ef 9 [] _ rfl (by kernel_rfl) (fun K hK => ?_)
      go_wp2_with fail
      refine ⟨rfl, hK _ _ ?_⟩; clear hK K
      refine Ord.St.nil ?_
      have hC3 : Ch [g, mb] w ((wr.setCell ⟨g, 1, none⟩ (.slice (some ⟨nb, 0, none⟩) n n)).drew) := ((HCR.out.mono (F' := [g, mb]) (by simp)).setCell (by simp) _).drew
      have b3 : ((wr.setCell ⟨g, 1, none⟩ (.slice (some ⟨nb, 0, none⟩) n n)).drew).cell? ⟨w.heap.size, 0, none⟩ = some (.int .i64 n) := by go_simp
      have hrow := H.out.ins.ch hC3 (fun kk hkk => by have h1 := H.out.gi; have h2 := H.out.mi; rw [hkk] at h1 h2; simp only [Option.some.injEq, ne_eq] at h1 h2; simp [h1, h2])
      have HDF := DF_inputs hrow b3 hle (by omega)
      have HROW := Lib.hid hrow; clear hrow
      have HC3 := Lib.hid hC3; clear hC3
      clear b3
      have st3 := (HST.out.set (i := 1) (.slice (some ⟨nb, 0, none⟩) n n)).drew
      have HST3 := Lib.hid st3; clear st3
      have hz3 : w.heap.size + 1 ≤ ((wr.setCell ⟨g, 1, none⟩ (.slice (some ⟨nb, 0, none⟩) n n)).drew).heap.size := by simpa using hzz
      have hmap3 : ∃ es clock, ((wr.setCell ⟨g, 1, none⟩ (.slice (some ⟨nb, 0, none⟩) n n)).drew).heap[mb]? = some (.map es clock) ∧ MapOk es.toList (G.nodes.take n) := by
        obtain ⟨es, clock, h1, h2⟩ := HMAP.out
        refine ⟨es, clock, (Below.heap_setCell _ _ _ _ (by simpa using H.out.gm.symm)).trans h1, MapOn.take (h2.mono (fun m x hm hx _ => ?_) (fun m x hm _ _ => .inl hm))⟩
        have := (List.getElem?_eq_some_iff.1 hx).1
        omega
      have HMAP3 := Lib.hid hmap3; clear hmap3
      go_wp2_with fail
      generalize (wr.setCell ⟨g, 1, none⟩ (.slice (some ⟨nb, 0, none⟩) n n)).drew = W3 at *
      refine HDF.mono ?_
      rintro e w4 ⟨iv', rfl, hrow4, hc4, hob⟩
      have HROW4 := Lib.hid hrow4; clear hrow4
      have hgiv : g ∉ iv.ownBlock.toList := by have := H.out.gi; simpa [eq_comm] using this
      have st4 := HST3.out.ch hc4 hgiv
      have k3 : w4.cell? ⟨g, 3, none⟩ = some _ := st4.cell rfl
      have k3f : w4.frozen? ⟨g, 3, none⟩ = false := st4.frozen
      have HC4 := Lib.hid hc4; clear hc4
      have HOB := Lib.hid hob; clear hob
      have HST4 := Lib.hid st4; clear st4
      obtain ⟨ia, icap, hiv⟩ := row.shape HROW4.out
      rw [hiv]
      go_wp2_with fail
      go_ret
      rw [← hiv]
      have hcf : Ch (g :: mb :: iv.ownBlock.toList) w (w4.setCell ⟨g, 3, none⟩ iv') := Ch.setCell ((HC3.out.mono (F' := g :: mb :: iv.ownBlock.toList) (by simp)).trans HC4.out (fun kk hkk => .inl (by simp [hkk]))) (by simp) _
      have hni : ∀ kk, iv.ownBlock = some kk → kk ≠ g ∧ kk ≠ nb ∧ kk ≠ mb := fun kk hkk => ⟨by rintro rfl; exact H.out.gi hkk, by rintro rfl; exact H.out.ni hkk, by rintro rfl; exact H.out.mi hkk⟩
      have hnf : nb ∉ g :: mb :: iv.ownBlock.toList := by
        have h1 := H.out.ni
        have h2 := H.out.gn
        have h3 := H.out.mn
        simp [Ne.symm h2, Ne.symm h3]
        exact h1
      have hlt2 : (G.nodes.take n).length = n := by rw [List.length_take]; omega
      have hmbi : mb ∉ iv.ownBlock.toList := by have := H.out.mi; simpa [eq_comm] using this
      refine ⟨ret_int (by rfl), iv', ?_, HOB.out, ?_⟩
      · have hst := HST4.out.set (i := 3) iv'
        refine ⟨?_, ?_, ?_, ?_, H.out.gm, H.out.gn, H.out.mn, by rw [HOB.out]; exact H.out.gi, by rw [HOB.out]; exact H.out.ni, by rw [HOB.out]; exact H.out.mi, H.out.ok.take hn⟩
        · rw [hlt2]; exact hst
        · show row _ _ 4 (.slice (some ⟨nb, 0, none⟩) (G.nodes.take n).length n) (G.nodes.take n).length (nodesCells (G.nodes.take n))
          rw [hlt2, nodesCells_take]
          exact (row.take H.out.nodes hle).ch hcf (fun kk hkk => by cases hkk; exact hnf)
        · obtain ⟨es, clock, h1, h2⟩ := HMAP3.out
          exact ⟨es, clock, (Below.heap_setCell _ _ _ _ (by simpa using H.out.gm.symm)).trans ((HC4.out.block mb (Array.getElem?_eq_some_iff.1 h1).1 hmbi).trans h1), h2⟩
        · exact HROW4.out.ch (Ch.setCell (Ch.refl [g] _) (by simp) _) (fun kk hkk => by rw [HOB.out] at hkk; simp [(hni kk hkk).1])
      · exact hcf.mono (fun kk hkk => .inl (by simp [fp] at hkk ⊢; rcases hkk with rfl | rfl | h <;> simp [*]))
theorem Cut_is (h : GM w g G nb ncap iv mb) (n : Nat) (hn : 1 ≤ n) (hle : n ≤ G.nodes.length) :
    Calls Try.prog 29 #[.pointer (some ⟨g, 0, none⟩), .int .i64 n] w fun e w' => e = .returned (.int .i64 0) ∧ ∃ iv', GM w' g { G with nodes := G.nodes.take n } nb ncap iv' mb ∧ iv'.ownBlock = iv.ownBlock ∧ Ch (fp g nb mb iv) w w' := by
  by_cases hc : ncap = n
  · subst hc; exact Cut_eq ncap h hn hle
  · exact Cut_lt n h hn hle hc
end
end Go.Proofs.Ytnajonchjlplmaa
namespace Go.Proofs.Ytnajonchjlplmaa
open Go.RowKit Go.Mem Go.Aig

/-- a graph in memory, and the blocks that are its own -/
def GIn (w : World) (g : Nat) (G : Gra) (F : List Nat) : Prop := ∃ nb ncap iv mb, GM w g G nb ncap iv mb ∧ F = fp g nb mb iv
/-- what a function leaves of a graph -/
def GTo (w : World) (g : Nat) (G : Gra) (F : List Nat) (w' : World) : Prop := ∃ F', GIn w' g G F' ∧ Ch F w w' ∧ ∀ k ∈ F', k ∈ F ∨ w.heap.size ≤ k
theorem GIn.ok {w : World} {g : Nat} {G : Gra} {F : List Nat} (h : GIn w g G F) : Ok G := by obtain ⟨_, _, _, _, h, _⟩ := h; exact h.ok
theorem GIn.same {w w' : World} {g : Nat} {G : Gra} {F F' : List Nat} (h : GIn w g G F) (hc : Ch F' w w') (hF : ∀ k ∈ F, k ∉ F') : GIn w' g G F := by
  obtain ⟨nb, ncap, iv, mb, h, rfl⟩ := h
  exact ⟨nb, ncap, iv, mb, h.ch hc hF, rfl⟩
theorem GIn.lt {w : World} {g : Nat} {G : Gra} {F : List Nat} (h : GIn w g G F) : ∀ k ∈ F, k < w.heap.size := by
  obtain ⟨nb, ncap, iv, mb, h, rfl⟩ := h
  obtain ⟨h1, h2, h3, h4⟩ := h.lt
  intro k hk
  simp only [fp, List.mem_cons, Option.mem_toList] at hk
  rcases hk with rfl | rfl | rfl | hk
  · exact h1
  · exact h2
  · exact h3
  · exact h4 k hk
theorem GTo.same {w w' : World} {g : Nat} {G : Gra} {F : List Nat} (h : GIn w g G F) (hc : Ch [] w w') : GTo w g G F w' :=
  ⟨F, h.same hc (by simp), hc.mono (by simp), fun _ hk => .inl hk⟩
theorem GTo.of {w w' : World} {g : Nat} {G : Gra} {nb nb' ncap' : Nat} {iv iv' : Value} {mb : Nat} (h : GM w' g G nb' ncap' iv' mb) (hc : Ch (fp g nb mb iv) w w') (hn : nb' = nb ∨ w.heap.size ≤ nb') (hi : ∀ k, iv'.ownBlock = some k → iv.ownBlock = some k ∨ w.heap.size ≤ k) : GTo w g G (fp g nb mb iv) w' := by
  refine ⟨_, ⟨_, _, _, _, h, rfl⟩, hc, fun k hk => ?_⟩
  simp only [fp, List.mem_cons, Option.mem_toList] at hk ⊢
  rcases hk with rfl | rfl | rfl | hk
  · simp
  · rcases hn with e | e
    · simp [e]
    · exact .inr e
  · simp
  · rcases hi k hk with e | e
    · simp [e]
    · exact .inr e

theorem fnvMake1 : Fnv 68 := fnv_of Try.func68 (by simp [Try.f68]) (by simp [Try.f68])
section
variable {w : World} {g : Nat} {G : Gra} {nb ncap : Nat} {iv : Value} {mb : Nat}
set_option maxRecDepth 100000 in
set_option maxHeartbeats 1000000 in
theorem make1_is (h : GM w g G nb ncap iv mb) {bx : Nat} (hb : w.cell? ⟨bx, 0, none⟩ = some (.pointer (some ⟨g, 0, none⟩))) (r : Int) (hr : r ≤ 9223372036854775807) :
    Calls Try.prog 68 (#[.int .i64 r] ++ #[.pointer (some ⟨bx, 0, none⟩)]) w fun e w' => e = .returned (.bool (!right G.nodes r)) ∧ w = w' := by
  show Calls Try.prog 68 #[.int .i64 r, .pointer (some ⟨bx, 0, none⟩)] w _
  have HR := Right_is h r hr
  clear h
  generalize right G.nodes r = q at *
  go_enter Try.func68, Try.ntmps68
  go_wp2_with fail
  refine HR.mono ?_
  rintro e w' ⟨rfl, rfl⟩
  go_wp2_with fail
  go_ret
  exact ⟨ret_bool rfl, rfl⟩

set_option maxRecDepth 100000 in
set_option maxHeartbeats 2000000 in
theorem make_is (h : GM w g G nb ncap iv mb) {a : Option Addr} {l : List Int} (cap : Nat) (hl : Sl w a l) (hlb : ∀ x ∈ l, x ≤ 9223372036854775807) (halt : ∀ p, a = some p → p.block < w.heap.size) (fid : Nat) (caps : Array Value) (hfn : Fnv fid) (f : Mk → Mk × Nat)
    (hf : (∀ x ∈ l, right G.nodes x = true) → ∀ W m, w.heap.size ≤ m → Ch [] w W → MS W g m (G, 0) nb ncap iv mb → Calls Try.prog fid (#[.pointer (some ⟨m, 0, none⟩)] ++ caps) W fun e w' => e = .returned (.int .i64 (f (G, 0)).2) ∧ ∃ nb' ncap', MStep W g m (f (G, 0)).1 nb iv mb nb' ncap' w')
    (hext : (∀ x ∈ l, right G.nodes x = true) → MOk (f (G, 0)).1 ∧ Ext G (f (G, 0)).1.1) :
    Calls Try.prog 43 #[.pointer (some ⟨g, 0, none⟩), .func (.func fid) #[] caps, .slice a l.length cap] w fun e w' => e = .returned (.tuple #[.int .i64 (whole G l f).2.1, .int .i64 (whole G l f).2.2]) ∧ GTo w g (whole G l f).1 (fp g nb mb iv) w' := by
  have hl0 := h.lt
  have hg := h.lt.1
  have hp : ∀ x, right G.nodes x = !(!right G.nodes x) := fun x => by simp
  have hW1 : Ch [] w (w.alloc (.cells #[.pointer (some ⟨g, 0, none⟩)] 24)) := (Ch.refl _ _).alloc _
  have H1 := h.ch hW1 (by simp)
  have b1 : (w.alloc (.cells #[.pointer (some ⟨g, 0, none⟩)] 24)).cell? ⟨w.heap.size, 0, none⟩ = some (.pointer (some ⟨g, 0, none⟩)) := by go_simp
  have HN := none_no H1
  have hl1 : Sl (w.alloc (.cells #[.pointer (some ⟨g, 0, none⟩)] 24)) a l := ⟨fun i x hx => by
    obtain ⟨b, o, hao, hc⟩ := hl.cells i x hx
    exact ⟨b, o, hao, (hW1.cell (p := ⟨b, o + i, none⟩) (halt ⟨b, o, none⟩ hao) (by simp)).trans hc⟩, hl.bd⟩
  have HC := CFref_is cap 68 #[.pointer (some ⟨w.heap.size, 0, none⟩)] (fun x => !right G.nodes x) hl1 (fun x hx => make1_is H1 b1 x (hlb x hx)) fnvMake1
  have H := Lib.hid h; clear h
  have HH1 := Lib.hid H1; clear H1
  clear hl1 b1 hl
  unfold whole
  cases hany : l.any fun x => !right G.nodes x
  · have hright : ∀ x ∈ l, right G.nodes x = true := by simpa using hany
    rw [hany] at HC
    rw [if_neg (by simp)]
    have HF := hf hright
    obtain ⟨ho, hx⟩ := hext hright
    have hoe := ho.err
    have HO := Lib.hid ho; clear ho
    have HX := Lib.hid hx; clear hx
    have HR := Lib.hid hright; clear hright
    clear hf hext
    have hgs := H.out.ok.room
    have hgm := H.out.ok.most
    have hgp := H.out.ok.wf.pos
    have h1m : G.nodes.length ≤ 65536 := by omega
    clear hgs hgm
    have cG := H.out.c
    obtain ⟨c0, c1, c2, c3⟩ := cG
    generalize hR : f (G, 0) = R at *
    clear hR
    dsimp only
    generalize hWW : (if R.1.2 ≠ 0 then (G, 0, R.1.2) else (R.1.1, R.2, 0) : Res) = WW
    have HWW := Lib.hid hWW; clear hWW
    have hms : MS ((w.alloc (.cells #[.pointer (some ⟨g, 0, none⟩)] 24)).alloc (.cells #[.pointer (some ⟨g, 0, none⟩), .int .i64 0] 118)) g (w.heap.size + 1) (G, 0) nb ncap iv mb := by
      have hc : Ch [] w ((w.alloc (.cells #[.pointer (some ⟨g, 0, none⟩)] 24)).alloc (.cells #[.pointer (some ⟨g, 0, none⟩), .int .i64 0] 118)) := hW1.alloc _
      refine ⟨H.out.ch hc (by simp), blk.new' _ _ (by simp), ?_, ⟨H.out.ok, .inl rfl⟩⟩
      intro hm
      have := GIn.lt ⟨nb, ncap, iv, mb, H.out, rfl⟩ _ hm
      omega
    have HM := Lib.hid hms; clear hms
    have HW2 := Lib.hid (hW1.alloc (.cells #[.pointer (some ⟨g, 0, none⟩), .int .i64 0] 118)); clear hW1
    have hcf : ∀ args w, (callFunc fid args).run Try.prog w = .ok (.enter fid args) w := hfn
    have HF2 := HF _ (w.heap.size + 1) (by omega) HW2.out HM.out
    clear HF
    go_enter Try.func43, Try.ntmps43
    go_wp2_with fail
    refine HN.mono ?_
    rintro e w' ⟨rfl, rfl⟩
    go_wp2_with fail
    refine HC.mono ?_
    rintro e w' ⟨rfl, rfl⟩
    go_wp2_with fail
    refine HF2.mono ?_
    rintro e w3 ⟨rfl, nb', ncap', hs⟩
    have hgm3 := hs.ms.gm
    have hz3 := hs.ch.size
    simp at hz3
    have hfre : nb' = nb ∨ w.heap.size ≤ nb' := by
      rcases hs.fresh with e | e
      · exact .inl e
      · simp at e; omega
    have m1 : w3.cell? ⟨w.heap.size + 1, 1, none⟩ = some (.int .i64 R.1.2) := hs.ms.bk.cell rfl
    have hmn : w.heap.size + 1 < w3.heap.size := hs.ms.bk.lt
    have hb0 : w3.cell? ⟨w.heap.size, 0, none⟩ = some (.pointer (some ⟨g, 0, none⟩)) := by
      rw [hs.ch.cell (by simp; omega) (by
        have := GIn.lt ⟨nb, ncap, iv, mb, H.out, rfl⟩
        have h1 := this nb (by simp [fp]); have h2 := this mb (by simp [fp])
        simp; omega)]
      go_simp
    have hchw : Ch (fp g nb mb iv) w w3 := (HW2.out.mono (by simp)).trans hs.ch (fun k hk => by
      simp only [List.mem_cons, List.not_mem_nil, or_false] at hk
      rcases hk with rfl | rfl | rfl | rfl
      · simp [fp]
      · simp [fp]
      · simp [fp]
      · right; omega)
    have HS := Lib.hid hs; clear hs
    have HG3 := Lib.hid hgm3; clear hgm3
    have HCW := Lib.hid hchw; clear hchw
    rcases hoe with he | he
    · rw [he] at m1
      have HE := Lib.hid he; clear he
      go_wp2_with fail
      go_ret2
      have hw := HWW.out
      rw [if_neg (by rw [HE.out]; simp)] at hw
      subst hw
      exact ⟨rfl, GTo.of HG3.out HCW.out hfre (fun k hk => .inl hk)⟩
    · rw [he] at m1
      have HE := Lib.hid he; clear he
      have hcut := Cut_is HG3.out G.nodes.length hgp HX.out.len
      have HCUT := Lib.hid hcut; clear hcut
      go_wp2_with fail
      refine HCUT.out.mono ?_
      rintro e w4 ⟨rfl, iv', hgm4, hob, hch⟩
      have hm4 : w4.cell? ⟨w.heap.size + 1, 1, none⟩ = some (.int .i64 201) := (hch.cell (p := ⟨w.heap.size + 1, 1, none⟩) hmn HS.out.ms.apart).trans m1
      clear m1
      have HG4 := Lib.hid hgm4; clear hgm4
      have HC4 := Lib.hid hch; clear hch
      have HOB := Lib.hid hob; clear hob
      go_wp2_with fail
      refine Ord.St.door (fun _ => True) [.fl, .fl, .fl, .rd, .fl, .fl] [0, 1, 3, 7, 0, 31] [0, 1, 2, 3, 4, 5] mixed (by kernel_rfl) rfl ?_
      refine Ord.St.fl2 (T' := ?_) 0 [1, 2, 3, 4, 5] _ _ rfl (by kernel_rfl) rfl rfl rfl rfl (fun K w' hk => ?_) ?_
      rotate_left
      · go_step; exact hk
      refine Ord.St.fl2 (T' := ?_) 1 [2, 3, 4, 5] _ _ rfl (by kernel_rfl) rfl rfl rfl rfl (fun K w' hk => ?_) ?_
      rotate_left
      · go_step; exact hk
      refine Ord.St.fl2 (T' := ?_) 2 [3, 4, 5] _ _ rfl (by kernel_rfl) rfl rfl rfl rfl (fun K w' hk => ?_) ?_
      rotate_left
      · go_step; exact hk
      refine Ord.St.rd2 (T' := ?_) 3 [4, 5] _ _ rfl (by kernel_rfl) rfl rfl rfl rfl (fun K hk => ?_) ?_
      rotate_left
      · go_step; exact hk
      refine Ord.St.fl2 (T' := ?_) 4 [5] _ _ rfl (by kernel_rfl) rfl rfl rfl rfl (fun K w' hk => ?_) ?_
      rotate_left
      · go_step; exact hk
      refine Ord.St.fl2 (T' := ?_) 5 [] _ _ rfl (by kernel_rfl) rfl rfl rfl rfl (fun K w' hk => ?_) ?_
      rotate_left
      · go_step; exact hk
      refine Ord.St.nil ?_
      go_wp2_with fail
      go_ret2
      have ht : ({ R.1.1 with nodes := R.1.1.nodes.take G.nodes.length } : Gra) = G := by
        obtain ⟨e1, more, e2⟩ := HX.out
        show ({ most := R.1.1.most, nodes := R.1.1.nodes.take G.nodes.length } : Gra) = G
        rw [e1, e2, List.take_left]
      have hg4 := HG4.out
      rw [ht] at hg4
      have hw := HWW.out
      rw [if_pos (by rw [HE.out]; simp), HE.out] at hw
      subst hw
      refine ⟨rfl, ?_⟩
      refine GTo.of (hg4.ch (F := []) ((Ch.refl _ _).drew) (by simp)) (HCW.out.trans HC4.out.drew ?_) hfre (fun k hk => .inl (by rw [HOB.out] at hk; exact hk))
      intro k hk
      simp only [fp, List.mem_cons, Option.mem_toList] at hk ⊢
      rcases hk with rfl | rfl | rfl | hk
      · simp
      · rcases hfre with e | e
        · simp [e]
        · exact .inr e
      · simp
      · simp [hk]
  · rw [hany] at HC
    rw [if_pos rfl]
    go_enter Try.func43, Try.ntmps43
    go_wp2_with fail
    refine HN.mono ?_
    rintro e w' ⟨rfl, rfl⟩
    go_wp2_with fail
    refine HC.mono ?_
    rintro e w' ⟨rfl, rfl⟩
    go_wp2_with fail
    go_ret2
    exact ⟨rfl, GTo.same ⟨_, _, _, _, H.out, rfl⟩ hW1⟩
end
end Go.Proofs.Ytnajonchjlplmaa
namespace Go.Proofs.Ytnajonchjlplmaa
open Go.RowKit Go.Mem Go.Aig

theorem right_nat {ns : List Nd} {x : Int} (h : right ns x = true) : ∃ r : Nat, x = r ∧ r < 2 * ns.length := by
  unfold right at h
  have := of_decide_eq_true h
  exact ⟨x.toNat, by omega, by omega⟩
def doAnd (G : Gra) (a b : Int) : Res := whole G [a, b] fun s => mand s a.toNat b.toNat
def doOr (G : Gra) (a b : Int) : Res := whole G [a, b] fun s => mor s a.toNat b.toNat
def doXor (G : Gra) (a b : Int) : Res := whole G [a, b] fun s => mmux s a.toNat (neg b.toNat) b.toNat
def doMux (G : Gra) (c a b : Int) : Res := whole G [c, a, b] fun s => mmux s c.toNat a.toNat b.toNat
def doAll (G : Gra) (l : List Int) : Res := whole G l fun s => mall s 1 (l.map Int.toNat)
def doAny (G : Gra) (l : List Int) : Res := whole G l fun s => many s (l.map Int.toNat)
theorem fnvAnd1 : Fnv 44 := fnv_of Try.func44 (by simp [Try.f44]) (by simp [Try.f44])
theorem fnvOr1 : Fnv 47 := fnv_of Try.func47 (by simp [Try.f47]) (by simp [Try.f47])
theorem fnvXor1 : Fnv 49 := fnv_of Try.func49 (by simp [Try.f49]) (by simp [Try.f49])
theorem fnvMux1 : Fnv 52 := fnv_of Try.func52 (by simp [Try.f52]) (by simp [Try.f52])
theorem fnvAll1 : Fnv 46 := fnv_of Try.func46 (by simp [Try.f46]) (by simp [Try.f46])
theorem fnvAny1 : Fnv 53 := fnv_of Try.func53 (by simp [Try.f53]) (by simp [Try.f53])
section
variable {w : World} {g : Nat} {nb ncap : Nat} {iv : Value} {mb : Nat}
theorem MS.ch {w' : World} {m : Nat} {s : Mk} (h : MS w g m s nb ncap iv mb) (hc : Ch [] w w') : MS w' g m s nb ncap iv mb :=
  ⟨h.gm.ch hc (by simp), h.bk.ch hc (by simp), h.apart, h.ok⟩
theorem MStep.of {w0 w' : World} {m : Nat} {s : Mk} {nb' ncap' : Nat} (h : MStep w g m s nb iv mb nb' ncap' w') (hc : Ch [] w0 w) : MStep w0 g m s nb iv mb nb' ncap' w' :=
  ⟨h.ms, h.fresh.imp id (fun e => by have := hc.size; omega), (hc.mono (by simp)).trans h.ch (fun k hk => .inl hk)⟩

set_option maxRecDepth 100000 in
set_option maxHeartbeats 1000000 in
theorem And1_is {m : Nat} {s : Mk} (h : MS w g m s nb ncap iv mb) {a b : Nat} (ha : a < 2 * s.1.nodes.length) (hb : b < 2 * s.1.nodes.length) {x y : Nat} (bx : w.cell? ⟨x, 0, none⟩ = some (.int .i64 a)) (by' : w.cell? ⟨y, 0, none⟩ = some (.int .i64 b)) :
    Calls Try.prog 44 (#[.pointer (some ⟨m, 0, none⟩)] ++ #[.pointer (some ⟨x, 0, none⟩), .pointer (some ⟨y, 0, none⟩)]) w fun e w' => e = .returned (.int .i64 (mand s a b).2) ∧ ∃ nb' ncap', MStep w g m (mand s a b).1 nb iv mb nb' ncap' w' := by
  show Calls Try.prog 44 #[.pointer (some ⟨m, 0, none⟩), .pointer (some ⟨x, 0, none⟩), .pointer (some ⟨y, 0, none⟩)] w _
  have HA := mand_is h ha hb
  clear h ha hb
  generalize mand s a b = R at *
  go_enter Try.func44, Try.ntmps44
  go_wp2_with fail
  refine HA.mono ?_
  rintro e w' ⟨rfl, nb', ncap', hs⟩
  go_wp2_with fail
  go_ret
  exact ⟨rfl, nb', ncap', hs⟩

set_option maxRecDepth 100000 in
set_option maxHeartbeats 1000000 in
theorem Or1_is {m : Nat} {s : Mk} (h : MS w g m s nb ncap iv mb) {a b : Nat} (ha : a < 2 * s.1.nodes.length) (hb : b < 2 * s.1.nodes.length) {x y : Nat} (bx : w.cell? ⟨x, 0, none⟩ = some (.int .i64 a)) (by' : w.cell? ⟨y, 0, none⟩ = some (.int .i64 b)) :
    Calls Try.prog 47 (#[.pointer (some ⟨m, 0, none⟩)] ++ #[.pointer (some ⟨x, 0, none⟩), .pointer (some ⟨y, 0, none⟩)]) w fun e w' => e = .returned (.int .i64 (mor s a b).2) ∧ ∃ nb' ncap', MStep w g m (mor s a b).1 nb iv mb nb' ncap' w' := by
  show Calls Try.prog 47 #[.pointer (some ⟨m, 0, none⟩), .pointer (some ⟨x, 0, none⟩), .pointer (some ⟨y, 0, none⟩)] w _
  have HA := mor_is h ha hb
  clear h ha hb
  generalize mor s a b = R at *
  go_enter Try.func47, Try.ntmps47
  go_wp2_with fail
  refine HA.mono ?_
  rintro e w' ⟨rfl, nb', ncap', hs⟩
  go_wp2_with fail
  go_ret
  exact ⟨rfl, nb', ncap', hs⟩

set_option maxRecDepth 100000 in
set_option maxHeartbeats 1000000 in
theorem Mux1_is {m : Nat} {s : Mk} (h : MS w g m s nb ncap iv mb) {c a b : Nat} (hc : c < 2 * s.1.nodes.length) (ha : a < 2 * s.1.nodes.length) (hb : b < 2 * s.1.nodes.length) {z x y : Nat} (bz : w.cell? ⟨z, 0, none⟩ = some (.int .i64 c)) (bx : w.cell? ⟨x, 0, none⟩ = some (.int .i64 a)) (by' : w.cell? ⟨y, 0, none⟩ = some (.int .i64 b)) :
    Calls Try.prog 52 (#[.pointer (some ⟨m, 0, none⟩)] ++ #[.pointer (some ⟨z, 0, none⟩), .pointer (some ⟨x, 0, none⟩), .pointer (some ⟨y, 0, none⟩)]) w fun e w' => e = .returned (.int .i64 (mmux s c a b).2) ∧ ∃ nb' ncap', MStep w g m (mmux s c a b).1 nb iv mb nb' ncap' w' := by
  show Calls Try.prog 52 #[.pointer (some ⟨m, 0, none⟩), .pointer (some ⟨z, 0, none⟩), .pointer (some ⟨x, 0, none⟩), .pointer (some ⟨y, 0, none⟩)] w _
  have HA := mmux_is h hc ha hb
  clear h ha hb
  generalize mmux s c a b = R at *
  go_enter Try.func52, Try.ntmps52
  go_wp2_with fail
  refine HA.mono ?_
  rintro e w' ⟨rfl, nb', ncap', hs⟩
  go_wp2_with fail
  go_ret
  exact ⟨rfl, nb', ncap', hs⟩

set_option maxRecDepth 100000 in
set_option maxHeartbeats 1000000 in
theorem Xor1_is {m : Nat} {s : Mk} (h : MS w g m s nb ncap iv mb) {a b : Nat} (ha : a < 2 * s.1.nodes.length) (hb : b < 2 * s.1.nodes.length) {x y : Nat} (bx : w.cell? ⟨x, 0, none⟩ = some (.int .i64 a)) (by' : w.cell? ⟨y, 0, none⟩ = some (.int .i64 b)) :
    Calls Try.prog 49 (#[.pointer (some ⟨m, 0, none⟩)] ++ #[.pointer (some ⟨x, 0, none⟩), .pointer (some ⟨y, 0, none⟩)]) w fun e w' => e = .returned (.int .i64 (mmux s a (neg b) b).2) ∧ ∃ nb' ncap', MStep w g m (mmux s a (neg b) b).1 nb iv mb nb' ncap' w' := by
  show Calls Try.prog 49 #[.pointer (some ⟨m, 0, none⟩), .pointer (some ⟨x, 0, none⟩), .pointer (some ⟨y, 0, none⟩)] w _
  have bb := h.bd hb
  have HA : ∀ W, Ch [] w W → Calls Try.prog 50 #[.pointer (some ⟨m, 0, none⟩), .int .i64 a, .int .i64 (neg b : Nat), .int .i64 b] W fun e w' => e = .returned (.int .i64 (mmux s a (neg b) b).2) ∧ ∃ nb' ncap', MStep W g m (mmux s a (neg b) b).1 nb iv mb nb' ncap' w' := fun W hW => mmux_is (h.ch hW) ha (neg_lt hb) hb
  have HD := HA w.drew ((Ch.refl _ _).drew)
  clear h ha hb HA
  generalize mmux s a (neg b) b = R at *
  go_enter Try.func49, Try.ntmps49
  go_wp2_with fail
  refine Ord.St.door (fun _ => True) [.fl, .rd, .rd, .rd, .rd, .ef, .fl] [0, 0, 0, 4, 0, 31, 63] [0, 1, 2, 3, 4, 5, 6] mixed (by kernel_rfl) rfl ?_
  refine Ord.St.fl2 (T' := ?_) 0 [1, 2, 3, 4, 5, 6] _ _ rfl (by kernel_rfl) rfl rfl rfl rfl (fun K w' hk => ?_) ?_
  rotate_left
  · go_step; exact hk
  refine Ord.St.rd2 (T' := ?_) 1 [2, 3, 4, 5, 6] _ _ rfl (by kernel_rfl) rfl rfl rfl rfl (fun K hk => ?_) ?_
  rotate_left
  · go_step; exact hk
  refine Ord.St.rd2 (T' := ?_) 2 [3, 4, 5, 6] _ _ rfl (by kernel_rfl) rfl rfl rfl rfl (fun K hk => ?_) ?_
  rotate_left
  · go_step; exact hk
  refine Ord.St.rd2 (T' := ?_) 3 [4, 5, 6] _ _ rfl (by kernel_rfl) rfl rfl rfl rfl (fun K hk => ?_) ?_
  rotate_left
  · go_step; refine (Not_any _ _ (by omega)).mono ?_; rintro e w1 ⟨rfl, rfl⟩; exact hk
  refine Ord.St.rd2 (T' := ?_) 4 [5, 6] _ _ rfl (by kernel_rfl) rfl rfl rfl rfl (fun K hk => ?_) ?_
  rotate_left
  · go_step; exact hk
  refine Ord.St.ef 5 [6] _ rfl (by kernel_rfl) (fun K hK => ?_)
  go_wp2_with fail
  refine HD.mono ?_
  rintro e w' ⟨rfl, nb', ncap', hs⟩
  have HS := Lib.hid hs; clear hs
  go_wp2_with fail
  refine ⟨rfl, hK _ _ ?_⟩; clear hK K
  refine Ord.St.fl2 (T' := ?_) 6 [] _ _ rfl (by kernel_rfl) rfl rfl rfl rfl (fun K w' hk => ?_) ?_
  rotate_left
  · go_step; exact hk
  refine Ord.St.nil ?_
  go_wp2_with fail
  go_ret
  exact ⟨rfl, nb', ncap', HS.out.of ((Ch.refl _ _).drew)⟩
theorem GTo.back {w0 w w' : World} {g : Nat} {G : Gra} {F : List Nat} (h : GTo w g G F w') (hc : Ch [] w0 w) : GTo w0 g G F w' := by
  obtain ⟨F', h1, h2, h3⟩ := h
  have := hc.size
  exact ⟨F', h1, (hc.mono (by simp)).trans h2 (fun k hk => .inl hk), fun k hk => (h3 k hk).imp id (fun e => by omega)⟩

set_option maxRecDepth 100000 in
set_option maxHeartbeats 2000000 in
theorem And_is {G : Gra} (h : GM w g G nb ncap iv mb) (a b : Int) (ba : a ≤ 9223372036854775807) (bb : b ≤ 9223372036854775807) :
    Calls Try.prog 18 #[.pointer (some ⟨g, 0, none⟩), .int .i64 a, .int .i64 b] w fun e w' => e = .returned (.tuple #[.int .i64 (doAnd G a b).2.1, .int .i64 (doAnd G a b).2.2]) ∧ GTo w g (doAnd G a b).1 (fp g nb mb iv) w' := by
  have hl0 := h.lt
  have hW : Ch [] w (((w.alloc (.cells #[.int .i64 a] 33)).alloc (.cells #[.int .i64 b] 33)).alloc (.cells #[.int .i64 a, .int .i64 b] 33)) := (((Ch.refl _ _).alloc _).alloc _).alloc _
  have hS : Sl (((w.alloc (.cells #[.int .i64 a] 33)).alloc (.cells #[.int .i64 b] 33)).alloc (.cells #[.int .i64 a, .int .i64 b] 33)) (some ⟨w.heap.size + 2, 0, none⟩) [a, b] := ⟨fun i x hx => by
    refine ⟨_, _, rfl, ?_⟩
    have hb := blk.new' (w := (w.alloc (.cells #[.int .i64 a] 33)).alloc (.cells #[.int .i64 b] 33)) (b := w.heap.size + 2) [.int .i64 a, .int .i64 b] 33 (by simp)
    refine hb.cell ?_
    match i, hx with
    | 0, hx => simpa using hx
    | 1, hx => simpa using hx, by simp⟩
  have b0 : (((w.alloc (.cells #[.int .i64 a] 33)).alloc (.cells #[.int .i64 b] 33)).alloc (.cells #[.int .i64 a, .int .i64 b] 33)).cell? ⟨w.heap.size, 0, none⟩ = some (.int .i64 a) := by go_simp
  have b1 : (((w.alloc (.cells #[.int .i64 a] 33)).alloc (.cells #[.int .i64 b] 33)).alloc (.cells #[.int .i64 a, .int .i64 b] 33)).cell? ⟨w.heap.size + 1, 0, none⟩ = some (.int .i64 b) := by go_simp
  have hz : (((w.alloc (.cells #[.int .i64 a] 33)).alloc (.cells #[.int .i64 b] 33)).alloc (.cells #[.int .i64 a, .int .i64 b] 33)).heap.size = w.heap.size + 3 := by simp
  have HM := make_is (h.ch hW (by simp)) (a := some ⟨w.heap.size + 2, 0, none⟩) (l := [a, b]) 2 hS (by simp [ba, bb]) (fun p hp => by cases hp; simp <;> omega) 44 #[.pointer (some ⟨w.heap.size, 0, none⟩), .pointer (some ⟨w.heap.size + 1, 0, none⟩)] fnvAnd1 (fun s => mand s a.toNat b.toNat) (fun hr W m hm hc hms => by
    obtain ⟨x, rfl, hx⟩ := right_nat (hr a (by simp))
    obtain ⟨y, rfl, hy⟩ := right_nat (hr b (by simp))
    exact And1_is hms hx hy ((hc.cell (by simp <;> omega) (by simp)).trans b0) ((hc.cell (by simp <;> omega) (by simp)).trans b1)) (fun hr => by
    obtain ⟨x, rfl, hx⟩ := right_nat (hr a (by simp))
    obtain ⟨y, rfl, hy⟩ := right_nat (hr b (by simp))
    have := mand_ok (s := (G, 0)) ⟨h.ok, .inl rfl⟩ hx hy
    exact ⟨this.1, this.2.1⟩)
  unfold doAnd
  clear hS b0 b1 hz
  generalize whole G [a, b] _ = R at *
  have H := Lib.hid h; clear h
  go_enter Try.func18, Try.ntmps18
  go_wp2_with fail
  refine HM.mono ?_
  rintro e w' ⟨rfl, hs⟩
  have HS := Lib.hid hs; clear hs
  go_wp2_with fail
  go_ret2
  exact ⟨rfl, HS.out.back hW⟩

set_option maxRecDepth 100000 in
set_option maxHeartbeats 2000000 in
theorem Or_is {G : Gra} (h : GM w g G nb ncap iv mb) (a b : Int) (ba : a ≤ 9223372036854775807) (bb : b ≤ 9223372036854775807) :
    Calls Try.prog 22 #[.pointer (some ⟨g, 0, none⟩), .int .i64 a, .int .i64 b] w fun e w' => e = .returned (.tuple #[.int .i64 (doOr G a b).2.1, .int .i64 (doOr G a b).2.2]) ∧ GTo w g (doOr G a b).1 (fp g nb mb iv) w' := by
  have hl0 := h.lt
  have hW : Ch [] w (((w.alloc (.cells #[.int .i64 a] 33)).alloc (.cells #[.int .i64 b] 33)).alloc (.cells #[.int .i64 a, .int .i64 b] 33)) := (((Ch.refl _ _).alloc _).alloc _).alloc _
  have hS : Sl (((w.alloc (.cells #[.int .i64 a] 33)).alloc (.cells #[.int .i64 b] 33)).alloc (.cells #[.int .i64 a, .int .i64 b] 33)) (some ⟨w.heap.size + 2, 0, none⟩) [a, b] := ⟨fun i x hx => by
    refine ⟨_, _, rfl, ?_⟩
    have hb := blk.new' (w := (w.alloc (.cells #[.int .i64 a] 33)).alloc (.cells #[.int .i64 b] 33)) (b := w.heap.size + 2) [.int .i64 a, .int .i64 b] 33 (by simp)
    refine hb.cell ?_
    match i, hx with
    | 0, hx => simpa using hx
    | 1, hx => simpa using hx, by simp⟩
  have b0 : (((w.alloc (.cells #[.int .i64 a] 33)).alloc (.cells #[.int .i64 b] 33)).alloc (.cells #[.int .i64 a, .int .i64 b] 33)).cell? ⟨w.heap.size, 0, none⟩ = some (.int .i64 a) := by go_simp
  have b1 : (((w.alloc (.cells #[.int .i64 a] 33)).alloc (.cells #[.int .i64 b] 33)).alloc (.cells #[.int .i64 a, .int .i64 b] 33)).cell? ⟨w.heap.size + 1, 0, none⟩ = some (.int .i64 b) := by go_simp
  have hz : (((w.alloc (.cells #[.int .i64 a] 33)).alloc (.cells #[.int .i64 b] 33)).alloc (.cells #[.int .i64 a, .int .i64 b] 33)).heap.size = w.heap.size + 3 := by simp
  have HM := make_is (h.ch hW (by simp)) (a := some ⟨w.heap.size + 2, 0, none⟩) (l := [a, b]) 2 hS (by simp [ba, bb]) (fun p hp => by cases hp; simp <;> omega) 47 #[.pointer (some ⟨w.heap.size, 0, none⟩), .pointer (some ⟨w.heap.size + 1, 0, none⟩)] fnvOr1 (fun s => mor s a.toNat b.toNat) (fun hr W m hm hc hms => by
    obtain ⟨x, rfl, hx⟩ := right_nat (hr a (by simp))
    obtain ⟨y, rfl, hy⟩ := right_nat (hr b (by simp))
    exact Or1_is hms hx hy ((hc.cell (by simp <;> omega) (by simp)).trans b0) ((hc.cell (by simp <;> omega) (by simp)).trans b1)) (fun hr => by
    obtain ⟨x, rfl, hx⟩ := right_nat (hr a (by simp))
    obtain ⟨y, rfl, hy⟩ := right_nat (hr b (by simp))
    have := mor_ok (s := (G, 0)) ⟨h.ok, .inl rfl⟩ hx hy
    exact ⟨this.1, this.2.1⟩)
  unfold doOr
  clear hS b0 b1 hz
  generalize whole G [a, b] _ = R at *
  have H := Lib.hid h; clear h
  go_enter Try.func22, Try.ntmps22
  go_wp2_with fail
  refine HM.mono ?_
  rintro e w' ⟨rfl, hs⟩
  have HS := Lib.hid hs; clear hs
  go_wp2_with fail
  go_ret2
  exact ⟨rfl, HS.out.back hW⟩

set_option maxRecDepth 100000 in
set_option maxHeartbeats 2000000 in
theorem Xor_is {G : Gra} (h : GM w g G nb ncap iv mb) (a b : Int) (ba : a ≤ 9223372036854775807) (bb : b ≤ 9223372036854775807) :
    Calls Try.prog 23 #[.pointer (some ⟨g, 0, none⟩), .int .i64 a, .int .i64 b] w fun e w' => e = .returned (.tuple #[.int .i64 (doXor G a b).2.1, .int .i64 (doXor G a b).2.2]) ∧ GTo w g (doXor G a b).1 (fp g nb mb iv) w' := by
  have hl0 := h.lt
  have hW : Ch [] w (((w.alloc (.cells #[.int .i64 a] 33)).alloc (.cells #[.int .i64 b] 33)).alloc (.cells #[.int .i64 a, .int .i64 b] 33)) := (((Ch.refl _ _).alloc _).alloc _).alloc _
  have hS : Sl (((w.alloc (.cells #[.int .i64 a] 33)).alloc (.cells #[.int .i64 b] 33)).alloc (.cells #[.int .i64 a, .int .i64 b] 33)) (some ⟨w.heap.size + 2, 0, none⟩) [a, b] := ⟨fun i x hx => by
    refine ⟨_, _, rfl, ?_⟩
    have hb := blk.new' (w := (w.alloc (.cells #[.int .i64 a] 33)).alloc (.cells #[.int .i64 b] 33)) (b := w.heap.size + 2) [.int .i64 a, .int .i64 b] 33 (by simp)
    refine hb.cell ?_
    match i, hx with
    | 0, hx => simpa using hx
    | 1, hx => simpa using hx, by simp⟩
  have b0 : (((w.alloc (.cells #[.int .i64 a] 33)).alloc (.cells #[.int .i64 b] 33)).alloc (.cells #[.int .i64 a, .int .i64 b] 33)).cell? ⟨w.heap.size, 0, none⟩ = some (.int .i64 a) := by go_simp
  have b1 : (((w.alloc (.cells #[.int .i64 a] 33)).alloc (.cells #[.int .i64 b] 33)).alloc (.cells #[.int .i64 a, .int .i64 b] 33)).cell? ⟨w.heap.size + 1, 0, none⟩ = some (.int .i64 b) := by go_simp
  have hz : (((w.alloc (.cells #[.int .i64 a] 33)).alloc (.cells #[.int .i64 b] 33)).alloc (.cells #[.int .i64 a, .int .i64 b] 33)).heap.size = w.heap.size + 3 := by simp
  have HM := make_is (h.ch hW (by simp)) (a := some ⟨w.heap.size + 2, 0, none⟩) (l := [a, b]) 2 hS (by simp [ba, bb]) (fun p hp => by cases hp; simp <;> omega) 49 #[.pointer (some ⟨w.heap.size, 0, none⟩), .pointer (some ⟨w.heap.size + 1, 0, none⟩)] fnvXor1 (fun s => mmux s a.toNat (neg b.toNat) b.toNat) (fun hr W m hm hc hms => by
    obtain ⟨x, rfl, hx⟩ := right_nat (hr a (by simp))
    obtain ⟨y, rfl, hy⟩ := right_nat (hr b (by simp))
    exact Xor1_is hms hx hy ((hc.cell (by simp <;> omega) (by simp)).trans b0) ((hc.cell (by simp <;> omega) (by simp)).trans b1)) (fun hr => by
    obtain ⟨x, rfl, hx⟩ := right_nat (hr a (by simp))
    obtain ⟨y, rfl, hy⟩ := right_nat (hr b (by simp))
    have := mmux_ok (s := (G, 0)) ⟨h.ok, .inl rfl⟩ hx (neg_lt hy) hy
    exact ⟨this.1, this.2.1⟩)
  unfold doXor
  clear hS b0 b1 hz
  generalize whole G [a, b] _ = R at *
  have H := Lib.hid h; clear h
  go_enter Try.func23, Try.ntmps23
  go_wp2_with fail
  refine HM.mono ?_
  rintro e w' ⟨rfl, hs⟩
  have HS := Lib.hid hs; clear hs
  go_wp2_with fail
  go_ret2
  exact ⟨rfl, HS.out.back hW⟩

set_option maxRecDepth 100000 in
set_option maxHeartbeats 2000000 in
theorem Mux_is {G : Gra} (h : GM w g G nb ncap iv mb) (c a b : Int) (bc : c ≤ 9223372036854775807) (ba : a ≤ 9223372036854775807) (bb : b ≤ 9223372036854775807) :
    Calls Try.prog 24 #[.pointer (some ⟨g, 0, none⟩), .int .i64 c, .int .i64 a, .int .i64 b] w fun e w' => e = .returned (.tuple #[.int .i64 (doMux G c a b).2.1, .int .i64 (doMux G c a b).2.2]) ∧ GTo w g (doMux G c a b).1 (fp g nb mb iv) w' := by
  have hl0 := h.lt
  have hW : Ch [] w ((((w.alloc (.cells #[.int .i64 c] 33)).alloc (.cells #[.int .i64 a] 33)).alloc (.cells #[.int .i64 b] 33)).alloc (.cells #[.int .i64 c, .int .i64 a, .int .i64 b] 33)) := ((((Ch.refl _ _).alloc _).alloc _).alloc _).alloc _
  have hS : Sl ((((w.alloc (.cells #[.int .i64 c] 33)).alloc (.cells #[.int .i64 a] 33)).alloc (.cells #[.int .i64 b] 33)).alloc (.cells #[.int .i64 c, .int .i64 a, .int .i64 b] 33)) (some ⟨w.heap.size + 3, 0, none⟩) [c, a, b] := ⟨fun i x hx => by
    refine ⟨_, _, rfl, ?_⟩
    have hb := blk.new' (w := ((w.alloc (.cells #[.int .i64 c] 33)).alloc (.cells #[.int .i64 a] 33)).alloc (.cells #[.int .i64 b] 33)) (b := w.heap.size + 3) [.int .i64 c, .int .i64 a, .int .i64 b] 33 (by simp)
    refine hb.cell ?_
    match i, hx with
    | 0, hx => simpa using hx
    | 1, hx => simpa using hx
    | 2, hx => simpa using hx, by simp⟩
  have b0 : ((((w.alloc (.cells #[.int .i64 c] 33)).alloc (.cells #[.int .i64 a] 33)).alloc (.cells #[.int .i64 b] 33)).alloc (.cells #[.int .i64 c, .int .i64 a, .int .i64 b] 33)).cell? ⟨w.heap.size + 1, 0, none⟩ = some (.int .i64 a) := by go_simp
  have bz : ((((w.alloc (.cells #[.int .i64 c] 33)).alloc (.cells #[.int .i64 a] 33)).alloc (.cells #[.int .i64 b] 33)).alloc (.cells #[.int .i64 c, .int .i64 a, .int .i64 b] 33)).cell? ⟨w.heap.size, 0, none⟩ = some (.int .i64 c) := by go_simp
  have b1 : ((((w.alloc (.cells #[.int .i64 c] 33)).alloc (.cells #[.int .i64 a] 33)).alloc (.cells #[.int .i64 b] 33)).alloc (.cells #[.int .i64 c, .int .i64 a, .int .i64 b] 33)).cell? ⟨w.heap.size + 2, 0, none⟩ = some (.int .i64 b) := by go_simp
  have hz : ((((w.alloc (.cells #[.int .i64 c] 33)).alloc (.cells #[.int .i64 a] 33)).alloc (.cells #[.int .i64 b] 33)).alloc (.cells #[.int .i64 c, .int .i64 a, .int .i64 b] 33)).heap.size = w.heap.size + 4 := by simp
  have HM := make_is (h.ch hW (by simp)) (a := some ⟨w.heap.size + 3, 0, none⟩) (l := [c, a, b]) 3 hS (by simp [bc, ba, bb]) (fun p hp => by cases hp; simp <;> omega) 52 #[.pointer (some ⟨w.heap.size, 0, none⟩), .pointer (some ⟨w.heap.size + 1, 0, none⟩), .pointer (some ⟨w.heap.size + 2, 0, none⟩)] fnvMux1 (fun s => mmux s c.toNat a.toNat b.toNat) (fun hr W m hm hc hms => by
    obtain ⟨v, rfl, hv⟩ := right_nat (hr c (by simp))
    obtain ⟨x, rfl, hx⟩ := right_nat (hr a (by simp))
    obtain ⟨y, rfl, hy⟩ := right_nat (hr b (by simp))
    exact Mux1_is hms hv hx hy ((hc.cell (by simp <;> omega) (by simp)).trans bz) ((hc.cell (by simp <;> omega) (by simp)).trans b0) ((hc.cell (by simp <;> omega) (by simp)).trans b1)) (fun hr => by
    obtain ⟨v, rfl, hv⟩ := right_nat (hr c (by simp))
    obtain ⟨x, rfl, hx⟩ := right_nat (hr a (by simp))
    obtain ⟨y, rfl, hy⟩ := right_nat (hr b (by simp))
    have := mmux_ok (s := (G, 0)) ⟨h.ok, .inl rfl⟩ hv hx hy
    exact ⟨this.1, this.2.1⟩)
  unfold doMux
  clear hS b0 b1 bz hz
  generalize whole G [c, a, b] _ = R at *
  have H := Lib.hid h; clear h
  go_enter Try.func24, Try.ntmps24
  go_wp2_with fail
  refine HM.mono ?_
  rintro e w' ⟨rfl, hs⟩
  have HS := Lib.hid hs; clear hs
  go_wp2_with fail
  go_ret2
  exact ⟨rfl, HS.out.back hW⟩
end
end Go.Proofs.Ytnajonchjlplmaa
namespace Go.Proofs.Ytnajonchjlplmaa
open Go.RowKit Go.Mem Go.Aig

theorem mall_snoc (s : Mk) (out : Nat) (l : List Nat) (r : Nat) : mall s out (l ++ [r]) = mand (mall s out l).1 (mall s out l).2 r := by
  induction l generalizing s out with
  | nil => rfl
  | cons x l ih => exact ih _ _
theorem take_succ_map {α β : Type} (f : α → β) {l : List α} {k : Nat} {x : α} (h : l[k]? = some x) : (l.map f).take (k + 1) = (l.map f).take k ++ [f x] := by
  rw [List.take_add_one]; simp [h]
section
variable {w : World} {g : Nat} {nb ncap : Nat} {iv : Value} {mb : Nat}
theorem MStep.refl {m : Nat} {s : Mk} (h : MS w g m s nb ncap iv mb) : MStep w g m s nb iv mb nb ncap w := ⟨h, .inl rfl, Ch.refl _ _⟩

set_option maxRecDepth 100000 in
set_option maxHeartbeats 1000000 in
theorem All1_is {m : Nat} {s : Mk} (h : MS w g m s nb ncap iv mb) {a : Option Addr} {l : List Nat} (cap : Nat) (hS : Sl w a (l.map fun (r : Nat) => (r : Int))) (hap : ∀ p, a = some p → p.block < w.heap.size ∧ p.block ∉ [g, nb, mb, m]) (hr : ∀ r ∈ l, r < 2 * s.1.nodes.length) {x : Nat} (bx : w.cell? ⟨x, 0, none⟩ = some (.slice a l.length cap)) :
    Calls Try.prog 46 (#[.pointer (some ⟨m, 0, none⟩)] ++ #[.pointer (some ⟨x, 0, none⟩)]) w fun e w' => e = .returned (.int .i64 ((mall s 1 (l.map id)).2 : Nat)) ∧ ∃ nb' ncap', MStep w g m (mall s 1 (l.map id)).1 nb iv mb nb' ncap' w' := by
  show Calls Try.prog 46 #[.pointer (some ⟨m, 0, none⟩), .pointer (some ⟨x, 0, none⟩)] w _
  have hbd := hS.bd
  rw [List.length_map] at hbd
  have hsz : s.1.nodes.length ≤ 65536 := by have := h.ok.ok.room; have := h.ok.ok.most; omega
  have hpos := h.ok.ok.wf.pos
  have H := Lib.hid h; clear h
  have HS := Lib.hid hS; clear hS
  have HR := Lib.hid hr; clear hr
  have HA := Lib.hid hap; clear hap
  generalize hRF : mall s 1 (l.map id) = RF
  have HRF := Lib.hid hRF; clear hRF
  go_enter Try.func46, Try.ntmps46
  go_wp2_with fail
  go_loopw [4, 9] (fun o i wr => ∃ k : Nat, k ≤ l.length ∧ i = .int .i64 k ∧ o = .int .i64 (mall s 1 ((l.map id).take k)).2 ∧ ∃ nb' ncap', MStep w g m (mall s 1 ((l.map id).take k)).1 nb iv mb nb' ncap' wr) (fun _ i _ => l.length - (intOf i).toNat)
  case atStart => exact ⟨0, Nat.zero_le _, rfl, rfl, nb, ncap, MStep.refl H.out⟩
  case round =>
    obtain ⟨k, hk, rfl, rfl, nb', ncap', hs⟩ := hrel
    have hq : ∀ r ∈ (l.map id).take k, r < 2 * s.1.nodes.length := fun r hr => by
      obtain ⟨y, hy, rfl⟩ := List.mem_map.1 (List.mem_of_mem_take hr)
      exact HR.out y hy
    obtain ⟨ho, hx, hlo⟩ := mall_ok _ H.out.ok (show 1 < 2 * s.1.nodes.length by omega) hq
    have hlo' : (mall s 1 ((l.map id).take k)).2 ≤ 1000000 := by have := ho.ok.room; have := ho.ok.most; omega
    by_cases hlt : k < l.length
    · have hxk : l[k]? = some l[k] := List.getElem?_eq_getElem hlt
      have hm : l[k] ∈ l := List.getElem_mem hlt
      have hkr := HR.out _ hm
      generalize l[k] = y at *
      have hnext : mall s 1 ((l.map id).take (k + 1)) = mand (mall s 1 ((l.map id).take k)).1 (mall s 1 ((l.map id).take k)).2 (y) := by
        rw [take_succ_map _ hxk, mall_snoc]; rfl
      have HNX := Lib.hid hnext; clear hnext
      obtain ⟨b, o, rfl, hc⟩ := HS.out.cells k (y : Int) (by simp [hxk])
      obtain ⟨hab, han⟩ := HA.out _ rfl
      have c1 := (hs.ch.cell (p := ⟨b, o + k, none⟩) hab han).trans hc
      have HM := mand_is hs.ms (a := (mall s 1 ((l.map id).take k)).2) (b := y) hlo (hx.lt (hkr))
      have HS1 := Lib.hid hs; clear hs
      have HO := Lib.hid ho; clear ho
      clear hc han hab hx hlo
      generalize mall s 1 ((l.map id).take k) = R at *
      generalize hMR : mand R.1 R.2 (y) = R2 at *
      clear hMR
      go_wp2_with fail
      refine HM.mono ?_
      rintro e w' ⟨rfl, nb2, ncap2, hs2⟩
      have HS2 := Lib.hid hs2; clear hs2
      go_wp2_with fail
      go_roundw
      case rel =>
        refine ⟨k + 1, by omega, by go_num, by rw [HNX.out], nb2, ncap2, ?_⟩
        rw [HNX.out]
        exact HS1.out.trans HS2.out
      case measure => simp [intOf]; omega
    · have hkl : (l.map id).take k = l.map id := List.take_of_length_le (by simp; omega)
      rw [hkl, HRF.out] at hs hlo'
      rw [hkl, HRF.out]
      have HS1 := Lib.hid hs; clear hs
      clear ho hx hlo hq hkl
      go_wp2_with fail
      go_ret
      exact ⟨rfl, nb', ncap', HS1.out⟩

set_option maxRecDepth 100000 in
set_option maxHeartbeats 1000000 in
theorem Any1_is {m : Nat} {s : Mk} (h : MS w g m s nb ncap iv mb) {a : Option Addr} {l : List Nat} (cap : Nat) (hS : Sl w a (l.map fun (r : Nat) => (r : Int))) (hap : ∀ p, a = some p → p.block < w.heap.size ∧ p.block ∉ [g, nb, mb, m]) (hr : ∀ r ∈ l, r < 2 * s.1.nodes.length) {x : Nat} (bx : w.cell? ⟨x, 0, none⟩ = some (.slice a l.length cap)) :
    Calls Try.prog 53 (#[.pointer (some ⟨m, 0, none⟩)] ++ #[.pointer (some ⟨x, 0, none⟩)]) w fun e w' => e = .returned (.int .i64 (neg (mall s 1 (l.map neg)).2 : Nat)) ∧ ∃ nb' ncap', MStep w g m (mall s 1 (l.map neg)).1 nb iv mb nb' ncap' w' := by
  show Calls Try.prog 53 #[.pointer (some ⟨m, 0, none⟩), .pointer (some ⟨x, 0, none⟩)] w _
  have hbd := hS.bd
  rw [List.length_map] at hbd
  have hsz : s.1.nodes.length ≤ 65536 := by have := h.ok.ok.room; have := h.ok.ok.most; omega
  have hpos := h.ok.ok.wf.pos
  have H := Lib.hid h; clear h
  have HS := Lib.hid hS; clear hS
  have HR := Lib.hid hr; clear hr
  have HA := Lib.hid hap; clear hap
  generalize hRF : mall s 1 (l.map neg) = RF
  have HRF := Lib.hid hRF; clear hRF
  go_enter Try.func53, Try.ntmps53
  go_wp2_with fail
  go_loopw [4, 9] (fun o i wr => ∃ k : Nat, k ≤ l.length ∧ i = .int .i64 k ∧ o = .int .i64 (mall s 1 ((l.map neg).take k)).2 ∧ ∃ nb' ncap', MStep w g m (mall s 1 ((l.map neg).take k)).1 nb iv mb nb' ncap' wr) (fun _ i _ => l.length - (intOf i).toNat)
  case atStart => exact ⟨0, Nat.zero_le _, rfl, rfl, nb, ncap, MStep.refl H.out⟩
  case round =>
    obtain ⟨k, hk, rfl, rfl, nb', ncap', hs⟩ := hrel
    have hq : ∀ r ∈ (l.map neg).take k, r < 2 * s.1.nodes.length := fun r hr => by
      obtain ⟨y, hy, rfl⟩ := List.mem_map.1 (List.mem_of_mem_take hr)
      exact neg_lt (HR.out y hy)
    obtain ⟨ho, hx, hlo⟩ := mall_ok _ H.out.ok (show 1 < 2 * s.1.nodes.length by omega) hq
    have hlo' : (mall s 1 ((l.map neg).take k)).2 ≤ 1000000 := by have := ho.ok.room; have := ho.ok.most; omega
    by_cases hlt : k < l.length
    · have hxk : l[k]? = some l[k] := List.getElem?_eq_getElem hlt
      have hm : l[k] ∈ l := List.getElem_mem hlt
      have hkr := HR.out _ hm
      generalize l[k] = y at *
      have hnext : mall s 1 ((l.map neg).take (k + 1)) = mand (mall s 1 ((l.map neg).take k)).1 (mall s 1 ((l.map neg).take k)).2 (neg y) := by
        rw [take_succ_map _ hxk, mall_snoc]
      have HNX := Lib.hid hnext; clear hnext
      obtain ⟨b, o, rfl, hc⟩ := HS.out.cells k (y : Int) (by simp [hxk])
      obtain ⟨hab, han⟩ := HA.out _ rfl
      have c1 := (hs.ch.cell (p := ⟨b, o + k, none⟩) hab han).trans hc
      have HM := mand_is hs.ms (a := (mall s 1 ((l.map neg).take k)).2) (b := neg y) hlo (hx.lt (neg_lt hkr))
      have HS1 := Lib.hid hs; clear hs
      have HO := Lib.hid ho; clear ho
      clear hc han hab hx hlo
      generalize mall s 1 ((l.map neg).take k) = R at *
      generalize hMR : mand R.1 R.2 (neg y) = R2 at *
      clear hMR
      go_wp2_with fail
      refine (Not_any _ _ (by omega)).mono ?_
      rintro e w' ⟨rfl, rfl⟩
      go_wp2_with fail
      refine HM.mono ?_
      rintro e w' ⟨rfl, nb2, ncap2, hs2⟩
      have HS2 := Lib.hid hs2; clear hs2
      go_wp2_with fail
      go_roundw
      case rel =>
        refine ⟨k + 1, by omega, by go_num, by rw [HNX.out], nb2, ncap2, ?_⟩
        rw [HNX.out]
        exact HS1.out.trans HS2.out
      case measure => simp [intOf]; omega
    · have hkl : (l.map neg).take k = l.map neg := List.take_of_length_le (by simp; omega)
      rw [hkl, HRF.out] at hs hlo'
      rw [hkl, HRF.out]
      have HS1 := Lib.hid hs; clear hs
      clear ho hx hlo hq hkl
      go_wp2_with fail
      refine (Not_any _ _ (by omega)).mono ?_
      rintro e w' ⟨rfl, rfl⟩
      go_wp2_with fail
      go_ret
      exact ⟨rfl, nb', ncap', HS1.out⟩

set_option maxRecDepth 100000 in
set_option maxHeartbeats 2000000 in
theorem All_is {G : Gra} (h : GM w g G nb ncap iv mb) {a : Option Addr} {l : List Int} (cap : Nat) (hS : Sl w a l) (hb : ∀ x ∈ l, x ≤ 9223372036854775807) (hap : ∀ p, a = some p → p.block < w.heap.size ∧ p.block ∉ fp g nb mb iv) :
    Calls Try.prog 21 #[.pointer (some ⟨g, 0, none⟩), .slice a l.length cap] w fun e w' => e = .returned (.tuple #[.int .i64 (doAll G l).2.1, .int .i64 (doAll G l).2.2]) ∧ GTo w g (doAll G l).1 (fp g nb mb iv) w' := by
  have hl0 := h.lt
  have hW : Ch [] w (w.alloc (.cells #[.slice a l.length cap] 25)) := (Ch.refl _ _).alloc _
  have hcar : ∀ {W : World}, Ch [] w W → Sl W a l := fun {W} hc => ⟨fun i x hx => by
    obtain ⟨b, o, rfl, h1⟩ := hS.cells i x hx
    exact ⟨b, o, rfl, (hc.cell (p := ⟨b, o + i, none⟩) (hap _ rfl).1 (by simp)).trans h1⟩, hS.bd⟩
  have b0 : (w.alloc (.cells #[.slice a l.length cap] 25)).cell? ⟨w.heap.size, 0, none⟩ = some (.slice a l.length cap) := by go_simp
  have hnat : (∀ x ∈ l, right G.nodes x = true) → l = (l.map Int.toNat).map (fun (r : Nat) => (r : Int)) ∧ ∀ r ∈ l.map Int.toNat, r < 2 * G.nodes.length := fun hr => by
    refine ⟨?_, fun r hm => ?_⟩
    · rw [List.map_map]
      conv => lhs; rw [← List.map_id l]
      refine List.map_congr_left fun x hx => ?_
      obtain ⟨y, rfl, _⟩ := right_nat (hr x hx)
      simp
    · obtain ⟨x, hx, rfl⟩ := List.mem_map.1 hm
      obtain ⟨y, rfl, hy⟩ := right_nat (hr x hx)
      simpa using hy
  have HM := make_is (h.ch hW (by simp)) (a := a) (l := l) cap (hcar hW) hb (fun p hp => by have := (hap p hp).1; simp; omega) 46 #[.pointer (some ⟨w.heap.size, 0, none⟩)] fnvAll1 (fun s => mall s 1 ((l.map Int.toNat).map id)) (fun hr W m hm hc hms => by
    obtain ⟨hl, hlt⟩ := hnat hr
    have hlen : l.length = (l.map Int.toNat).length := by simp
    have bx := (hc.cell (p := ⟨w.heap.size, 0, none⟩) (by simp) (by simp)).trans b0
    have hSW : Sl W a l := hcar (hW.trans hc (by simp))
    generalize l.map Int.toNat = q at *
    rw [hl] at hSW
    rw [hlen] at bx
    have hz := hc.size
    simp at hz hm
    exact All1_is hms cap hSW (fun p hp => ⟨by have := (hap p hp).1; omega, by
      have h1 := hap p hp
      intro hk
      simp only [fp, List.mem_cons, not_or, List.not_mem_nil, or_false] at h1 hk
      rcases hk with e | e | e | e
      · exact h1.2.1 e
      · exact h1.2.2.1 e
      · exact h1.2.2.2.1 e
      · omega⟩) hlt bx) (fun hr => by
    obtain ⟨hl, hlt⟩ := hnat hr
    have := mall_ok (s := (G, 0)) (out := 1) ((l.map Int.toNat).map id) ⟨h.ok, .inl rfl⟩ (by have := h.ok.wf.pos; show 1 < 2 * G.nodes.length; omega) (fun r hm => by
      obtain ⟨y, hy, rfl⟩ := List.mem_map.1 hm
      exact hlt y hy)
    exact ⟨this.1, this.2.1⟩)
  unfold doAll
  clear hcar b0 hnat
  simp only [List.map_id] at HM
  generalize whole G l _ = R at *
  have H := Lib.hid h; clear h
  have HSS := Lib.hid hS; clear hS
  have HAP := Lib.hid hap; clear hap
  clear hb
  go_enter Try.func21, Try.ntmps21
  go_wp2_with fail
  refine HM.mono ?_
  rintro e w' ⟨rfl, hs⟩
  have HS := Lib.hid hs; clear hs
  go_wp2_with fail
  go_ret2
  exact ⟨rfl, HS.out.back hW⟩

set_option maxRecDepth 100000 in
set_option maxHeartbeats 2000000 in
theorem Any_is {G : Gra} (h : GM w g G nb ncap iv mb) {a : Option Addr} {l : List Int} (cap : Nat) (hS : Sl w a l) (hb : ∀ x ∈ l, x ≤ 9223372036854775807) (hap : ∀ p, a = some p → p.block < w.heap.size ∧ p.block ∉ fp g nb mb iv) :
    Calls Try.prog 25 #[.pointer (some ⟨g, 0, none⟩), .slice a l.length cap] w fun e w' => e = .returned (.tuple #[.int .i64 (doAny G l).2.1, .int .i64 (doAny G l).2.2]) ∧ GTo w g (doAny G l).1 (fp g nb mb iv) w' := by
  have hl0 := h.lt
  have hW : Ch [] w (w.alloc (.cells #[.slice a l.length cap] 25)) := (Ch.refl _ _).alloc _
  have hcar : ∀ {W : World}, Ch [] w W → Sl W a l := fun {W} hc => ⟨fun i x hx => by
    obtain ⟨b, o, rfl, h1⟩ := hS.cells i x hx
    exact ⟨b, o, rfl, (hc.cell (p := ⟨b, o + i, none⟩) (hap _ rfl).1 (by simp)).trans h1⟩, hS.bd⟩
  have b0 : (w.alloc (.cells #[.slice a l.length cap] 25)).cell? ⟨w.heap.size, 0, none⟩ = some (.slice a l.length cap) := by go_simp
  have hnat : (∀ x ∈ l, right G.nodes x = true) → l = (l.map Int.toNat).map (fun (r : Nat) => (r : Int)) ∧ ∀ r ∈ l.map Int.toNat, r < 2 * G.nodes.length := fun hr => by
    refine ⟨?_, fun r hm => ?_⟩
    · rw [List.map_map]
      conv => lhs; rw [← List.map_id l]
      refine List.map_congr_left fun x hx => ?_
      obtain ⟨y, rfl, _⟩ := right_nat (hr x hx)
      simp
    · obtain ⟨x, hx, rfl⟩ := List.mem_map.1 hm
      obtain ⟨y, rfl, hy⟩ := right_nat (hr x hx)
      simpa using hy
  have HM := make_is (h.ch hW (by simp)) (a := a) (l := l) cap (hcar hW) hb (fun p hp => by have := (hap p hp).1; simp; omega) 53 #[.pointer (some ⟨w.heap.size, 0, none⟩)] fnvAny1 (fun s => many s (l.map Int.toNat)) (fun hr W m hm hc hms => by
    obtain ⟨hl, hlt⟩ := hnat hr
    have hlen : l.length = (l.map Int.toNat).length := by simp
    have bx := (hc.cell (p := ⟨w.heap.size, 0, none⟩) (by simp) (by simp)).trans b0
    have hSW : Sl W a l := hcar (hW.trans hc (by simp))
    generalize l.map Int.toNat = q at *
    rw [hl] at hSW
    rw [hlen] at bx
    have hz := hc.size
    simp at hz hm
    exact Any1_is hms cap hSW (fun p hp => ⟨by have := (hap p hp).1; omega, by
      have h1 := hap p hp
      intro hk
      simp only [fp, List.mem_cons, not_or, List.not_mem_nil, or_false] at h1 hk
      rcases hk with e | e | e | e
      · exact h1.2.1 e
      · exact h1.2.2.1 e
      · exact h1.2.2.2.1 e
      · omega⟩) hlt bx) (fun hr => by
    obtain ⟨hl, hlt⟩ := hnat hr
    have := mall_ok (s := (G, 0)) (out := 1) ((l.map Int.toNat).map neg) ⟨h.ok, .inl rfl⟩ (by have := h.ok.wf.pos; show 1 < 2 * G.nodes.length; omega) (fun r hm => by
      obtain ⟨y, hy, rfl⟩ := List.mem_map.1 hm
      exact neg_lt (hlt y hy))
    exact ⟨this.1, this.2.1⟩)
  unfold doAny
  clear hcar b0 hnat
  generalize whole G l _ = R at *
  have H := Lib.hid h; clear h
  have HSS := Lib.hid hS; clear hS
  have HAP := Lib.hid hap; clear hap
  clear hb
  go_enter Try.func25, Try.ntmps25
  go_wp2_with fail
  refine HM.mono ?_
  rintro e w' ⟨rfl, hs⟩
  have HS := Lib.hid hs; clear hs
  go_wp2_with fail
  go_ret2
  exact ⟨rfl, HS.out.back hW⟩
end
end Go.Proofs.Ytnajonchjlplmaa
namespace Go.Proofs.Ytnajonchjlplmaa
open Go.RowKit Go.Mem Go.Aig

theorem inputsFrom_input (x : Nd) (hk : x.k = 2) : ∀ (ns : List Nd) (n : Nat), inputsFrom (ns ++ [x]) n = inputsFrom ns n ++ [2 * (n + ns.length)]
  | [], n => by simp [inputsFrom, hk]
  | y :: ns, n => by
    have e : 2 * (n + 1 + ns.length) = 2 * (n + (ns.length + 1)) := by omega
    simp only [List.cons_append, inputsFrom, inputsFrom_input x hk ns, List.length_cons, e]
    split <;> simp
theorem inputs_input {ns : List Nd} {x : Nd} (hk : x.k = 2) : inputs (ns ++ [x]) = inputs ns ++ [2 * ns.length] := by
  have := inputsFrom_input x hk ns 0
  simpa [inputs] using this
def doInput (G : Gra) : Res := put G ⟨2, 0, 0, 0⟩
theorem inputsFrom_le : ∀ (ns : List Nd) (n : Nat), (inputsFrom ns n).length ≤ ns.length
  | [], n => by simp [inputsFrom]
  | x :: ns, n => by
    have := inputsFrom_le ns (n + 1)
    unfold inputsFrom
    split <;> simp <;> omega
theorem inputs_le (ns : List Nd) : (inputs ns).length ≤ ns.length := inputsFrom_le ns 0
section
variable {w : World} {g : Nat} {G : Gra} {nb ncap : Nat} {iv : Value} {mb : Nat}

set_option maxRecDepth 100000 in
set_option maxHeartbeats 2000000 in
theorem Input_is (h : GM w g G nb ncap iv mb) :
    Calls Try.prog 39 #[.pointer (some ⟨g, 0, none⟩)] w fun e w' => e = .returned (.tuple #[.int .i64 (doInput G).2.1, .int .i64 (doInput G).2.2]) ∧ GTo w g (doInput G).1 (fp g nb mb iv) w' := by
  have HN := none_no h
  have hil := inputs_le G.nodes
  unfold doInput put
  by_cases hf : G.most ≤ G.nodes.length
  · rw [if_pos hf]
    have HP := put_no_of h 2 0 0 0 ⟨2, 0, 0, 0⟩ rfl rfl rfl rfl hf
    have H := Lib.hid h; clear h
    clear hf hil
    go_enter Try.func39, Try.ntmps39
    go_wp2_with fail
    refine HN.mono ?_
    rintro e w' ⟨rfl, rfl⟩
    go_wp2_with fail
    refine HP.mono ?_
    rintro e w1 ⟨rfl, hc⟩
    have HC := Lib.hid hc; clear hc
    go_wp2_with fail
    go_ret2
    exact ⟨rfl, GTo.same ⟨_, _, _, _, H.out, rfl⟩ HC.out⟩
  · rw [if_neg hf]
    have HP := put_yes_of h 2 0 0 0 ⟨2, 0, 0, 0⟩ rfl rfl rfl rfl (by omega)
    have hm := h.ok.most
    have H := Lib.hid h; clear h
    have hlb : G.nodes.length < 65536 := by omega
    have HF := Lib.hid hf; clear hf
    go_enter Try.func39, Try.ntmps39
    go_wp2_with fail
    refine HN.mono ?_
    rintro e w' ⟨rfl, rfl⟩
    go_wp2_with fail
    refine HP.mono ?_
    rintro e w1 ⟨rfl, nb', ncap', hs⟩
    have s3 : w1.cell? ⟨g, 3, none⟩ = some iv := hs.st.cell rfl
    have f3 : w1.frozen? ⟨g, 3, none⟩ = false := hs.st.frozen
    have hg1 : g < w1.heap.size := hs.st.lt
    have hch1 : Ch [g, nb] w w1 := hs.ch
    have hsz1 := hch1.size
    have hl0 := H.out.lt
    have hWA : Ch [] w1 (w1.alloc (.cells #[.int .i64 (2 * (G.nodes.length : Int))] 33)) := (Ch.refl _ _).alloc _
    have hI : row (w1.alloc (.cells #[.int .i64 (2 * (G.nodes.length : Int))] 33)) 33 1 iv (inputs G.nodes).length (refsCells (inputs G.nodes)) := by
      refine (H.out.ins.ch hch1 (fun k hk => ?_)).ch hWA (by simp)
      have h1 := H.out.gi; have h2 := H.out.ni
      simp only [List.mem_cons, List.not_mem_nil, or_false, not_or]
      exact ⟨by rintro rfl; exact h1 hk, by rintro rfl; exact h2 hk⟩
    have hB : blk (w1.alloc (.cells #[.int .i64 (2 * (G.nodes.length : Int))] 33)) w1.heap.size [.int .i64 (2 * (G.nodes.length : Int))] := blk.new _ _ _
    have HI := Lib.hid hI; clear hI
    have HB := Lib.hid hB; clear hB
    have HS := Lib.hid hs; clear hs
    have HWA := Lib.hid hWA; clear hWA
    have HC1 := Lib.hid hch1; clear hch1
    go_wp2_with (at_builtin; go_loud (refine wpList_append_row slRefs rfl _ _ rfl (v := iv) (n := (inputs G.nodes).length) (xs := refsCells (inputs G.nodes)) rfl HI.out (ad := ⟨w1.heap.size, 0, none⟩) (m := 1) (c := 1) (news := [.int .i64 (2 * (G.nodes.length : Int))]) rfl rfl (news_blk HB.out) (by simp [Value.oneCell']) (by omega) (by omega) ?_; intro v' w2 hown hC2 hfresh; obtain ⟨ib, icap, hv⟩ := row.parts hown (by omega); have k3 : w2.cell? ⟨g, 3, none⟩ = some iv := (hC2.cell (p := ⟨g, 3, none⟩) (by simp; omega) (by have := H.out.gi; simpa [eq_comm] using this)).trans (by go_simp); have k3f : w2.frozen? ⟨g, 3, none⟩ = false := (hC2.frozen (p := ⟨g, 3, none⟩) (by simp; omega) (by have := H.out.gi; simpa [eq_comm] using this)).trans (by go_simp); have HOWN := Lib.hid hown; clear hown; have HC2 := Lib.hid hC2; clear hC2; have HFR := Lib.hid hfresh; clear hfresh; have HV := Lib.hid hv; rw [hv]; clear hv))
    go_ret2
    have hz2 := HC2.out.size
    simp at hz2
    have hown := HOWN.out
    rw [HV.out] at hown
    have hfr : ib < w1.heap.size → iv.ownBlock = some ib := fun hlt => by
      rcases HFR.out ib (by rw [HV.out]; rfl) with e | e
      · exact e
      · simp at e; omega
    have hgi := H.out.gi
    have hni := H.out.ni
    have hmi := H.out.mi
    have hivl := H.out.lt.2.2.2
    have hm1 : mb < w1.heap.size := by omega
    have hnb' : nb' < w1.heap.size := (HS.out.nodes.lt nb' rfl).2
    have e1 : ib ≠ g := fun e => by subst e; exact hgi (hfr hg1)
    have e2 : ib ≠ mb := fun e => by subst e; exact hmi (hfr hm1)
    have e3 : ib ≠ nb' := fun e => by
      subst e
      have := hfr hnb'
      rcases HS.out.fresh with e | e
      · exact hni (e ▸ this)
      · have := hivl _ this; omega
    have hgn : g ≠ nb' := by
      rcases HS.out.fresh with e | e
      · rw [e]; exact H.out.gn
      · omega
    have hmn : mb ≠ nb' := by
      rcases HS.out.fresh with e | e
      · rw [e]; exact H.out.mn
      · omega
    have hgiv : g ∉ iv.ownBlock.toList := by simpa [eq_comm] using hgi
    have hmiv : mb ∉ iv.ownBlock.toList := by simpa [eq_comm] using hmi
    have hniv : nb' ∉ iv.ownBlock.toList := by
      simp only [Option.mem_toList]
      intro hk
      rcases HS.out.fresh with e | e
      · exact hni (e ▸ hk)
      · have := hivl _ hk; omega
    have hCall : Ch iv.ownBlock.toList w1 w2 := (HWA.out.mono (by simp)).trans HC2.out (fun k hk => .inl hk)
    have hIS := inputs_input (ns := G.nodes) (x := ⟨2, 0, 0, 0⟩) rfl
    have hset : Ch [g] w2 (w2.setCell ⟨g, 3, none⟩ (.slice (some ⟨ib, 0, none⟩) ((inputs G.nodes).length + 1) icap)) := (Ch.refl _ _).setCell (by simp) _
    refine ⟨ret_ii (by simp) rfl, GTo.of (nb' := nb') (ncap' := ncap') (iv' := .slice (some ⟨ib, 0, none⟩) ((inputs G.nodes).length + 1) icap) ?_ ?_ HS.out.fresh ?_⟩
    · refine ⟨?_, ?_, ?_, ?_, H.out.gm, hgn, hmn, ?_, ?_, ?_, ?_⟩
      · have := (HS.out.st.ch hCall hgiv).set (i := 3) (.slice (some ⟨ib, 0, none⟩) ((inputs G.nodes).length + 1) icap)
        simpa using this
      · have := (HS.out.nodes.ch hCall (fun k hk => by cases hk; exact hniv)).ch hset (fun k hk => by cases hk; simp [hgn.symm])
        simpa using this
      · obtain ⟨es, clock, h1, h2⟩ := H.out.mp
        refine ⟨es, clock, ?_, h2.other (by simp)⟩
        have g1 := HC1.out.block mb (by omega) (by simp [H.out.gm.symm, H.out.mn])
        have g2 := hCall.block mb hm1 hmiv
        have g3 := hset.block mb (by omega) (by simp [H.out.gm.symm])
        exact g3.trans (g2.trans (g1.trans h1))
      · show row _ _ 1 _ (inputs (G.nodes ++ [⟨2, 0, 0, 0⟩])).length (refsCells (inputs (G.nodes ++ [⟨2, 0, 0, 0⟩])))
        rw [hIS]
        have := hown.ch hset (fun k hk => by cases hk; simp [e1])
        simpa [refsCells] using this
      · simp [Value.ownBlock, e1]
      · simp [Value.ownBlock, e3]
      · simp [Value.ownBlock, e2]
      · exact ⟨H.out.ok.wf.input, by have := HF.out; simp; omega, H.out.ok.most⟩
    · refine ((HC1.out.mono (F' := fp g nb mb iv) ?_).trans ((hCall.mono (F' := g :: iv.ownBlock.toList) (fun k hk => .inl (by simp at hk ⊢; simp [hk]))).trans hset (fun k hk => .inl (by simp at hk ⊢; simp [hk]))) ?_)
      · intro k hk; left; simp [fp] at hk ⊢; rcases hk with e | e <;> simp [e]
      · intro k hk; left; simp [fp] at hk ⊢; rcases hk with e | e <;> simp [e]
    · intro k hk
      simp only [Value.ownBlock, Option.some.injEq] at hk
      subst hk
      rcases HFR.out ib (by rw [HV.out]; rfl) with e | e
      · exact .inl e
      · simp at e; exact .inr (by omega)
end
end Go.Proofs.Ytnajonchjlplmaa
namespace Go.Proofs.Ytnajonchjlplmaa
open Go.RowKit Go.Mem Go.Aig

def newG (n : Nat) : Gra := ⟨n, [⟨1, 0, 0, 0⟩]⟩
theorem newG_ok {n : Nat} (h1 : 1 ≤ n) (h2 : n ≤ 65536) : Ok (newG n) := by
  refine ⟨?_, by simpa [newG] using h1, h2⟩
  have key : ∀ (m : Nat) (x : Nd), (newG n).nodes[m]? = some x → m = 0 ∧ x = ⟨1, 0, 0, 0⟩ := fun m x h => by
    have := (List.getElem?_eq_some_iff.1 h).1
    have h0 : m = 0 := by simp [newG] at this; omega
    subst h0
    simp [newG] at h
    exact ⟨rfl, h.symm⟩
  refine ⟨rfl, fun m x h hm => ?_, fun m k x y hx hy _ _ _ _ => ?_, fun m x h => ?_⟩
  · have := key m x h; omega
  · rw [(key m x hx).1, (key k y hy).1]
  · obtain ⟨rfl, rfl⟩ := key m x h; exact Nat.le_refl _
section
variable {w : World}
set_option maxRecDepth 100000 in
set_option maxHeartbeats 1000000 in
theorem New_no (n : Int) (h : n < 1 ∨ 65536 < n) :
    Calls Try.prog 30 #[.int .i64 n] w fun e w' => e = .returned (.tuple #[.pointer none, .int .i64 2]) ∧ w = w' := by
  rcases h with h | h
  · have h1 : decide (n < 1) = true := decide_eq_true h
    go_enter Try.func30, Try.ntmps30
    go_wp2_with fail
    go_ret2
    exact ⟨rfl, rfl⟩
  · have h1 : decide (n < 1) = false := decide_eq_false (by omega)
    have h2 : decide (65536 < n) = true := decide_eq_true h
    go_enter Try.func30, Try.ntmps30
    go_wp2_with fail
    go_ret2
    exact ⟨rfl, rfl⟩

set_option maxRecDepth 100000 in
set_option maxHeartbeats 1000000 in
theorem New_yes (n : Nat) (h1 : 1 ≤ n) (h2 : n ≤ 65536) :
    Calls Try.prog 30 #[.int .i64 n] w fun e w' => ∃ g F, e = .returned (.tuple #[.pointer (some ⟨g, 0, none⟩), .int .i64 0]) ∧ GIn w' g (newG n) F ∧ (∀ k ∈ F, w.heap.size ≤ k) ∧ Ch [] w w' := by
  have d1 : decide ((n : Int) < 1) = false := decide_eq_false (by omega)
  have d2 : decide ((65536 : Int) < n) = false := decide_eq_false (by omega)
  have hmm := @run_makeMap Try.prog
  go_enter Try.func30, Try.ntmps30
  go_wp2_with fail
  go_ret2

  have c1 : Ch [] w (w.alloc (.cells #[.int .u8 1, .int .i64 0, .int .i64 0, .int .i64 0] 90)) := (Ch.refl _ _).alloc _
  have c2 := c1.alloc (.map #[] 0)
  have c3 := c2.alloc (.cells #[.int .i64 n, .slice (some ⟨w.heap.size, 0, none⟩) 1 1, .map (some (w.heap.size + 1)), .slice none 0 0] 86)
  have k2 : Ch [] (w.alloc (.cells #[.int .u8 1, .int .i64 0, .int .i64 0, .int .i64 0] 90)) _ := ((Ch.refl [] _).alloc (.map #[] 0)).alloc (.cells #[.int .i64 n, .slice (some ⟨w.heap.size, 0, none⟩) 1 1, .map (some (w.heap.size + 1)), .slice none 0 0] 86)
  refine ⟨w.heap.size + 2, fp (w.heap.size + 2) w.heap.size (w.heap.size + 1) (.slice none 0 0), rfl, ⟨w.heap.size, 1, .slice none 0 0, w.heap.size + 1, ?_, rfl⟩, by simp [fp], c3⟩
  refine ⟨blk.new' _ _ (by simp), ⟨rfl, .inr ⟨w.heap.size, 1, _, rfl, by omega, (k2.block _ (by simp) (by simp)).trans (heap_alloc_new w _), by simp [newG], by unfold maxLen; omega, rfl, rfl⟩⟩, ⟨#[], 0, (((Ch.refl [] _).alloc _).block _ (by simp) (by simp)).trans (by have := heap_alloc_new (w.alloc (.cells #[.int .u8 1, .int .i64 0, .int .i64 0, .int .i64 0] 90)) (.map #[] 0); simpa using this), ?_⟩, ⟨rfl, .inl ⟨rfl, rfl⟩⟩, by omega, by omega, by omega, by simp, by simp, by simp, newG_ok h1 h2⟩
  refine ⟨by simp, fun m x hx hk => ?_, by simp⟩
  have h1 := (List.getElem?_eq_some_iff.1 hx).1
  have h0 : m = 0 := by simp [newG] at h1; omega
  subst h0
  simp [newG] at hx
  subst hx
  simp at hk
end
end Go.Proofs.Ytnajonchjlplmaa
namespace Go.Proofs.Ytnajonchjlplmaa
open Go.RowKit Go.Mem Go.Aig
theorem eqSliceNil (w : World) (a : Option Addr) (n c : Nat) : (binOp .eql 25 (.slice a n c) (.slice none 0 0)).run Try.prog w = .ok (.bool a.isNone) w := by
  have h : Try.prog.underlying 25 = some (.slice 33) := Try.underlying25
  simp only [binOp]
  simp [run_equal_slice_nil w _ _ a n c h]
attribute [go_sem] eqSliceNil
section
variable {w : World}
set_option maxRecDepth 100000 in
set_option maxHeartbeats 1000000 in
theorem Clref_none :
    Calls Try.prog 63 #[.slice none 0 0] w fun e w' => e = .returned (.slice none 0 0) ∧ w = w' := by
  go_enter Try.func63, Try.ntmps63
  go_wp2_with fail
  go_ret
  exact ⟨rfl, rfl⟩
set_option maxRecDepth 100000 in
set_option maxHeartbeats 1000000 in
theorem Clref_some {b n cap : Nat} {xs : List Value} (hl : xs.length = n) (hbl : b < w.heap.size) (hx : ∀ i v, xs[i]? = some v → w.cell? ⟨b, i, none⟩ = some v) (h1 : ∀ u ∈ xs, u.oneCell' = true) (hn : n ≤ 1000000) :
    Calls Try.prog 63 #[.slice (some ⟨b, 0, none⟩) n cap] w fun e w' => ∃ v, e = .returned v ∧ row w' 33 1 v n xs ∧ (∀ k, v.ownBlock = some k → w.heap.size ≤ k) ∧ Ch [] w w' := by
  have hO : row (w.alloc (.cells #[] 33)) 33 1 (.slice (some ⟨w.heap.size, 0, none⟩) 0 0) 0 [] := ⟨rfl, .inr ⟨w.heap.size, 0, #[], rfl, by omega, heap_alloc_new w _, by omega, by unfold maxLen; omega, rfl, rfl⟩⟩
  have hN : ∀ j u, xs[j]? = some u → (w.alloc (.cells #[] 33)).cell? ((⟨b, 0, none⟩ : Addr).add j) = some u := fun j u hu => by
    rw [Addr.add_lit]
    exact (((Ch.refl [] w).alloc _).cell (by simpa using hbl) (by simp)).trans (by simpa using hx j u hu)
  have HO := Lib.hid hO; clear hO
  have HN := Lib.hid hN; clear hN hx
  go_enter Try.func63, Try.ntmps63
  go_wp2_with (at_builtin; go_loud (refine wpList_append_row slRefs rfl _ _ rfl (v := .slice (some ⟨w.heap.size, 0, none⟩) 0 0) (n := 0) (xs := []) rfl HO.out (ad := ⟨b, 0, none⟩) (m := n) (c := cap) (news := xs) rfl (by omega) HN.out h1 (by omega) (by omega) ?_; intro v' w2 hown hC2 hfresh; have HOWN := Lib.hid hown; clear hown; have HC2 := Lib.hid hC2; clear hC2; have HFR := Lib.hid hfresh; clear hfresh))
  go_ret
  have hown := HOWN.out
  rw [Nat.zero_add, List.nil_append] at hown
  refine ⟨_, rfl, hown, fun k hk => ?_, (((Ch.refl [] w).alloc (.cells #[] 33))).trans HC2.out (by simp)⟩
  rcases HFR.out k hk with e | e
  · simp at e; omega
  · simp at e; omega

variable {g : Nat} {G : Gra} {nb ncap : Nat} {iv : Value} {mb : Nat}
theorem cells_of_nats (l : List Nat) : ∀ u ∈ refsCells l, u.oneCell' = true := by
  intro u hu
  obtain ⟨r, _, rfl⟩ := List.mem_map.1 hu
  rfl
set_option maxRecDepth 100000 in
set_option maxHeartbeats 1000000 in
theorem Inputs_is (h : GM w g G nb ncap iv mb) :
    Calls Try.prog 33 #[.pointer (some ⟨g, 0, none⟩)] w fun e w' => ∃ v, e = .returned v ∧ row w' 33 1 v (inputs G.nodes).length (refsCells (inputs G.nodes)) ∧ (∀ k, v.ownBlock = some k → w.heap.size ≤ k) ∧ Ch [] w w' := by
  have HN := none_no h
  have ⟨c0, c1, c2, c3⟩ := h.c
  have hil := inputs_le G.nodes
  have hr := h.ok.room
  have hm := h.ok.most
  have HC : Calls Try.prog 63 #[iv] w fun e w' => ∃ v, e = .returned v ∧ row w' 33 1 v (inputs G.nodes).length (refsCells (inputs G.nodes)) ∧ (∀ k, v.ownBlock = some k → w.heap.size ≤ k) ∧ Ch [] w w' := by
    rcases h.ins.2 with ⟨rfl, h0⟩ | ⟨b, cap, cur, rfl, _, hg, _⟩
    · refine Clref_none.mono ?_
      rintro e w' ⟨rfl, rfl⟩
      exact ⟨_, rfl, h.ins, by simp, Ch.refl _ _⟩
    · refine Clref_some (by simp [refsCells]) (Array.getElem?_eq_some_iff.1 hg).1 (fun i v hv => ?_) (cells_of_nats _) (by omega)
      have := h.ins.cells (g := b) rfl i v hv
      rw [Addr.add_lit] at this
      simpa using this
  clear h hil hr hm
  go_enter Try.func33, Try.ntmps33
  go_wp2_with fail
  refine HN.mono ?_
  rintro e w' ⟨rfl, rfl⟩
  go_wp2_with fail
  refine HC.mono ?_
  rintro e w' ⟨v, rfl, h1, h2, h3⟩
  have H1 := Lib.hid h1; clear h1
  have H2 := Lib.hid h2; clear h2
  have H3 := Lib.hid h3; clear h3
  go_wp2_with fail
  go_ret
  exact ⟨_, rfl, H1.out, H2.out, H3.out⟩
end
end Go.Proofs.Ytnajonchjlplmaa
