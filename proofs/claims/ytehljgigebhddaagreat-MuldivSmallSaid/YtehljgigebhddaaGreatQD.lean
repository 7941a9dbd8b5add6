/-
  Walks over check and must of muldiv. Conditions: a graph in memory, words of any integers.
  Walks over build of muldiv: something is made as a whole, or it stops and the graph is as it was.
  Walk over made of chapter 23's law: what each operation makes of two words. Conditions: a graph in memory, words that are held.
  New words that are changed, or grown, before they are held. Conditions: none beyond the hypotheses.
  Walks over shifted of shifts: a word shifted by a number up to its width. Conditions: a word that can be read.
  Plain: one bit of a shift (a choice, bit by bit), shifts by a word; and append at a row inside a round of a range over a function. Conditions: none beyond the hypotheses.
  Products and quotients, plainly: one step after the other, until one fails. No program in sight. Conditions: none beyond the hypotheses.
  Walk over product of muldiv. Conditions: a graph in memory, two words of its references, of the same width.
  Walk over choose of muxes' maker: word by guard. Conditions: a maker in memory, a guard and two words of its graph.
  Walks over fit and is of muxes. Conditions: a maker in memory, a word of its graph.
  Sums, differences and comparisons of two words of one width, as parts of a product and of a quotient. Conditions: a graph in memory, words of its references.
  Walk over product of muldiv. Conditions: a graph in memory, two words of its references, of the same width.
  Walks over Mul of muldiv. Conditions: a graph in memory, two words of any integers.
  A range over a function whose iterator works on memory between its yields, and may panic there: the caller's law. The body goes on always.
  A range over a function whose BODY may panic, and so the iterator: the law for a function that is known (its frames' function has an entry in the program). The iterator works on memory.
  Walks over fitting of muxes: the iterator that makes whether a word is a number, number by number. Conditions: a maker in memory, a word of its graph.
  Walk over Read's closure of muxes. Conditions: a maker in memory, an array of words of its graph, an index.
  Walk over slices.Backward of references. Conditions: a slice that can be read.
  A list that is turned round by swaps, plainly. No program in sight. Conditions: none.
  Slices of references: the other way round, in memory, and backward by a function that yields, where what is yielded to works on memory. Conditions: a slice that can be read.
  The quotient and the rest of two words, plainly: one bit after the other, until a step fails. No program in sight. Conditions: none beyond the hypotheses.
  What is known while the quotient is made: the graph, one's own words, and what the loop outside keeps. Conditions: none beyond the hypotheses.
  Drawn regions in a round of a range over a function, where an effect may panic. Conditions: no defer in the region.
  A region in the text's order, in a round of a range over a function, under the widest fence: from the plain walk. Conditions: no defer in it.
  Walks over steps of muldiv and its iterator: the bits of a quotient. Conditions: a graph in memory, two words of its references, of the same width.
  Walk over the closure of Both of muldiv: the loop over the bits of the quotient. Conditions: a graph in memory, two words of its references, of the same width.
  Walks over Both, Div, Rem of muldiv. Conditions: a graph in memory, two words of any integers.
  Walks over Div, Rem, Square, Times of muldiv; all of them as steps of a law's walk. Conditions: a graph in memory, words of any integers.
-/
import Derived.Test.YtehljgigebhddaaGreatQC
import Derived.Recover
import Derived.OwnWalkIn
import Derived.RangeFuncLeaves
import Derived.TacticsIn
namespace Go.Aig
def bad24 (n0 : Nat) (x : List Int) : Bool := decide (x.length < 1) || (decide (16 < x.length) || decide (x.length ≠ n0))
/-- what check of muldiv finds wrong -/
def chk24 (G : Gra) (ws : List (List Int)) : Nat :=
  if ws.any (bad24 (ws.headD []).length) then 240 else if ws.any (badIn G) then 200 else 0
end Go.Aig
namespace Go.Proofs.YtehljgigebhddaaGreat
open Go.RowKit Go.Mem Go.Aig
/-- the value with which muldiv stops -/
def stopV (er : Nat) : Value := .iface 348 (.agg #[.int .i64 er])
section
variable {w : World} {g : Nat} {G : Gra} {F : List Nat}
theorem fnvmdcheck1 : Fnv 289 := fnv_of Tryz.func289 (by simp [Tryz.f289]) (by simp [Tryz.f289])
set_option maxRecDepth 100000 in
set_option maxHeartbeats 1000000 in
theorem mdcheck1_is (h : GIn w g G F) {bx : Nat} (hb : w.cell? ⟨bx, 0, none⟩ = some (.pointer (some ⟨g, 0, none⟩))) (r : Int) (hr : r ≤ 9223372036854775807) :
    Calls Tryz.prog 289 (#[.int .i64 r] ++ #[.pointer (some ⟨bx, 0, none⟩)]) w fun e w' => e = .returned (.bool (!right G.nodes r)) ∧ w = w' := by
  show Calls Tryz.prog 289 #[.int .i64 r, .pointer (some ⟨bx, 0, none⟩)] w _
  have HR := Right_g h r hr
  clear h
  generalize right G.nodes r = q at *
  go_enter Tryz.func289, Tryz.ntmps289
  go_wp2_with fail
  refine HR.mono ?_
  rintro e w' ⟨rfl, rfl⟩
  go_wp2_with fail
  go_ret
  exact ⟨ret_bool rfl, rfl⟩
set_option maxRecDepth 100000 in
set_option maxHeartbeats 4000000 in
theorem mdcheck_is (h : GIn w g G F) {b : Nat} {ws : List WV} (n c : Nat) (hn : ws.length = n) (hn0 : n ≤ 2) (hc : ∀ i x, ws[i]? = some x → w.cell? ⟨b, i, none⟩ = some x.val) (hS : ∀ x ∈ ws, WVok w x) :
    Calls Tryz.prog 207 #[.pointer (some ⟨g, 0, none⟩), .slice (some ⟨b, 0, none⟩) n c] w fun e w' => e = .returned (.int .i64 (chk24 G (ws.map WV.l))) ∧ Ch [] w w' := by
  subst hn
  have hW1 : Ch [] w (w.alloc (.cells #[.pointer (some ⟨g, 0, none⟩)] 42)) := (Ch.refl _ _).alloc _
  have H1 := h.same hW1 (by simp)
  have HL := Len_g H1
  have b1 : (w.alloc (.cells #[.pointer (some ⟨g, 0, none⟩)] 42)).cell? ⟨w.heap.size, 0, none⟩ = some (.pointer (some ⟨g, 0, none⟩)) := by go_simp
  have hpos := h.ok.wf.pos
  have HCF : ∀ x ∈ ws, Calls Tryz.prog 40 #[.slice x.a x.l.length x.c, .func (.func 289) #[] #[.pointer (some ⟨w.heap.size, 0, none⟩)]] (w.alloc (.cells #[.pointer (some ⟨g, 0, none⟩)] 42)) fun e w' => e = .returned (.bool (badIn G x.l)) ∧ (w.alloc (.cells #[.pointer (some ⟨g, 0, none⟩)] 42)) = w' := fun x hx =>
    CFref_is x.c 289 #[.pointer (some ⟨w.heap.size, 0, none⟩)] (fun r => !right G.nodes r) ((hS x hx).ch hW1 (by simp)).sl (fun r hr => mdcheck1_is H1 b1 r ((hS x hx).bd r hr).2) fnvmdcheck1
  have hcc : ∀ i x, ws[i]? = some x → (w.alloc (.cells #[.pointer (some ⟨g, 0, none⟩)] 42)).cell? ⟨b, i, none⟩ = some (.slice x.a x.l.length x.c) := fun i x hx => (hW1.cell (p := ⟨b, i, none⟩) (cell_lt (hc i x hx)) (by simp)).trans (hc i x hx)
  have hlen : ∀ x ∈ ws, x.l.length ≤ 1000000 := fun x hx => (hS x hx).len
  have hroom := h.ok.room
  have hmost := h.ok.most
  have hp0 : ((G.nodes.length : Int) == 0) = false := beqN (by omega)
  have HCC := Lib.hid hcc; clear hcc
  have HCF := Lib.hid HCF
  clear hc hS h H1 b1
  generalize hWC : chk24 G (ws.map WV.l) = WC
  have HWC := Lib.hid hWC; clear hWC
  have HW1 := Lib.hid hW1; clear hW1
  have HLEN := Lib.hid hlen; clear hlen
  go_enter Tryz.func207, Tryz.ntmps207
  go_wp2_with fail
  refine HL.mono ?_
  rintro e w' ⟨rfl, rfl⟩
  go_wp2_with fail
  go_loopw [14] (fun i wr => ∃ k : Nat, k ≤ ws.length ∧ i = .int .i64 k ∧ wr = w.alloc (.cells #[.pointer (some ⟨g, 0, none⟩)] 42) ∧ ((ws.map WV.l).take k).any (bad24 ((ws.map WV.l).headD []).length) = false) (fun i _ => ws.length - (intOf i).toNat)
  case atStart => exact ⟨0, by omega, rfl, rfl, rfl⟩
  case round =>
    obtain ⟨k, hk, rfl, rfl, hno⟩ := hrel
    by_cases hlt : k < ws.length
    · obtain ⟨x, hx⟩ : ∃ x, ws[k]? = some x := ⟨_, List.getElem?_eq_getElem hlt⟩
      obtain ⟨x0, hx0⟩ : ∃ x0, ws[0]? = some x0 := ⟨_, List.getElem?_eq_getElem (by omega)⟩
      have c0 := HCC.out 0 x0 hx0
      have c1 := HCC.out k x hx
      have hh0 : ((ws.map WV.l).headD []).length = x0.l.length := by
        cases ws with
        | nil => cases hx0
        | cons y ws => simp at hx0; subst hx0; rfl
      have hxm : (ws.map WV.l)[k]? = some x.l := by simp [hx]
      have hxl := HLEN.out x (List.mem_of_getElem? hx)
      have hx0l := HLEN.out x0 (List.mem_of_getElem? hx0)
      have hyes : (decide (x.l.length < 1) || (decide (16 < x.l.length) || decide (x.l.length ≠ x0.l.length))) = true → WC = 240 := fun hb0 => by
        have hb : bad24 x0.l.length x.l = true := hb0
        rw [← HWC.out]
        unfold chk24
        rw [hh0, if_pos (List.any_eq_true.2 ⟨x.l, List.mem_of_getElem? hxm, hb⟩)]
      have hnx : (decide (x.l.length < 1) || (decide (16 < x.l.length) || decide (x.l.length ≠ x0.l.length))) = false → ((ws.map WV.l).take (k + 1)).any (bad24 ((ws.map WV.l).headD []).length) = false := fun hb0 => by
        have hb : bad24 x0.l.length x.l = false := hb0
        rw [List.take_add_one, hxm, List.any_append, hno, hh0]; simp [hb]
      have HYES := Lib.hid hyes; clear hyes
      have HNX := Lib.hid hnx; clear hnx hno hh0 hxm hx hx0
      generalize x.l.length = n1 at *
      generalize x0.l.length = n0 at *
      by_cases h1 : n1 < 1
      · have hy := HYES.out (by rw [decide_eq_true h1]; rfl)
        have d1 : decide (n1 < 1) = true := decide_eq_true h1
        have d1b : decide ((n1 : Int) < 1) = true := decide_eq_true (by omega)
        subst hy
        go_wp2_with fail
        try simp only [Exit.noGoto]
        go_ret
        exact ⟨rfl, HW1.out⟩
      have d1 : decide (n1 < 1) = false := decide_eq_false h1
      have d1b : decide ((n1 : Int) < 1) = false := decide_eq_false (by omega)
      by_cases h2 : 16 < n1
      · have hy := HYES.out (by rw [decide_eq_true h2]; simp)
        have d2 : decide (16 < n1) = true := decide_eq_true h2
        subst hy
        go_wp2_with fail
        try simp only [Exit.noGoto]
        go_ret
        exact ⟨rfl, HW1.out⟩
      have d2 : decide (16 < n1) = false := decide_eq_false h2
      by_cases h3 : n1 = n0
      · have hy := HNX.out (by rw [d1, d2, decide_eq_false (by simpa using h3)]; rfl)
        have d3 : ((n1 : Int) != (n0 : Int)) = false := by rw [h3]; simp
        have HY := Lib.hid hy; clear hy h3
        go_wp2_with fail
        go_roundw
        case rel => exact ⟨k + 1, by omega, by go_num, by first | trivial | rfl, HY.out⟩
        case measure => simp [intOf]; omega
      · have hy := HYES.out (by rw [decide_eq_true (by simpa using h3 : n1 ≠ n0)]; simp)
        have d3 : ((n1 : Int) != (n0 : Int)) = true := by rw [bne_iff_ne]; omega
        subst hy
        go_wp2_with fail
        try simp only [Exit.noGoto]
        go_ret
        exact ⟨rfl, HW1.out⟩
    · rw [List.take_of_length_le (by simp; omega)] at hno
      have hWC : WC = if (ws.map WV.l).any (badIn G) then 200 else 0 := by
        rw [← HWC.out]; unfold chk24; rw [hno]; rfl
      have HWC2 := Lib.hid hWC; clear hWC hno HWC
      go_wp2_with fail
      go_loopw [38] (fun i wr => ∃ k : Nat, k ≤ ws.length ∧ i = .int .i64 k ∧ wr = w.alloc (.cells #[.pointer (some ⟨g, 0, none⟩)] 42) ∧ ((ws.map WV.l).take k).any (badIn G) = false) (fun i _ => ws.length - (intOf i).toNat)
      case atStart => exact ⟨0, by omega, rfl, rfl, rfl⟩
      case round =>
        obtain ⟨k, hk, rfl, rfl, hno⟩ := hrel
        by_cases hlt : k < ws.length
        · obtain ⟨x, hx⟩ : ∃ x, ws[k]? = some x := ⟨_, List.getElem?_eq_getElem hlt⟩
          have c1 := HCC.out k x hx
          have hxm : (ws.map WV.l)[k]? = some x.l := by simp [hx]
          have hxl := HLEN.out x (List.mem_of_getElem? hx)
          have HC := HCF.out x (List.mem_of_getElem? hx)
          have hnx : badIn G x.l = false → ((ws.map WV.l).take (k + 1)).any (badIn G) = false := fun hb => by
            rw [List.take_add_one, hxm, List.any_append, hno]; simp [hb]
          have hyes : badIn G x.l = true → WC = 200 := fun hb => by
            rw [HWC2.out, if_pos (List.any_eq_true.2 ⟨x.l, List.mem_of_getElem? hxm, hb⟩)]
          have HYES := Lib.hid hyes; clear hyes
          have HNX := Lib.hid hnx; clear hnx hno hxm hx
          generalize badIn G x.l = t at *
          have HX := Lib.hid HC; clear HC
          cases t
          · have hy := HNX.out rfl
            have HY := Lib.hid hy; clear hy
            go_wp2_with fail
            refine HX.out.mono ?_
            rintro e w' ⟨rfl, rfl⟩
            go_wp2_with fail
            go_roundw
            case rel => exact ⟨k + 1, by omega, by go_num, by first | trivial | rfl, HY.out⟩
            case measure => simp [intOf]; omega
          · have hy := HYES.out rfl
            subst hy
            go_wp2_with fail
            refine HX.out.mono ?_
            rintro e w' ⟨rfl, rfl⟩
            go_wp2_with fail
            try simp only [Exit.noGoto]
            go_ret
            exact ⟨rfl, HW1.out⟩
        · rw [List.take_of_length_le (by simp; omega)] at hno
          have hz : WC = 0 := by rw [HWC2.out, hno]; rfl
          subst hz
          go_wp2_with fail
          go_ret
          exact ⟨rfl, HW1.out⟩
end
/-- what must does with an error: it stops -/
def MustTo (v : Value) (er : Nat) (w : World) (e : Ending) (w' : World) : Prop := w = w' ∧ ((er = 0 ∧ e = .returned v) ∨ (er ≠ 0 ∧ e = .panicked [{ v := stopV er, recovered := false }]))
set_option maxRecDepth 100000 in
set_option maxHeartbeats 1000000 in
theorem mdmustR_is (w : World) (r : Int) (er : Nat) : Calls Tryz.prog 291 #[.int .i64 r, .int .i64 er] w (MustTo (.int .i64 r) er w) := by
  unfold MustTo
  by_cases h : er = 0
  · subst h
    go_enter Tryz.func291, Tryz.ntmps291
    go_wp2_with fail
    go_ret
    first | exact ⟨trivial, .inl ⟨rfl, rfl⟩⟩ | exact ⟨rfl, .inl ⟨rfl, rfl⟩⟩ | simp
  · have d : ((er : Int) != 0) = true := by rw [bne_iff_ne]; omega
    go_enter Tryz.func291, Tryz.ntmps291
    go_wp2_with fail
    exact ⟨rfl, rfl, .inr ⟨h, rfl⟩⟩
set_option maxRecDepth 100000 in
set_option maxHeartbeats 1000000 in
theorem mdmustW_is (w : World) (a : Option Addr) (n c : Nat) (er : Nat) : Calls Tryz.prog 292 #[.slice a n c, .int .i64 er] w (MustTo (.slice a n c) er w) := by
  unfold MustTo
  by_cases h : er = 0
  · subst h
    go_enter Tryz.func292, Tryz.ntmps292
    go_wp2_with fail
    go_ret
    first | exact ⟨trivial, .inl ⟨rfl, rfl⟩⟩ | exact ⟨rfl, .inl ⟨rfl, rfl⟩⟩ | simp
  · have d : ((er : Int) != 0) = true := by rw [bne_iff_ne]; omega
    go_enter Tryz.func292, Tryz.ntmps292
    go_wp2_with fail
    exact ⟨rfl, rfl, .inr ⟨h, rfl⟩⟩
end Go.Proofs.YtehljgigebhddaaGreat
namespace Go.Proofs.YtehljgigebhddaaGreat
open Go.RowKit Go.Mem Go.Aig
section
variable {w : World} {g : Nat} {G : Gra} {F : List Nat}
set_option maxRecDepth 100000 in
set_option maxHeartbeats 2000000 in
theorem mdbuild1_stop (h : GIn w g G F) {bg bn be : Nat} (n : Nat) (hn : n ≤ 1000000) (er : Nat) (older : List PanicEntry) (h1 : blk w bg [.pointer (some ⟨g, 0, none⟩)]) (h2 : blk w bn [.int .i64 n]) (h3 : blk w be [.int .i64 0]) (hb : be ∉ F) :
    CallsD Tryz.prog 290 #[.pointer (some ⟨bg, 0, none⟩), .pointer (some ⟨bn, 0, none⟩), .pointer (some ⟨be, 0, none⟩)] (.panicking ({ v := stopV er, recovered := false } :: older)) w fun e u' w' =>
      e = .returned (.tuple #[]) ∧ u' = .panicking ({ v := stopV er, recovered := true } :: older) ∧ ∃ F', GIn w' g (doCut G n).1 F' ∧ Ch (be :: F) w w' ∧ (∀ k ∈ F', k ∈ F ∨ w.heap.size ≤ k) ∧ F'[2]? = F[2]? ∧ blk w' be [.int .i64 er] := by
  have c1 := (h1.alloc (.cells #[.int .i64 er] 348)).cell (i := 0) rfl
  have c2 := (h2.alloc (.cells #[.int .i64 er] 348)).cell (i := 0) rfl
  have hbl := h3.lt
  have hta : ∀ w : World, (Instr.typeAssert (.iface 348 (.agg #[.int .i64 er])) 20 348 true).run Tryz.prog w = .ok (.tuple #[.agg #[.int .i64 er], .bool true]) w := fun _ => by kernel_rfl
  refine callsD_of_wpS Tryz.func290 rfl fun c₀ cs hu => ?_
  apply wpS_seq
  apply wpS_region
  unfold stopV at hu
  simp [wpOpsS, go_sem, recoverD, hu, Tryz.ntmps290, Exit.thenS]
  refine wpS_of_wp ?_
  have hlt := h.lt
  have hcut := Cut_g (h.same (F' := []) ((Ch.refl [] w).alloc (.cells #[.int .i64 er] 348)) (by simp)) n (by omega) (by omega)
  have s0 := blk.new w [.int .i64 er] 348
  have t0 := h3.alloc (.cells #[.int .i64 er] 348)
  clear h h1 h2 h3
  go_wp2_with fail
  refine hcut.mono ?_
  rintro e w1 ⟨rfl, F1, hg1, hc1, hn1, h21⟩
  have s1 := (s0.ch hc1 (fun hm => by have := hlt _ hm; omega)).cell (i := 0) rfl
  have b1 := t0.ch hc1 hb
  have z1 := b1.cell (i := 0) rfl
  have y1 := b1.frozen (i := 0)
  have hbF : be ∉ F1 := fun hm => (hn1 _ hm).elim hb (fun e => by simp at e; omega)
  go_wp2_with fail
  clear hcut s0 t0 c1 c2 hta
  simp [bodyPostS, results, Tryz.results290]
  refine ⟨rfl, F1, hg1.same (F' := [be]) ((Ch.refl _ _).setCell (.inl (by simp)) _) (fun k hk hm => hbF (by simp at hm; exact hm ▸ hk)), ?_, fun k hk => (hn1 k hk).imp id (fun e => by simp at e; omega), h21, b1.set _⟩
  exact ((((Ch.refl (be :: F) w).alloc (.cells #[.int .i64 er] 348))).trans hc1 (fun k hk => .inl (List.mem_cons_of_mem _ hk))).setCell (.inl (by simp)) _
set_option maxRecDepth 100000 in
set_option maxHeartbeats 2000000 in
theorem mdbuild1_idle (w : World) (a b c : Value) : CallsD Tryz.prog 290 #[a, b, c] .returning w fun e u' w' => e = .returned (.tuple #[]) ∧ u' = .returning ∧ w' = w := by
  refine callsD_of_wpS Tryz.func290 rfl fun c₀ cs hu => ?_
  apply wpS_seq
  apply wpS_region
  simp [wpOpsS, go_sem, recoverD, hu, Tryz.ntmps290, Exit.thenS]
  refine wpS_of_wp ?_
  go_wp2_with fail
  cases c₀
  simp_all [bodyPostS, results, Tryz.results290]
/-- what a closure that may stop does: it is done, or it stops and the graph has grown -/
def Stops (w : World) (g : Nat) (G : Gra) (X F : List Nat) (er : Nat) (D : World → World → Prop) (e : Ending) (w' : World) : Prop :=
  (er = 0 ∧ e = .returned (.tuple #[]) ∧ D w w') ∨ (er ≠ 0 ∧ e = .panicked [{ v := stopV er, recovered := false }] ∧ ∃ G' F', Ext G G' ∧ GIn w' g G' F' ∧ Ch (X ++ F) w w' ∧ (∀ k ∈ F', k ∈ F ∨ w.heap.size ≤ k) ∧ F'[2]? = F[2]?)
/-- what build leaves of it -/
def Builds (w : World) (g : Nat) (G : Gra) (X F : List Nat) (er : Nat) (D : World → World → Prop) (w' : World) : Prop :=
  (er = 0 ∧ ∃ be W1 W2, w.heap.size ≤ be ∧ be < W1.heap.size ∧ Ch [] w W1 ∧ D W1 W2 ∧ Ch [be] W2 w') ∨ (er ≠ 0 ∧ ∃ F', GIn w' g G F' ∧ Ch (X ++ F) w w' ∧ (∀ k ∈ F', k ∈ F ∨ w.heap.size ≤ k) ∧ F'[2]? = F[2]?)
set_option maxRecDepth 100000 in
set_option maxHeartbeats 2000000 in
theorem mdbuild_is (h : GIn w g G F) (fid : Nat) (caps : Array Value) (hfn : Fnv fid) (X : List Nat) (hX : ∀ k ∈ X, k < w.heap.size) (er : Nat) (D : World → World → Prop) (hD : ∀ a b, D a b → Ch (X ++ F) a b)
    (hf : ∀ W, Ch [] w W → GIn W g G F → Calls Tryz.prog fid caps W (Stops W g G X F er D)) :
    Calls Tryz.prog 208 #[.pointer (some ⟨g, 0, none⟩), .func (.func fid) #[] caps] w fun e w' => e = .returned (.int .i64 er) ∧ Builds w g G X F er D w' := by
  have hg := h.lt
  have hok := h.ok
  have hroom := h.ok.room
  have hmost := h.ok.most
  have hmf : ∀ (fn : Fn) (first cap : Array Value) (w : World), (Instr.makeFunc fn first cap).run Tryz.prog w = .ok (.func fn first cap) w := fun _ _ _ _ => rfl
  have hcf : ∀ args w, (callFunc fid args).run Tryz.prog w = .ok (.enter fid args) w := hfn
  have ch1 : Ch [] w ((w.alloc (.cells #[.pointer (some ⟨g, 0, none⟩)] 42)).alloc (.cells #[.int .i64 0] 49)) := ((Ch.refl _ _).alloc _).alloc _
  have ch2 : Ch [] w (((w.alloc (.cells #[.pointer (some ⟨g, 0, none⟩)] 42)).alloc (.cells #[.int .i64 0] 49)).alloc (.cells #[.int .i64 G.nodes.length] 3)) := ch1.alloc _
  have HL := Len_g (h.same ch1 (by simp))
  have hb1 : blk (((w.alloc (.cells #[.pointer (some ⟨g, 0, none⟩)] 42)).alloc (.cells #[.int .i64 0] 49)).alloc (.cells #[.int .i64 G.nodes.length] 3)) w.heap.size [.pointer (some ⟨g, 0, none⟩)] := ((blk.new w _ _).alloc _).alloc _
  have hb2 : blk (((w.alloc (.cells #[.pointer (some ⟨g, 0, none⟩)] 42)).alloc (.cells #[.int .i64 0] 49)).alloc (.cells #[.int .i64 G.nodes.length] 3)) (w.heap.size + 1) [.int .i64 0] := (blk.new' _ _ (by simp)).alloc _
  have hb3 : blk (((w.alloc (.cells #[.pointer (some ⟨g, 0, none⟩)] 42)).alloc (.cells #[.int .i64 0] 49)).alloc (.cells #[.int .i64 G.nodes.length] 3)) (w.heap.size + 1 + 1) [.int .i64 G.nodes.length] := blk.new' _ _ (by simp)
  have hXF : ∀ k ∈ X ++ F, k < w.heap.size := fun k hk => (List.mem_append.1 hk).elim (hX k) (hg k)
  have HF := hf _ ch2 (h.same ch2 (by simp))
  generalize hW1 : (((w.alloc (.cells #[.pointer (some ⟨g, 0, none⟩)] 42)).alloc (.cells #[.int .i64 0] 49)).alloc (.cells #[.int .i64 G.nodes.length] 3)) = W1 at HF ch2 hb1 hb2 hb3
  have H := Lib.hid h; clear h
  have HOK := Lib.hid hok; clear hok
  have HB1 := Lib.hid hb1; clear hb1
  have HB2 := Lib.hid hb2; clear hb2
  have HB3 := Lib.hid hb3; clear hb3
  have HXF := Lib.hid hXF; clear hXF
  have HHG := Lib.hid hg; clear hg hX
  have HHD := Lib.hid hD; clear hD
  have CH2 := Lib.hid ch2; clear ch2
  clear hf ch1
  go_enter_defers Tryz.func208, Tryz.ntmps208
  go_wp2_with fail
  refine HL.mono ?_
  rintro e w' ⟨rfl, rfl⟩
  go_wp2_with fail
  refine HF.mono ?_
  rintro e w2 (⟨rfl, rfl, hd⟩ | ⟨he, rfl, G', F', hext, hG', hC, hF', hF2⟩)
  · have hC := HHD.out _ _ hd
    have b2 := HB2.out.ch hC (fun hm => by have := HXF.out _ hm; omega)
    have z2 := b2.cell (i := 0) rfl
    have y2 := b2.frozen (i := 0)
    go_wp2_with fail
    have b3 := b2.set (i := 0) (.int .i64 0)
    have z3 := b3.cell (i := 0) rfl
    refine leaves_cons (f := 290) (args := #[.pointer (some ⟨w.heap.size, 0, none⟩), .pointer (some ⟨w.heap.size + 1 + 1, 0, none⟩), .pointer (some ⟨w.heap.size + 1, 0, none⟩)]) (by simp) (by simp [go_sem]) ?_
    refine (mdbuild1_idle _ _ _ _).mono ?_
    rintro e u' w'' ⟨rfl, rfl, rfl⟩
    simp [Leaves, settle, results, Tryz.results208, go_sem, z3]
    exact .inl ⟨rfl, w.heap.size + 1, W1, w2, by omega, HB2.out.lt, CH2.out, hd, (Ch.refl _ _).setCell (.inl (by simp)) _⟩
  · have hnf : ∀ k, w.heap.size ≤ k → k ∉ X ++ F := fun k hk hm => by have := HXF.out _ hm; omega
    have b1 := HB1.out.ch hC (hnf _ (by omega))
    have b2 := HB2.out.ch hC (hnf _ (by omega))
    have b3 := HB3.out.ch hC (hnf _ (by omega))
    have hz1 := CH2.out.size
    have l1 := HB1.out.lt
    have l2 := HB2.out.lt
    have hnF : w.heap.size + 1 ∉ F' := fun hm => by
      rcases hF' _ hm with hm | hm
      · have := HHG.out _ hm; omega
      · omega
    have hst := mdbuild1_stop hG' G.nodes.length (by omega) er [] b1 b3 b2 hnF
    go_wp2_with fail
    refine leaves_cons (f := 290) (args := #[.pointer (some ⟨w.heap.size, 0, none⟩), .pointer (some ⟨w.heap.size + 1 + 1, 0, none⟩), .pointer (some ⟨w.heap.size + 1, 0, none⟩)]) (by simp) (by simp [go_sem]) ?_
    refine hst.mono ?_
    rintro e u' w'' ⟨rfl, rfl, F2, hG2, hC2, hF2', hF22, hbe⟩
    have z3 := hbe.cell (i := 0) rfl
    simp [Leaves, settle, results, Tryz.results208, go_sem, z3]
    rw [doCut_back HOK.out hext] at hG2
    refine .inr ⟨he, F2, hG2, ?_, fun k hk => ?_, hF22.trans hF2⟩
    · refine ((CH2.out.mono (F' := X ++ F) (by simp)).trans hC (fun k hk => .inl hk)).trans hC2 (fun k hk => ?_)
      rcases List.mem_cons.1 hk with rfl | hk
      · right; omega
      · rcases hF' _ hk with hk | hk
        · exact .inl (List.mem_append_right _ hk)
        · right; omega
    · rcases hF2' _ hk with hk | hk
      · rcases hF' _ hk with hk | hk
        · exact .inl hk
        · right; omega
      · have := hC.size
        right; omega
end
end Go.Proofs.YtehljgigebhddaaGreat
namespace Go.Aig
end Go.Aig
namespace Go.Proofs.YtehljgigebhddaaGreat
open Go.RowKit Go.Mem Go.Aig
theorem run_storeFunc {P : Program} {w : World} {a : Addr} {m : Mode} (f : Fn) (b c : Array Value) : (store a (.func f b c) m).run P w = stored P w a (.func f b c) m := run_store P w a _ m rfl
attribute [local go_sem] run_storeFunc
section
variable {w0 w1 w : World} {F0 : List Nat} {g : Nat} {G : Gra} {F : List Nat} {L : List (Value × List Int)} {bok bout bfn : Nat} {ok : Bool} {oa : Option Addr} {m oc : Nat} {vs : List Value}
end
end Go.Proofs.YtehljgigebhddaaGreat
namespace Go.Proofs.YtehljgigebhddaaGreat
open Go.RowKit Go.Mem Go.Aig
theorem row_at2 {w : World} {e : TypeId} {b n c : Nat} {vs : List Value} (h : row w e 1 (.slice (some ⟨b, 0, none⟩) n c) n vs) {k : Nat} {v : Value} (hk : vs[k]? = some v) : w.cell? ⟨b, k, none⟩ = some v := by
  have := h.cells (g := b) rfl k v hk
  rw [Addr.add_lit] at this
  simpa using this
theorem row_fz {w : World} {e : TypeId} {b n c : Nat} {vs : List Value} (h : row w e 1 (.slice (some ⟨b, 0, none⟩) n c) n vs) (hn : 0 < n) (k : Nat) : w.frozen? ⟨b, k, none⟩ = false := by
  obtain ⟨b', ys, e1, hb, _⟩ := rowBlk h 0 hn
  cases e1
  exact hb.frozen
end Go.Proofs.YtehljgigebhddaaGreat
namespace Go.Aig
/-- a word shifted: to the left (1), or to the right -/
def shL (side : Nat) (x : List Int) (n : Nat) : List Int := (List.range x.length).map fun i => if side = 1 then (if n ≤ i then x.getD (i - n) 0 else 0) else x.getD (i + n) 0
@[simp] theorem shL_len (side : Nat) (x : List Int) (n : Nat) : (shL side x n).length = x.length := by simp [shL]
end Go.Aig
namespace Go.Proofs.YtehljgigebhddaaGreat
open Go.RowKit Go.Mem Go.Aig
theorem row_fresh {w W : World} {l : List Int} {n : Nat} (hW : W = w.alloc (.cells (intCells l).toArray 52)) (hn : l.length = n) (hl : n ≤ 1000000) : row W 52 1 (.slice (some ⟨w.heap.size, 0, none⟩) n n) n (intCells l) := by
  subst hn hW
  have hx : (w.alloc (.cells (intCells l).toArray 52)).heap[w.heap.size]? = some (.cells (intCells l).toArray 52 (0, 0)) := heap_alloc_new w _
  exact ⟨by simp [intCells], .inr ⟨w.heap.size, l.length, (intCells l).toArray, rfl, by simp, hx, Nat.le_refl _, by unfold maxLen; omega, by simp [intCells], by rw [Nat.mul_one]; exact List.take_of_length_le (by simp [intCells])⟩⟩
section
variable {w : World}
end
end Go.Proofs.YtehljgigebhddaaGreat
namespace Go.Aig
theorem eachF_app (op : Mk → Nat → Nat → Mk × Nat) (s : Mk) (l m : List (Nat × Nat)) : eachF op s (l ++ m) = m.foldl (eachS op) (eachF op s l) := by unfold eachF; rw [List.foldl_append]
theorem eachS_bad (f : Gra → Nat → Nat → Res) : ∀ (m : List (Nat × Nat)) (q : Mk × List Nat), q.1.2 ≠ 0 → (m.foldl (eachS (rop f)) q).1 = q.1
  | [], _, _ => rfl
  | p :: m, q, h => by
    rw [List.foldl_cons]
    have e : (eachS (rop f) q p).1 = q.1 := by unfold eachS rop; rw [rstep_bad h]
    rw [eachS_bad f m _ (by rw [e]; exact h), e]
theorem eachF_bad (f : Gra → Nat → Nat → Res) (s : Mk) (l m : List (Nat × Nat)) (h : (eachF (rop f) s l).1.2 ≠ 0) : (eachF (rop f) s (l ++ m)).1 = (eachF (rop f) s l).1 := by
  rw [eachF_app, eachS_bad f m _ h]
theorem eachF_lenT (op : Mk → Nat → Nat → Mk × Nat) (s : Mk) (l : List (Nat × Nat)) : (eachF op s l).2.length = l.length := by
  have : ∀ (l : List (Nat × Nat)) (q : Mk × List Nat), (l.foldl (eachS op) q).2.length = q.2.length + l.length := by
    intro l
    induction l with
    | nil => intro q; rfl
    | cons p l ih => intro q; rw [List.foldl_cons, ih]; simp [eachS]; omega
  rw [eachF, this]; simp
end Go.Aig
namespace Go.Mem
end Go.Mem
namespace Go.Aig
/-- a step that makes a word -/
def wstep (s : Mk) (R : Gra × List Nat × Nat) : Mk × List Nat := if s.2 ≠ 0 then (s, []) else if R.2.2 ≠ 0 then ((s.1, R.2.2), []) else ((R.1, 0), R.2.1)
theorem wstep_bad {s : Mk} (h : s.2 ≠ 0) (R : Gra × List Nat × Nat) : wstep s R = (s, []) := by unfold wstep; rw [if_pos h]
theorem wstep_no {s : Mk} (h : s.2 = 0) {R : Gra × List Nat × Nat} (hR : R.2.2 ≠ 0) : wstep s R = ((s.1, R.2.2), []) := by unfold wstep; rw [if_neg (by simp [h]), if_pos hR]
theorem wstep_ok {s : Mk} (h : s.2 = 0) {R : Gra × List Nat × Nat} (hR : R.2.2 = 0) : wstep s R = ((R.1, 0), R.2.1) := by unfold wstep; rw [if_neg (by simp [h]), if_neg (by simp [hR])]
def addR (G : Gra) (x y : List Nat) : Gra × List Nat × Nat := wres G (sumW x.length (G, 0) (x.zip y) 0)
def subR (G : Gra) (x y : List Nat) : Gra × List Nat × Nat := wres G (sumW x.length (G, 0) (x.zip (y.map neg)) 1)
def leR (G : Gra) (x y : List Nat) : Res := negG (rres G (ltF (G, 0) (y.zip x)))
/-- the lower bits of a word, each with one bit -/
def andsF (s : Mk) (b : Nat) (l : List Nat) : Mk × List Nat := eachF (rop and) s (l.map fun a => (a, b))
theorem andsF_snoc (s : Mk) (b : Nat) (l : List Nat) (a : Nat) : andsF s b (l ++ [a]) = eachS (rop and) (andsF s b l) (a, b) := by
  unfold andsF
  rw [List.map_append]
  exact eachF_snoc _ _ _ _
theorem andsF_bad (s : Mk) (b : Nat) (l m : List Nat) (h : (andsF s b l).1.2 ≠ 0) : (andsF s b (l ++ m)).1 = (andsF s b l).1 := by
  unfold andsF at h ⊢
  rw [List.map_append]
  exact eachF_bad and s _ _ h
/-- one more bit of the second word -/
def prodS (x : List Nat) (q : Mk × List Nat) (p : Nat × Nat) : Mk × List Nat :=
  if p.2 = 0 then ((andsF q.1 p.1 (x.take (x.length - p.2))).1, List.replicate p.2 0 ++ (andsF q.1 p.1 (x.take (x.length - p.2))).2)
  else wstep (andsF q.1 p.1 (x.take (x.length - p.2))).1 (addR (andsF q.1 p.1 (x.take (x.length - p.2))).1.1 q.2 (List.replicate p.2 0 ++ (andsF q.1 p.1 (x.take (x.length - p.2))).2))
def prodF (x : List Nat) (s : Mk) (y : List Nat) : Mk × List Nat := y.zipIdx.foldl (prodS x) (s, [])
theorem prodF_snoc (x : List Nat) (s : Mk) (y : List Nat) (b : Nat) : prodF x s (y ++ [b]) = prodS x (prodF x s y) (b, y.length) := by
  unfold prodF
  rw [List.zipIdx_append, List.foldl_append]
  simp
theorem andsF_keep {s : Mk} (h : s.2 ≠ 0) (b : Nat) (l : List Nat) : (andsF s b l).1 = s := by
  have := andsF_bad s b [] l (by simpa [andsF, eachF] using h)
  simpa [andsF, eachF] using this
theorem prodS_bad (x : List Nat) (q : Mk × List Nat) (p : Nat × Nat) (h : q.1.2 ≠ 0) : (prodS x q p).1 = q.1 := by
  unfold prodS
  split
  · exact andsF_keep h _ _
  · rw [wstep_bad (by rw [andsF_keep h]; exact h)]
    exact andsF_keep h _ _
theorem prodF_bad (x : List Nat) (s : Mk) (y z : List Nat) (h : (prodF x s y).1.2 ≠ 0) : (prodF x s (y ++ z)).1 = (prodF x s y).1 := by
  induction z generalizing y with
  | nil => rw [List.append_nil]
  | cons b z ih =>
    have e : (prodF x s (y ++ [b])).1 = (prodF x s y).1 := by rw [prodF_snoc]; exact prodS_bad _ _ _ h
    rw [show y ++ b :: z = (y ++ [b]) ++ z by simp, ih (y ++ [b]) (by rw [e]; exact h), e]
theorem full_andX : Full2 and := fun _ h _ _ ha hb => and_full h ha hb
theorem andsF_lok {G : Gra} (hG : Ok G) {b : Nat} {l : List Nat} (hb : b < 2 * G.nodes.length) (hl : ∀ r ∈ l, r < 2 * G.nodes.length) : LOk G (andsF (G, 0) b l) :=
  eachF_lok hG full_andX _ (fun p hp => by obtain ⟨r, hr, rfl⟩ := List.mem_map.1 hp; exact ⟨hl r hr, hb⟩)
theorem andsF_len (s : Mk) (b : Nat) (l : List Nat) : (andsF s b l).2.length = l.length := by
  unfold andsF
  rw [eachF_lenT, List.length_map]
section
variable {x y : List Nat} {s : Mk} {Gp : Gra} {ol : List Nat} {k b : Nat} (hst : prodF x s (y.take k) = ((Gp, 0), ol)) (hb : y[k]? = some b)
include hst hb
theorem prodF_next : prodF x s (y.take (k + 1)) = prodS x ((Gp, 0), ol) (b, k) := by
  have hl := (List.getElem?_eq_some_iff.1 hb).1
  rw [List.take_add_one, hb, Option.toList_some, prodF_snoc, hst, List.length_take, Nat.min_eq_left (by omega)]
theorem prodF_stop {e : Nat} (h0 : e ≠ 0) (h : (prodS x ((Gp, 0), ol) (b, k)).1.2 = e) : (prodF x s y).1.2 = e := by
  have h1 := prodF_next hst hb
  have h2 := prodF_bad x s (y.take (k + 1)) (y.drop (k + 1)) (by rw [h1, h]; exact h0)
  rw [List.take_append_drop] at h2
  rw [h2, h1, h]
theorem prodF_and_stop {e : Nat} (h0 : e ≠ 0) (h : (andsF (Gp, 0) b (x.take (x.length - k))).1.2 = e) : (prodF x s y).1.2 = e := by
  refine prodF_stop hst hb h0 ?_
  unfold prodS
  split
  · exact h
  · rw [wstep_bad (by rw [h]; exact h0)]
    exact h
theorem prodF_add_stop {Gq : Gra} {ml : List Nat} (hk : k ≠ 0) (hA : andsF (Gp, 0) b (x.take (x.length - k)) = ((Gq, 0), ml)) (h0 : (addR Gq ol (List.replicate k 0 ++ ml)).2.2 ≠ 0) : (prodF x s y).1.2 = (addR Gq ol (List.replicate k 0 ++ ml)).2.2 := by
  refine prodF_stop hst hb h0 ?_
  unfold prodS
  rw [if_neg hk]
  simp only [hA]
  rw [wstep_no rfl h0]
theorem prodF_zero {Gq : Gra} {ml : List Nat} (hk : k = 0) (hA : andsF (Gp, 0) b (x.take (x.length - k)) = ((Gq, 0), ml)) : prodF x s (y.take (k + 1)) = ((Gq, 0), List.replicate k 0 ++ ml) := by
  rw [prodF_next hst hb]
  unfold prodS
  rw [if_pos hk]
  simp only [hA]
theorem prodF_more {Gq : Gra} {ml : List Nat} (hk : k ≠ 0) (hA : andsF (Gp, 0) b (x.take (x.length - k)) = ((Gq, 0), ml)) (h0 : (addR Gq ol (List.replicate k 0 ++ ml)).2.2 = 0) : prodF x s (y.take (k + 1)) = (((addR Gq ol (List.replicate k 0 ++ ml)).1, 0), (addR Gq ol (List.replicate k 0 ++ ml)).2.1) := by
  rw [prodF_next hst hb]
  unfold prodS
  rw [if_neg hk]
  simp only [hA]
  rw [wstep_ok rfl h0]
end
end Go.Aig
namespace Go.Proofs.YtehljgigebhddaaGreat
open Go.RowKit Go.Mem Go.Aig
/-- the graph, and two words of one's own -/
structure P2 (w : World) (g : Nat) (F : List Nat) (W : World) (Gp : Gra) (F' : List Nat) (ov : Value) (ol : List Nat) (pv : Value) (pl : List Nat) : Prop where
  gin : GIn W g Gp F'
  ch : Ch F w W
  own : ∀ k ∈ F', k ∈ F ∨ w.heap.size ≤ k
  f2 : F'[2]? = F[2]?
  orow : row W 52 1 ov ol.length (refsCells ol)
  olo : ∀ k, ov.ownBlock = some k → w.heap.size ≤ k ∧ k ∉ F'
  prow : row W 52 1 pv pl.length (refsCells pl)
  plo : ∀ k, pv.ownBlock = some k → w.heap.size ≤ k ∧ k ∉ F'
  ne : ∀ k, pv.ownBlock = some k → ov.ownBlock ≠ some k
/-- how a part ends that may stop -/
def MakesW (w : World) (g : Nat) (G : Gra) (F : List Nat) (R : Mk × List Nat) (e : Ending) (w' : World) : Prop :=
  (R.1.2 = 0 ∧ ∃ v, e = .returned v ∧ GVo w g R.1.1 [] F v R.2 w') ∨ (R.1.2 ≠ 0 ∧ e = .panicked [{ v := stopV R.1.2, recovered := false }] ∧ ∃ G' F', Ext G G' ∧ GIn w' g G' F' ∧ Ch F w w' ∧ (∀ k ∈ F', k ∈ F ∨ w.heap.size ≤ k) ∧ F'[2]? = F[2]?)
theorem P2.start {w wr W : World} {g : Nat} {F : List Nat} {Gp : Gra} {ov : Value} {ol : List Nat} (h : GVo w g Gp [] F ov ol wr) (k : Nat) (hk : k ≤ 1000000) (hW : W = wr.alloc (.cells (refsCells (List.replicate k 0)).toArray 52)) :
    ∃ F', P2 w g F W Gp F' ov ol (.slice (some ⟨wr.heap.size, 0, none⟩) k k) (List.replicate k 0) := by
  obtain ⟨F', h1, h2, h3, h4, h5, h6⟩ := h
  have hc : Ch [] wr W := by rw [hW]; exact (Ch.refl _ _).alloc _
  have hz := h2.size
  have hrow : row W 52 1 (.slice (some ⟨wr.heap.size, 0, none⟩) k k) k (refsCells (List.replicate k 0)) := by
    have := row_fresh (w := wr) (W := W) (l := List.replicate k 0) (n := k) (by rw [hW]; simp [intCells, refsCells]) (by simp) hk
    simpa [intCells, refsCells] using this
  refine ⟨F', h1.same hc (by simp), h2.trans hc (by simp), h3, h4, h5.ch hc (by simp), h6, by simpa using hrow, fun q hq => ?_, fun q hq he => ?_⟩
  · cases hq
    exact ⟨by simpa using hz, fun hm => absurd (h1.lt _ hm) (Nat.lt_irrefl _)⟩
  · cases hq
    exact absurd (h5.lt _ he).2 (Nat.lt_irrefl _)
theorem P2.to {w W W' : World} {g : Nat} {F F' : List Nat} {Gp G' : Gra} {ov pv : Value} {ol pl : List Nat} (h : P2 w g F W Gp F' ov ol pv pl) (ht : GTo W g G' F' W') : ∃ F1, P2 w g F W' G' F1 ov ol pv pl := by
  obtain ⟨F1, a1, a2, a3, a4⟩ := ht
  have hs := h.ch.size
  refine ⟨F1, a1, h.ch.trans a2 (fun q hq => h.own q hq), fun q hq => (a3 q hq).elim (h.own q) (fun e => .inr (by omega)), a4.trans h.f2, h.orow.ch a2 (fun q hq => (h.olo q hq).2), fun q hq => ⟨(h.olo q hq).1, fun hm => (a3 q hm).elim (h.olo q hq).2 (fun e => by have := (h.orow.lt q hq).2; omega)⟩, h.prow.ch a2 (fun q hq => (h.plo q hq).2), fun q hq => ⟨(h.plo q hq).1, fun hm => (a3 q hm).elim (h.plo q hq).2 (fun e => by have := (h.prow.lt q hq).2; omega)⟩, h.ne⟩
/-- one more bit of the second word -/
theorem P2.app {w W W1 W4 : World} {g : Nat} {F F' : List Nat} {Gp : Gra} {ov pv pv' : Value} {ol pl : List Nat} {r : Nat} (h : P2 w g F W Gp F' ov ol pv pl) (h1 : Ch [] W W1) (hrow : row W4 52 1 pv' (pl.length + 1) (refsCells pl ++ [.int .i64 r])) (hC : Ch pv.ownBlock.toList W1 W4) (hf : ∀ k, pv'.ownBlock = some k → pv.ownBlock = some k ∨ W1.heap.size ≤ k) :
    P2 w g F W4 Gp F' ov ol pv' (pl ++ [r]) := by
  have hs := h.ch.size
  have hs1 := h1.size
  have hc : Ch pv.ownBlock.toList W W4 := (h1.mono (by simp)).trans hC (fun k hk => .inl hk)
  refine ⟨h.gin.same hc (fun k hk hm => (h.plo k (by simpa using hm)).2 hk), h.ch.trans hc (fun k hk => .inr (h.plo k (by simpa using hk)).1), h.own, h.f2, h.orow.ch hc (fun k hk hm => h.ne k (by simpa using hm) hk), h.olo, by rw [List.length_append, show refsCells (pl ++ [r]) = refsCells pl ++ [.int .i64 r] by simp [refsCells]]; exact hrow, fun k hk => ?_, fun k hk he => ?_⟩
  · rcases hf k hk with e | e
    · exact h.plo k e
    · exact ⟨by omega, fun hm => by have := h.gin.lt k hm; omega⟩
  · rcases hf k hk with e | e
    · exact h.ne k e he
    · have := (h.orow.lt k he).2; omega
theorem P2.second {w W : World} {g : Nat} {F F' : List Nat} {Gp : Gra} {ov pv : Value} {ol pl : List Nat} (h : P2 w g F W Gp F' ov ol pv pl) : GVo w g Gp [] F pv pl W := ⟨F', h.gin, h.ch, h.own, h.f2, h.prow, h.plo⟩
theorem GVo.next' {w w1 w2 : World} {g : Nat} {G1 : Gra} {F F' : List Nat} {v : Value} {l : List Nat} (hc : Ch F w w1) (hF : ∀ k ∈ F', k ∈ F ∨ w.heap.size ≤ k) (h2 : F'[2]? = F[2]?) (h : GVo w1 g G1 [] F' v l w2) : GVo w g G1 [] F v l w2 := by
  obtain ⟨F1, a1, a2, a3, a4, a5, a6⟩ := h
  refine ⟨F1, a1, hc.trans a2 (fun k hk => hF k hk), fun k hk => (a3 k hk).elim (hF k) (fun e => .inr (Nat.le_trans hc.size e)), a4.trans h2, a5, fun k hk => ⟨Nat.le_trans hc.size (a6 k hk).1, (a6 k hk).2⟩⟩
theorem natsOf_len (l : List Nat) : (natInts l).length = l.length := by simp [natInts]
theorem wv_of_row {w : World} {F : List Nat} {a : Option Addr} {n c : Nat} {l : List Nat} (h : row w 52 1 (.slice a n c) l.length (refsCells l)) (hn : l.length = n) (hlo : ∀ k, (Value.slice a n c).ownBlock = some k → k ∉ F) (hl : l.length ≤ 1000000) (hb : ∀ r ∈ l, r ≤ 1000000) : WVin w F ⟨a, natInts l, c⟩ := by
  subst hn
  refine ⟨⟨Sl.of_row' h rfl hl, fun r hr => ?_, by rw [natsOf_len]; exact hl⟩, fun k hk => ?_⟩
  · obtain ⟨q, hq, rfl⟩ := List.mem_map.1 hr
    have := hb q hq
    omega
  · cases a with
    | none => simp [ablk] at hk
    | some p =>
      have hk : k = p.block := by simpa [ablk] using hk
      subst hk
      have hp : (Value.slice (some p) l.length c).ownBlock = some p.block := rfl
      exact ⟨hlo _ hp, (h.lt _ hp).2⟩
end Go.Proofs.YtehljgigebhddaaGreat
namespace Go.Aig
/-- a choice, bit by bit -/
def chF (c : Nat) (s : Mk) (l : List (Nat × Nat)) : Mk × List Nat := eachF (fun s a b => sMux s c a b) s l
theorem chF_snoc (c : Nat) (s : Mk) (l : List (Nat × Nat)) (p : Nat × Nat) : chF c s (l ++ [p]) = eachS (fun s a b => sMux s c a b) (chF c s l) p := eachF_snoc _ s l p
theorem chF_bad (c : Nat) (s : Mk) (a : List (Nat × Nat)) (h : (chF c s a).1.2 ≠ 0) : ∀ b, (chF c s (a ++ b)).1 = (chF c s a).1 := by
  intro b
  induction b generalizing a with
  | nil => rw [List.append_nil]
  | cons p b ih =>
    have e : (chF c s (a ++ [p])).1 = (chF c s a).1 := by
      rw [chF_snoc]
      show (sMux (chF c s a).1 c p.1 p.2).1 = _
      unfold sMux
      rw [rstep_bad h]
    rw [show a ++ p :: b = (a ++ [p]) ++ b by simp, ih (a ++ [p]) (by rw [e]; exact h), e]
end Go.Aig
namespace Go.Proofs.YtehljgigebhddaaGreat
open Go.RowKit Go.Mem Go.Aig
attribute [local go_sem] Oper.semAt_some
section
variable {w : World} {g m : Nat} {G : Gra} {F : List Nat}
end
end Go.Proofs.YtehljgigebhddaaGreat
namespace Go.Aig
theorem nats_natInts' (l : List Nat) : nats (natInts l) = l := Go.Proofs.YtehljgigebhddaaGreat.toNats l
theorem chk2_ok {G : Gra} {x y : List Nat} {n : Nat} (hx : x.length = n) (hy : y.length = n) (h1 : 1 ≤ n) (h17 : n ≤ 17) (hxr : ∀ r ∈ x, r < 2 * G.nodes.length) (hyr : ∀ r ∈ y, r < 2 * G.nodes.length) : chk G [natInts x, natInts y] = 0 := by
  have h : rightW (n : Int) = true := by unfold rightW; simp; omega
  have hb : ∀ z : List Nat, (∀ r ∈ z, r < 2 * G.nodes.length) → badIn G (natInts z) = false := fun z hz => by
    unfold badIn natInts
    rw [List.any_map, List.any_eq_false]
    intro r hr
    have := hz r hr
    simp [right]; omega
  unfold chk
  simp only [List.any_cons, List.any_nil, Bool.or_false, List.headD_cons, hb x hxr, hb y hyr, badAs, natInts_len, hx, hy, h]
  simp
theorem constL_le (x n : Nat) : ∀ r ∈ constL x n, r ≤ 1 := fun r hr => by
  unfold constL at hr
  obtain ⟨i, _, rfl⟩ := List.mem_map.1 hr
  cases x.testBit i <;> simp
end Go.Aig
namespace Go.Proofs.YtehljgigebhddaaGreat
open Go.RowKit Go.Mem Go.Aig
section
variable {w : World} {g m : Nat} {G : Gra} {F : List Nat}
end
end Go.Proofs.YtehljgigebhddaaGreat
namespace Go.Aig
section
variable {G : Gra} (hG : Ok G) {x y : List Nat} {n : Nat} (hxl : x.length = n) (hyl : y.length = n) (hxr : ∀ r ∈ x, r < 2 * G.nodes.length) (hyr : ∀ r ∈ y, r < 2 * G.nodes.length)
include hG hxr hyr
theorem addL_lok : LOk G (sumW x.length (G, 0) (x.zip y) 0) := sumF_lok hG _ _ (zip_lt hxr hyr) (by have := hG.wf.pos; omega)
theorem subL_lok : LOk G (sumW x.length (G, 0) (x.zip (y.map neg)) 1) := sumF_lok hG _ _ (zip_lt hxr (fun r hr => by obtain ⟨q, hq, rfl⟩ := List.mem_map.1 hr; exact neg_lt (hyr q hq))) (by have := hG.wf.pos; omega)
theorem addR_wok : WOk G (addR G x y) := (addL_lok hG hxr hyr).res hG
theorem subR_wok : WOk G (subR G x y) := (subL_lok hG hxr hyr).res hG
omit hG hxr hyr in
include hxl hyl in
theorem addR_len (he : (addR G x y).2.2 = 0) : (addR G x y).2.1.length = n := by
  unfold addR wres at he ⊢
  split
  · rename_i h0; rw [if_pos h0] at he; exact absurd he h0
  · show (sumW x.length (G, 0) (x.zip y) 0).2.length = n
    unfold sumW
    rw [Go.Proofs.YtehljgigebhddaaGreat.sumF_len, List.length_zip]
    omega
omit hG hxr hyr in
include hxl hyl in
theorem subR_len (he : (subR G x y).2.2 = 0) : (subR G x y).2.1.length = n := by
  unfold subR wres at he ⊢
  split
  · rename_i h0; rw [if_pos h0] at he; exact absurd he h0
  · show (sumW x.length (G, 0) (x.zip (y.map neg)) 1).2.length = n
    unfold sumW
    rw [Go.Proofs.YtehljgigebhddaaGreat.sumF_len, List.length_zip, List.length_map]
    omega
theorem leR_full : RFull G (leR G x y) := by
  have h := ltF_vok hG (y.zip x) (zip_lt hyr hxr)
  have hp := hG.wf.pos
  unfold leR rres
  split
  · rename_i h0
    rw [h.s.err.resolve_left h0]
    exact ⟨⟨hG, .refl _, by show 0 < 2 * G.nodes.length; omega, .inr rfl⟩, fun _ => rfl⟩
  · exact ⟨⟨h.s.ok, h.s.ext, neg_lt h.lt, .inl rfl⟩, fun he => absurd rfl he⟩
end
end Go.Aig
namespace Go.Proofs.YtehljgigebhddaaGreat
open Go.RowKit Go.Mem Go.Aig
section
variable {w : World} {g : Nat} {G : Gra} {F : List Nat} {x y : List Nat} {xa ya : Option Addr} {xc yc : Nat} (h : GIn w g G F) (n : Nat) (hxl : x.length = n) (hyl : y.length = n) (h1 : 1 ≤ n) (h17 : n ≤ 17)
  (hx : WVin w F ⟨xa, natInts x, xc⟩) (hy : WVin w F ⟨ya, natInts y, yc⟩) (hxr : ∀ r ∈ x, r < 2 * G.nodes.length) (hyr : ∀ r ∈ y, r < 2 * G.nodes.length)
include h hxl hyl h1 h17 hx hy hxr hyr
theorem sAddR : Calls Tryz.prog 293 #[.pointer (some ⟨g, 0, none⟩), .slice xa n xc, .slice ya n yc] w fun e w' => ∃ v, e = .returned (.tuple #[v, .int .i64 (addR G x y).2.2]) ∧ GVo w g (addR G x y).1 [] F v (addR G x y).2.1 w' := by
  have H := sAdd_is h hx hy
  simp only [WV.val, natInts_len, nats_natInts', hxl, hyl] at H
  unfold wordG at H
  rw [if_neg (by rw [chk2_ok hxl hyl h1 h17 hxr hyr]; simp)] at H
  unfold addR
  rw [hxl]
  exact H
theorem sSubR : Calls Tryz.prog 298 #[.pointer (some ⟨g, 0, none⟩), .slice xa n xc, .slice ya n yc] w fun e w' => ∃ v, e = .returned (.tuple #[v, .int .i64 (subR G x y).2.2]) ∧ GVo w g (subR G x y).1 [] F v (subR G x y).2.1 w' := by
  have H := sSub_is h hx hy
  simp only [WV.val, natInts_len, nats_natInts', hxl, hyl] at H
  unfold wordG at H
  rw [if_neg (by rw [chk2_ok hxl hyl h1 h17 hxr hyr]; simp)] at H
  unfold subR
  rw [hxl]
  exact H
theorem sLeR : Calls Tryz.prog 297 #[.pointer (some ⟨g, 0, none⟩), .slice xa n xc, .slice ya n yc] w fun e w' => e = .returned (.tuple #[.int .i64 (leR G x y).2.1, .int .i64 (leR G x y).2.2]) ∧ GTo w g (leR G x y).1 F w' := by
  have H := sLe_is h hx hy
  simp only [WV.val, natInts_len, nats_natInts', hxl, hyl] at H
  unfold refG at H
  rw [if_neg (by rw [chk2_ok hyl hxl h1 h17 hyr hxr]; simp)] at H
  unfold leR
  exact H
end
end Go.Proofs.YtehljgigebhddaaGreat
namespace Go.Proofs.YtehljgigebhddaaGreat
open Go.RowKit Go.Mem Go.Aig
section
variable {w : World} {g : Nat} {G : Gra} {F : List Nat}
theorem MakesW.stop {w W : World} {g : Nat} {G G' : Gra} {F F' : List Nat} (he : Ext G G') (h1 : GIn W g G' F') (h2 : Ch F w W) (h3 : ∀ k ∈ F', k ∈ F ∨ w.heap.size ≤ k) (h4 : F'[2]? = F[2]?) {R : Mk × List Nat} {er : Nat} (h0 : er ≠ 0) (hR : R.1.2 = er) : MakesW w g G F R (.panicked [{ v := stopV er, recovered := false }]) W :=
  .inr ⟨by rw [hR]; exact h0, by rw [hR], G', F', he, h1, h2, h3, h4⟩
set_option maxRecDepth 100000 in
set_option maxHeartbeats 4000000 in
theorem mdproduct_is (h : GIn w g G F) {x y : List Nat} {xa ya : Option Addr} {xc yc : Nat} (n : Nat) (hxl : x.length = n) (hyl : y.length = n) (h1 : 1 ≤ n) (h16 : n ≤ 16) (hxc : n ≤ xc)
    (hx : WVin w F ⟨xa, natInts x, xc⟩) (hy : WVin w F ⟨ya, natInts y, yc⟩) (hxr : ∀ r ∈ x, r < 2 * G.nodes.length) (hyr : ∀ r ∈ y, r < 2 * G.nodes.length) :
    Calls Tryz.prog 210 #[.pointer (some ⟨g, 0, none⟩), .slice xa n xc, .slice ya n yc] w (MakesW w g G F (prodF x (G, 0) y)) := by
  have hok := h.ok
  have HX := Lib.hid hx; clear hx
  have HY := Lib.hid hy; clear hy
  have HXR := Lib.hid hxr; clear hxr
  have HYR := Lib.hid hyr; clear hyr
  have H := Lib.hid h; clear h
  have HXL := Lib.hid hxl; clear hxl
  have HYL := Lib.hid hyl; clear hyl
  have HOK := Lib.hid hok; clear hok
  go_enter Tryz.func210, Tryz.ntmps210
  go_wp2_with fail
  go_loopw [7, 15] (fun ov i wr => ∃ (k : Nat) (Gp : Gra) (ol : List Nat), k ≤ n ∧ i = .int .i64 k ∧ prodF x (G, 0) (y.take k) = ((Gp, 0), ol) ∧ Ext G Gp ∧ (∀ r ∈ ol, r < 2 * Gp.nodes.length) ∧ (0 < k → ol.length = n) ∧ GVo w g Gp [] F ov ol wr) (fun _ i _ => n - (intOf i).toNat)
  case atStart => exact ⟨0, G, [], by omega, rfl, rfl, .refl _, by simp, by omega, GVo.nil H.out (Ch.refl _ _) (fun _ hk => .inl hk) rfl⟩
  case round =>
    obtain ⟨k, Gp, ol, hk, rfl, hst, hext, hol, holn, hv⟩ := hrel
    by_cases hlt : k < n
    · obtain ⟨b, hb⟩ : ∃ b, y[k]? = some b := ⟨_, List.getElem?_eq_getElem (by rw [HYL.out]; exact hlt)⟩
      have hcw : Ch F w wr := by obtain ⟨_, _, h2, _⟩ := hv; exact h2
      obtain ⟨yb, yo, rfl, hyc⟩ := HY.out.ok.sl.cells k (b : Int) (by simp [natInts, hb])
      have c0 := (hcw.cell (p := ⟨yb, yo + k, none⟩) (HY.out.apart yb (by simp [ablk])).2 (HY.out.apart yb (by simp [ablk])).1).trans hyc
      have hbr : b < 2 * Gp.nodes.length := hext.lt (HYR.out b (List.mem_of_getElem? hb))
      have hmk := run_make_refs wr k (by omega)
      have hV := Lib.hid hv; clear hv
      have HST := Lib.hid hst; clear hst
      have HEXT := Lib.hid hext; clear hext
      have HOL := Lib.hid hol; clear hol
      have HOLN := Lib.hid holn; clear holn
      have HB := Lib.hid hb; clear hb
      have HCW := Lib.hid hcw; clear hcw
      clear hyc
      go_wp2_with fail
      refine wp_named fun W0 hW0 => ?_
      obtain ⟨F0, hp0⟩ := P2.start hV.out k (by omega) hW0
      have hlim : (x.take (n - k)).length = n - k := by rw [List.length_take, HXL.out]; omega
      obtain ⟨X, hX⟩ : ∃ X, x.take (n - k) = X := ⟨_, rfl⟩
      have hXr : ∀ r ∈ X, r < 2 * Gp.nodes.length := fun r hr => HEXT.out.lt (HXR.out r (by rw [← hX] at hr; exact List.mem_of_mem_take hr))
      have hXat : ∀ j a, X[j]? = some a → x[j]? = some a := fun j a ha => by
        rw [← hX] at ha
        rw [List.getElem?_take] at ha
        split at ha
        · exact ha
        · cases ha
      rw [hX] at hlim
      have HP0 := Lib.hid hp0; clear hp0
      have HXX := Lib.hid hX; clear hX
      have HLIM := Lib.hid hlim; clear hlim
      have HXR2 := Lib.hid hXr; clear hXr
      have HXAT := Lib.hid hXat; clear hXat
      have hopA : Ok Gp := by obtain ⟨_, a, _⟩ := hV.out; exact a.ok
      have HOPA := Lib.hid hopA; clear hopA
      clear hW0 hmk c0
      go_loopw [10, 29] (fun pv i wq => ∃ (j : Nat) (Gq : Gra) (ml F' : List Nat), j ≤ n - k ∧ i = .int .i64 j ∧ andsF (Gp, 0) b (X.take j) = ((Gq, 0), ml) ∧ P2 w g F wq Gq F' u7 ol pv (List.replicate k 0 ++ ml)) (fun _ i _ => n - k - (intOf i).toNat)
      case atStart => exact ⟨0, Gp, [], F0, by omega, rfl, rfl, by simpa using HP0.out⟩
      case round =>
        obtain ⟨j, Gq, ml, F', hj, rfl, heq, hp⟩ := hrel
        have hlok := andsF_lok HOPA.out (l := X.take j) hbr (fun r hr => HXR2.out r (List.mem_of_mem_take hr))
        have hmll := andsF_len (Gp, 0) b (X.take j)
        rw [heq] at hlok hmll
        have hmll : ml.length = j := by rw [hmll, List.length_take]; have := HLIM.out; omega
        by_cases hjl : j < n - k
        · obtain ⟨a, ha⟩ : ∃ a, X[j]? = some a := ⟨_, List.getElem?_eq_getElem (by rw [HLIM.out]; exact hjl)⟩
          obtain ⟨xb, xo, rfl, hxc2⟩ := HX.out.ok.sl.cells j (a : Int) (by simp [natInts, HXAT.out j a ha])
          have c1 := (hp.ch.cell (p := ⟨xb, xo + j, none⟩) (HX.out.apart xb (by simp [ablk])).2 (HX.out.apart xb (by simp [ablk])).1).trans hxc2
          have haq := hlok.s.ext.lt (HXR2.out a (List.mem_of_getElem? ha))
          have hbq := hlok.s.ext.lt hbr
          have hAnd := And_r hp.gin haq hbq
          have hfa := and_full hlok.s.ok haq hbq
          have hsn : X.take (j + 1) = X.take j ++ [a] := by rw [List.take_add_one, ha]; rfl
          have hnx := andsF_snoc (Gp, 0) b (X.take j) a
          rw [heq, ← hsn] at hnx
          obtain ⟨Q, hQ⟩ : ∃ Q, Q = and Gq a b := ⟨_, rfl⟩
          have hopq : rop and (Gq, 0) a b = rstep (Gq, 0) Q := by rw [hQ]; rfl
          rw [← hQ] at hAnd hfa
          have hmust := fun W => mdmustR_is W (Q.2.1 : Int) Q.2.2
          have HAND := Lib.hid hAnd; clear hAnd
          have HFA := Lib.hid hfa; clear hfa
          have HNX := Lib.hid hnx; clear hnx
          have HP := Lib.hid hp; clear hp
          have HEQ := Lib.hid heq; clear heq
          have HOPQ := Lib.hid hopq; clear hopq
          have HLJ := Lib.hid hlok; clear hlok
          have HSN := Lib.hid hsn; clear hsn
          have HML := Lib.hid hmll; clear hmll
          have HMUST := Lib.hid hmust; clear hmust
          clear haq hbq hQ hxc2 HP0
          go_wp2_with fail
          refine HAND.out.mono ?_
          rintro e w6 ⟨rfl, hto⟩
          go_wp2_with fail
          refine (HMUST.out _).mono ?_
          rintro e w7 ⟨rfl, ⟨h0, rfl⟩ | ⟨h0, rfl⟩⟩
          · obtain ⟨F3, hp3⟩ := HP.out.to hto
            have hQlt := HFA.out.ok.lt
            have hQz : Q.2.2 = 0 := h0
            have hpl : (List.replicate k 0 ++ ml).length = k + j := by rw [List.length_append, List.length_replicate, HML.out]
            have hrow := hp3.prow
            rw [hpl] at hrow
            obtain ⟨pa, pc, rfl⟩ := row.shape hrow
            have hcA : Ch [] w6 (w6.alloc (.cells #[.int .i64 Q.2.1] 52)) := (Ch.refl _ _).alloc _
            have hrA := hrow.ch hcA (by simp)
            have hbA : blk (w6.alloc (.cells #[.int .i64 Q.2.1] 52)) w6.heap.size [.int .i64 Q.2.1] := blk.new' _ _ rfl
            have hnx := HNX.out
            unfold eachS at hnx
            simp only [HOPQ.out, rstep_ok (s := (Gq, 0)) rfl hQz] at hnx
            have HNX2 := Lib.hid hnx; clear hnx
            have HRA := Lib.hid hrA; clear hrA hrow
            have HBA := Lib.hid hbA; clear hbA
            have HCA := Lib.hid hcA; clear hcA
            have HP3 := Lib.hid hp3; clear hp3 hto
            clear hQz HMUST HAND
            go_wp2_with (at_builtin; go_loud (refine wpList_append_row slRefs rfl _ _ rfl (v := .slice pa (k + j) pc) (n := k + j) (xs := refsCells (List.replicate k 0 ++ ml)) rfl HRA.out (ad := ⟨w6.heap.size, 0, none⟩) (m := 1) (c := 1) (news := [.int .i64 Q.2.1]) rfl rfl (news_blk HBA.out) (by simp [Value.oneCell']) (by omega) (by omega) ?_; intro v' w5 hown4 hC4 hf4; have HO4 := Lib.hid hown4; clear hown4; have HCC4 := Lib.hid hC4; clear hC4; have HF4 := Lib.hid hf4; clear hf4))
            go_roundw
            case rel =>
              refine ⟨j + 1, Q.1, ml ++ [Q.2.1], F3, by omega, by go_num, HNX2.out, ?_⟩
              rw [← List.append_assoc]
              exact HP3.out.app HCA.out (by rw [hpl]; exact HO4.out) HCC4.out HF4.out
            case measure => simp [intOf]; omega
          · obtain ⟨F3, hp3⟩ := HP.out.to hto
            have hQ := HFA.out.keep h0
            subst hQ
            have hnx := HNX.out
            unfold eachS at hnx
            simp only [HOPQ.out, rstep_no (s := (Gq, 0)) rfl h0] at hnx
            have hb2 := andsF_bad (Gp, 0) b (X.take (j + 1)) (X.drop (j + 1)) (by rw [hnx]; simp)
            rw [List.take_append_drop, hnx] at hb2
            have hR := prodF_and_stop HST.out HB.out (e := 201) (by omega) (by rw [HXL.out, HXX.out, hb2])
            have hstop := MakesW.stop ((HEXT.out).trans HLJ.out.s.ext) hp3.gin hp3.ch hp3.own hp3.f2 h0 hR
            have HSTOP := Lib.hid hstop
            clear hstop hR hb2 hnx hp3
            go_wp2_with fail
            exact ⟨rfl, HSTOP.out⟩
        · have hjn : j = n - k := by omega
          rw [List.take_of_length_le (by have := HLIM.out; omega)] at heq
          have hA : andsF (Gp, 0) b (x.take (x.length - k)) = ((Gq, 0), ml) := by rw [HXL.out, HXX.out]; exact heq
          have hmlr : ∀ r ∈ ml, r < 2 * Gq.nodes.length := hlok.lt
          have hextq : Ext Gp Gq := hlok.s.ext
          by_cases hk0 : k = 0
          · have hnz := prodF_zero HST.out HB.out hk0 hA
            have hv2 := hp.second
            have hlen : (List.replicate k 0 ++ ml).length = n := by rw [List.length_append, List.length_replicate]; omega
            have hkz : ((k : Int) == 0) = true := by simp; omega
            have HNZ := Lib.hid hnz; clear hnz
            have HV2 := Lib.hid hv2; clear hv2
            have HLEN := Lib.hid hlen; clear hlen
            have HMLR := Lib.hid hmlr; clear hmlr
            have HEXQ := Lib.hid hextq; clear hextq
            have HP := Lib.hid hp; clear hp
            clear hA heq hlok hjl
            go_wp2_with fail
            go_roundw
            case rel =>
              refine ⟨k + 1, Gq, List.replicate k 0 ++ ml, by omega, by go_num, HNZ.out, HEXT.out.trans HEXQ.out, fun r hr => ?_, fun _ => HLEN.out, HV2.out⟩
              rcases List.mem_append.1 hr with hr | hr
              · rw [(List.mem_replicate.1 hr).2]; have := HP.out.gin.ok.wf.pos; omega
              · exact HMLR.out r hr
            case measure => simp [intOf]; omega
          · have hkz : ((k : Int) == 0) = false := by simp; omega
            have hlen : (List.replicate k 0 ++ ml).length = n := by rw [List.length_append, List.length_replicate]; omega
            have hol2 := HOLN.out (by omega)
            have ho := hp.orow
            have hpr := hp.prow
            rw [hol2] at ho
            rw [hlen] at hpr
            obtain ⟨oa, oc, rfl⟩ := row.shape ho
            obtain ⟨pa, pc, rfl⟩ := row.shape hpr
            have hlt1 : ∀ r ∈ ol, r < 2 * Gq.nodes.length := fun r hr => hextq.lt (HOL.out r hr)
            have hlt2 : ∀ r ∈ List.replicate k 0 ++ ml, r < 2 * Gq.nodes.length := fun r hr => by
              rcases List.mem_append.1 hr with hr | hr
              · rw [(List.mem_replicate.1 hr).2]; have := hp.gin.ok.wf.pos; omega
              · exact hmlr r hr
            have hsm := hp.gin.ok.small
            have hadd := sAddR hp.gin n hol2 hlen h1 (by omega) (wv_of_row hp.orow hol2 (fun q hq => (hp.olo q hq).2) (by omega) (fun r hr => by have := hlt1 r hr; omega)) (wv_of_row hp.prow hlen (fun q hq => (hp.plo q hq).2) (by omega) (fun r hr => by have := hlt2 r hr; omega)) hlt1 hlt2
            have hwok := addR_wok hp.gin.ok hlt1 hlt2
            have hlnA := addR_len (G := Gq) hol2 hlen
            have hmore := prodF_more HST.out HB.out hk0 hA
            have hastop := prodF_add_stop HST.out HB.out hk0 hA
            obtain ⟨S, hS⟩ : ∃ S, addR Gq ol (List.replicate k 0 ++ ml) = S := ⟨_, rfl⟩
            rw [hS] at hadd hwok hlnA hmore hastop
            have HADD := Lib.hid hadd; clear hadd
            have HWOK := Lib.hid hwok; clear hwok
            have HLNA := Lib.hid hlnA; clear hlnA
            have HMORE := Lib.hid hmore; clear hmore
            have HASTOP := Lib.hid hastop; clear hastop
            have HP := Lib.hid hp; clear hp
            have HEXQ := Lib.hid hextq; clear hextq
            clear hS hlt1 hlt2 hmlr hA heq hlok hjl ho hpr hlen hol2 HP0
            go_wp2_with fail
            refine HADD.out.mono ?_
            rintro e w6 ⟨v, rfl, hgv⟩
            have hgn := GVo.next' HP.out.ch HP.out.own HP.out.f2 hgv
            obtain ⟨va, vc, rfl⟩ : ∃ va vc, v = .slice va S.2.1.length vc := by
              obtain ⟨_, _, _, _, _, hr, _⟩ := hgv
              exact row.shape hr
            have HGN := Lib.hid hgn; clear hgn hgv HADD
            have hmust := mdmustW_is w6 va S.2.1.length vc S.2.2
            have HMUST := Lib.hid hmust; clear hmust
            go_wp2_with fail
            refine HMUST.out.mono ?_
            rintro e w7 ⟨rfl, ⟨h0, rfl⟩ | ⟨h0, rfl⟩⟩
            · go_wp2_with fail
              go_roundw
              case rel => exact ⟨k + 1, S.1, S.2.1, by omega, by go_num, HMORE.out h0, (HEXT.out.trans HEXQ.out).trans HWOK.out.ext, HWOK.out.lt, fun _ => HLNA.out h0, HGN.out⟩
              case measure => simp [intOf]; omega
            · obtain ⟨F9, q1, q2, q3, q4, _⟩ := HGN.out
              have hstop := MakesW.stop ((HEXT.out.trans HEXQ.out).trans HWOK.out.ext) q1 (by simpa using q2) q3 q4 h0 (HASTOP.out h0)
              have HSTOP := Lib.hid hstop
              clear hstop q1 q2 q3 q4
              go_wp2_with fail
              exact ⟨rfl, HSTOP.out⟩
    · have hkn : k = n := by omega
      subst hkn
      rw [List.take_of_length_le (by rw [HYL.out]; omega)] at hst
      clear HX HY
      go_wp2_with fail
      go_ret
      exact .inl ⟨by rw [hst], _, rfl, by rw [hst]; exact hv⟩
end
end Go.Proofs.YtehljgigebhddaaGreat
namespace Go.Aig
/-- the product of two words -/
def mulG (G : Gra) (x y : List Int) : Gra × List Nat × Nat := if chk24 G [x, y] ≠ 0 then (G, [], chk24 G [x, y]) else wres G (prodF (nats x) (G, 0) (nats y))
structure Chk24 (G : Gra) (x y : List Int) : Prop where
  len : y.length = x.length
  lo : 1 ≤ x.length
  hi : x.length ≤ 16
  ex : natInts (nats x) = x
  ey : natInts (nats y) = y
  rx : ∀ r ∈ nats x, r < 2 * G.nodes.length
  ry : ∀ r ∈ nats y, r < 2 * G.nodes.length
theorem chk24_ok {G : Gra} {x y : List Int} (h : chk24 G [x, y] = 0) : Chk24 G x y := by
  unfold chk24 at h
  split at h
  · cases h
  · rename_i h1
    split at h
    · cases h
    · rename_i h2
      simp only [List.any_cons, List.any_nil, Bool.or_false, List.headD_cons, Bool.or_eq_true, not_or, Bool.not_eq_true] at h1 h2
      have hx := badIn_no h2.1
      have hy := badIn_no h2.2
      unfold bad24 at h1
      simp only [Bool.or_eq_false_iff, decide_eq_false_iff_not] at h1
      exact ⟨by have := h1.2.2.2; omega, by omega, by omega, hx.1, hy.1, hx.2, hy.2⟩
theorem chk24_small (G : Gra) (ws : List (List Int)) : chk24 G ws ≤ 240 := by unfold chk24; split; omega; split <;> omega
end Go.Aig
namespace Go.Proofs.YtehljgigebhddaaGreat
open Go.RowKit Go.Mem Go.Aig
theorem GVo.after {w W1 W W' : World} {g : Nat} {G1 : Gra} {F T : List Nat} {v : Value} {l : List Nat} (h : GVo W1 g G1 [] F v l W) (hc : Ch [] w W1) (hT : Ch T W W') (hTF : ∀ k ∈ T, k ∉ F ∧ w.heap.size ≤ k ∧ k < W1.heap.size) : GVo w g G1 [] F v l W' := by
  obtain ⟨F', h1, h2, h3, h4, h5, h6⟩ := h
  have hz := hc.size
  have hn : ∀ k ∈ T, k ∉ F' := fun k hk hm => (h3 k hm).elim (hTF k hk).1 (fun e => by have := (hTF k hk).2.2; omega)
  refine ⟨F', h1.same hT (fun k hk hm => hn k hm hk), ((hc.mono (F' := [] ++ F) (by simp)).trans h2 (fun k hk => .inl hk)).trans hT (fun k hk => .inr (hTF k hk).2.1), fun k hk => (h3 k hk).imp id (fun e => by omega), h4, h5.ch hT (fun k hk hm => ?_), fun k hk => ⟨by have := (h6 k hk).1; omega, (h6 k hk).2⟩⟩
  have := (h6 k hk).1
  have := (hTF k hm).2.2
  omega
section
variable {w : World} {g : Nat} {G : Gra} {F : List Nat}
theorem fnvmdMul1 : Fnv 209 := fnv_of Tryz.func209 (by simp [Tryz.f209]) (by simp [Tryz.f209])
/-- what the closure of Mul does if it is not stopped: the word is in its cell -/
def MulD (g : Nat) (F : List Nat) (R : Mk × List Nat) (bo : Nat) (w w' : World) : Prop := R.1.2 = 0 ∧ ∃ v W, GVo w g R.1.1 [] F v R.2 W ∧ w' = W.setCell ⟨bo, 0, none⟩ v
set_option maxRecDepth 100000 in
set_option maxHeartbeats 2000000 in
theorem mdMul1_is (h : GIn w g G F) {x y : List Nat} {xa ya : Option Addr} {xc yc : Nat} (n : Nat) (hxl : x.length = n) (hyl : y.length = n) (h1 : 1 ≤ n) (h16 : n ≤ 16) (hxc : n ≤ xc)
    (hx : WVin w F ⟨xa, natInts x, xc⟩) (hy : WVin w F ⟨ya, natInts y, yc⟩) (hxr : ∀ r ∈ x, r < 2 * G.nodes.length) (hyr : ∀ r ∈ y, r < 2 * G.nodes.length)
    {bg bx bY bo : Nat} (hg : blk w bg [.pointer (some ⟨g, 0, none⟩)]) (hbx : blk w bx [.slice xa n xc]) (hby : blk w bY [.slice ya n yc]) (hbo : blk w bo [.slice none 0 0]) (hF : bo ∉ F) :
    Calls Tryz.prog 209 #[.pointer (some ⟨bg, 0, none⟩), .pointer (some ⟨bx, 0, none⟩), .pointer (some ⟨bY, 0, none⟩), .pointer (some ⟨bo, 0, none⟩)] w (Stops w g G [bo] F (prodF x (G, 0) y).1.2 (MulD g F (prodF x (G, 0) y) bo)) := by
  have HM := mdproduct_is h n hxl hyl h1 h16 hxc hx hy hxr hyr
  have c0 := hg.cell (i := 0) rfl
  have c1 := hbx.cell (i := 0) rfl
  have c2 := hby.cell (i := 0) rfl
  clear hg hbx hby h hx hy hxr hyr
  generalize prodF x (G, 0) y = R at *
  go_enter Tryz.func209, Tryz.ntmps209
  go_wp2_with fail
  refine HM.mono ?_
  rintro e w1 (⟨h0, v, rfl, hv⟩ | ⟨h0, rfl, G', F', q1, q2, q3, q4, q5⟩)
  · have hb : blk w1 bo [.slice none 0 0] := by
      obtain ⟨_, _, hc, _⟩ := hv
      exact hbo.ch hc (by simpa using hF)
    have z := hb.cell (i := 0) rfl
    have f := hb.frozen (i := 0)
    obtain ⟨va, vc, rfl⟩ : ∃ va vc, v = .slice va R.2.length vc := by
      obtain ⟨_, _, _, _, _, hr, _⟩ := hv
      exact row.shape hr
    have HV := Lib.hid hv; clear hv
    go_wp2_with fail
    exact ⟨rfl, .tuple #[], by simp [results, Tryz.results209], .inl ⟨h0, rfl, h0, _, w1, HV.out, rfl⟩⟩
  · have hst : Stops w g G [bo] F R.1.2 (MulD g F R bo) (.panicked [{ v := stopV R.1.2, recovered := false }]) w1 := .inr ⟨h0, rfl, G', F', q1, q2, q3.mono (fun k hk => .inl (List.mem_append_right _ hk)), q4, q5⟩
    have HS := Lib.hid hst
    clear hst q1 q2 q3 q4
    go_wp2_with fail
    exact ⟨rfl, HS.out⟩
set_option maxRecDepth 100000 in
set_option maxHeartbeats 2000000 in
theorem mdMul_is (h : GIn w g G F) {x y : WV} (hx : WVin w F x) (hy : WVin w F y) (hxc : x.l.length ≤ x.c) :
    Calls Tryz.prog 102 #[.pointer (some ⟨g, 0, none⟩), x.val, y.val] w fun e w' => ∃ v, e = .returned (.tuple #[v, .int .i64 (mulG G x.l y.l).2.2]) ∧ GVo w g (mulG G x.l y.l).1 [] F v (mulG G x.l y.l).2.1 w' := by
  have hFl := h.lt
  obtain ⟨xa, xl, xc⟩ := x
  obtain ⟨ya, yl, yc⟩ := y
  simp only [WV.val] at *
  unfold mulG
  have hch := chk24_ok (G := G) (x := xl) (y := yl)
  have hcs := chk24_small G [xl, yl]
  have hmf : ∀ (fn : Fn) (first cap : Array Value) (w : World), (Instr.makeFunc fn first cap).run Tryz.prog w = .ok (.func fn first cap) w := fun _ _ _ _ => rfl
  generalize hc : chk24 G [xl, yl] = cc at *
  have hC : ∀ W, Ch [] w W → ∀ b, blk W b [.slice xa xl.length xc, .slice ya yl.length yc] → Calls Tryz.prog 207 #[.pointer (some ⟨g, 0, none⟩), .slice (some ⟨b, 0, none⟩) 2 2] W fun e w' => e = .returned (.int .i64 cc) ∧ Ch [] W w' := fun W hW b hb => by
    have := mdcheck_is (h.same hW (by simp)) (b := b) (ws := [⟨xa, xl, xc⟩, ⟨ya, yl, yc⟩]) 2 2 rfl (by omega) (fun i z hz => by
      match i, hz with
      | 0, hz => cases hz; exact hb.cell rfl
      | 1, hz => cases hz; exact hb.cell rfl) (fun z hz => by
      simp only [List.mem_cons, List.not_mem_nil, or_false] at hz
      rcases hz with rfl | rfl
      · exact (hx.ch hW).ok
      · exact (hy.ch hW).ok)
    rw [show ([⟨xa, xl, xc⟩, ⟨ya, yl, yc⟩] : List WV).map WV.l = [xl, yl] from rfl, hc] at this
    exact this
  have HC := Lib.hid hC; clear hC
  have HX := Lib.hid hx; clear hx
  have HY := Lib.hid hy; clear hy
  have H := Lib.hid h; clear h
  have HCH := Lib.hid hch; clear hch
  clear hc
  generalize hWW : (if cc ≠ 0 then (G, [], cc) else wres G (prodF (nats xl) (G, 0) (nats yl)) : Gra × List Nat × Nat) = WW
  have HWW := Lib.hid hWW; clear hWW
  go_enter Tryz.func102, Tryz.ntmps102
  go_wp2_with fail
  refine calls_named fun W0 hW0 => ?_
  have hc0 : Ch [] w W0 := by rw [hW0]; exact ((((Ch.refl _ _).alloc _).alloc _).alloc _).alloc _
  have hbg : blk W0 w.heap.size [.pointer (some ⟨g, 0, none⟩)] := by rw [hW0]; exact (((blk.new w _ _).alloc _).alloc _).alloc _
  have hbx : blk W0 (w.heap.size + 1) [.slice xa xl.length xc] := by rw [hW0]; exact ((blk.new' _ _ (by simp)).alloc _).alloc _
  have hby : blk W0 (w.heap.size + 1 + 1) [.slice ya yl.length yc] := by rw [hW0]; exact (blk.new' _ _ (by simp)).alloc _
  have hbl : blk W0 (w.heap.size + 1 + 1 + 1) [.slice xa xl.length xc, .slice ya yl.length yc] := by rw [hW0]; exact blk.new' _ _ (by simp)
  clear hW0
  refine (HC.out W0 hc0 _ hbl).mono ?_
  rintro e w1 ⟨rfl, hc1⟩
  have hc01 := hc0.trans hc1 (by simp)
  have hbg := hbg.ch hc1 (by simp)
  have hbx := hbx.ch hc1 (by simp)
  have hby := hby.ch hc1 (by simp)
  clear hbl hc0 hc1
  by_cases hcc : cc = 0
  · subst hcc
    obtain ⟨k1, k2, k3, k4, k5, k6, k7⟩ := HCH.out rfl
    have d0 := (hbg.alloc (.cells #[.slice none 0 0] 45)).cell (i := 0) rfl
    have hc2 : Ch [] w (w1.alloc (.cells #[.slice none 0 0] 45)) := hc01.alloc _
    have hbo : blk (w1.alloc (.cells #[.slice none 0 0] 45)) w1.heap.size [.slice none 0 0] := blk.new _ _ _
    have hz1 := hc01.size
    have hB := mdbuild_is (H.out.same hc2 (by simp)) 209 #[.pointer (some ⟨w.heap.size, 0, none⟩), .pointer (some ⟨w.heap.size + 1, 0, none⟩), .pointer (some ⟨w.heap.size + 1 + 1, 0, none⟩), .pointer (some ⟨w1.heap.size, 0, none⟩)] fnvmdMul1 [w1.heap.size] (by simp) (prodF (nats xl) (G, 0) (nats yl)).1.2 (MulD g F (prodF (nats xl) (G, 0) (nats yl)) w1.heap.size) (fun a b hd => by
      obtain ⟨_, v, W, ⟨_, _, q, _⟩, rfl⟩ := hd
      exact ((q.mono (fun k hk => .inl (List.mem_append_right _ hk))).setCell (.inl (by simp)) _)) (fun W hW hG => by
      have := mdMul1_is hG (x := nats xl) (y := nats yl) (xa := xa) (ya := ya) (xc := xc) (yc := yc) xl.length (by simp) (by simp [k1]) k2 k3 hxc
        (by rw [k4]; exact HX.out.ch (hc2.trans hW (by simp))) (by rw [k5]; exact HY.out.ch (hc2.trans hW (by simp))) k6 k7 ((hbg.alloc _).ch hW (by simp)) ((hbx.alloc _).ch hW (by simp)) (by rw [← k1]; exact (hby.alloc _).ch hW (by simp)) (hbo.ch hW (by simp)) (fun hm => by have := hFl _ hm; omega)
      exact this)
    have HB := Lib.hid hB; clear hB
    have hww := HWW.out
    rw [if_neg (by simp)] at hww
    clear HWW
    generalize prodF (nats xl) (G, 0) (nats yl) = R at *
    unfold wres at hww
    have HC01 := Lib.hid hc01; clear hc01
    have HBO := Lib.hid hbo; clear hbo
    have HC2 := Lib.hid hc2; clear hc2
    clear hbg hbx hby HX HY HCH HC k1 k2 k3 k4 k5 k6 k7
    go_wp2_with fail
    refine HB.out.mono ?_
    rintro e w2 ⟨rfl, ⟨h0, be, W1, W2, hb1, hb2, hW1, ⟨_, v, Wm, hgv, rfl⟩, hc2⟩ | ⟨h0, F', q1, q2, q3, q4⟩⟩
    · rw [if_neg (by simpa using h0)] at hww
      subst hww
      have hzc := HC2.out.size
      have hlt1 := HBO.out.lt
      have hz := hW1.size
      have hbe : be ≠ w1.heap.size := fun e => by rw [e] at hb1; omega
      have hbm : blk Wm w1.heap.size [.slice none 0 0] := by
        obtain ⟨_, _, q, _⟩ := hgv
        exact (HBO.out.ch hW1 (by simp)).ch q (fun hm => by have := hFl _ (by simpa using hm); omega)
      have hb3 := (hbm.set (i := 0) v).ch hc2 (by simpa using fun e => hbe e.symm)
      have d1 := hb3.cell (i := 0) rfl
      have hfin : GVo w g R.1.1 [] F v R.2 w2 := by
        refine GVo.after (T := [w1.heap.size, be]) hgv (HC2.out.trans hW1 (by simp)) ((((Ch.refl [w1.heap.size, be] Wm)).setCell (.inl (by simp)) v).trans hc2 (fun k hk => .inl (by simp at hk; simp [hk]))) (fun k hk => ?_)
        simp only [List.mem_cons, List.not_mem_nil, or_false] at hk
        rcases hk with rfl | rfl
        · exact ⟨fun hm => by have := hFl _ hm; omega, by omega, by omega⟩
        · exact ⟨fun hm => by have := hFl _ hm; omega, by omega, hb2⟩
      have HFIN := Lib.hid hfin
      rw [h0]
      clear hfin hgv hbm hb3 hc2 hW1
      go_wp2_with fail
      go_ret2
      exact ⟨_, rfl, HFIN.out⟩
    · have he : ((R.1.2 : Int) != 0) = true := by simp; omega
      rw [if_pos h0] at hww
      subst hww
      have hzc := HC2.out.size
      have hgv : GVo w g G [] F (.slice none 0 0) [] w2 := by
        refine GVo.nil q1 ((HC2.out.mono (by simp)).trans q2 (fun k hk => ?_)) (fun k hk => (q3 k hk).imp id (fun e => by omega)) q4
        rcases List.mem_append.1 hk with hk | hk
        · right; rw [List.mem_singleton.1 hk]; omega
        · exact .inl (by simpa using hk)
      have HGV := Lib.hid hgv
      clear hgv q1 q2 q3 q4
      go_wp2_with fail
      go_ret2
      exact ⟨_, rfl, HGV.out⟩
  · have hq : ((cc : Int) != 0) = true := by simp; omega
    have hgv : GVo w g G [] F (.slice none 0 0) [] w1 := GVo.none H.out hc01
    have HGV := Lib.hid hgv; clear hgv hc01 hbg hbx hby HX HY HCH HC
    have hww := HWW.out
    rw [if_pos hcc] at hww
    subst hww
    have HQ := Lib.hid hcc; clear hcc
    go_wp2_with fail
    go_ret2
    exact ⟨_, rfl, HGV.out⟩
end
end Go.Proofs.YtehljgigebhddaaGreat
namespace Go
open Go.RowKit Go.Mem
section
variable {F : Fence} {n : Nat} {P : Program}
theorem wpIn_rangeFunc_R {g : Operand} {ps : Array Tmp} {assign body : Code} {Q : Exit → Act → World → Prop} {a : Act} {w : World} (B : Nat) (hB : w.heap.size = B)
    (hro : F.round = none) (h1 : 1 ≤ n) {gf : Nat} {lb : Array Value} (hg : a.eval g = .func (.func gf) #[] lb) (hFg : F.fn gf) (eg : ∀ args w, (callFunc gf args).run P w = .ok (.enter gf args) w)
    {ι : Type} {encs : ι → Array Value} (hps : ∀ x, (encs x).size = ps.size) (J0 : World → Prop) (K J : ι → World → Prop) (D : World → Prop) (DP : List PanicEntry → World → Prop)
    (hseq : ∀ (l : Nat) (X : World → Prop), (∀ A A' L, X A → Ch L A A' → (∀ q ∈ L, q ≠ B ∧ q ≠ B + 1) → X A') → (∀ A, X A → B + 2 ≤ A.heap.size) →
      (∀ x W, K x W → X W → YieldAt F (n - 1 - 1) P l (encs x) W fun e W' => e = .returned (.bool true) ∧ J x W' ∧ X W') →
      ∀ W, J0 W → X W → CallsIn F (n - 1) P gf (#[.func (.yield l) #[] #[]] ++ lb) W fun e W' => ((∃ v, e = .returned v) ∧ D W' ∧ X W') ∨ (∃ c, e = .panicked c ∧ DP c W' ∧ X W'))
    (hJ0 : ∀ A A', J0 A → Ch [B, B + 1] A A' → J0 A') (hK : ∀ x A A', K x A → Ch [B, B + 1] A A' → K x A') (hJ : ∀ x A A', J x A → Ch [B, B + 1] A A' → J x A') (hD : ∀ A A', D A → Ch [B, B + 1] A A' → D A')
    (hpan : ∀ (c : List PanicEntry) (W : World), DP c W → W.heap[B]? = some (.deferred (some [])) → B + 2 ≤ W.heap.size → Q (.panic c) { a with defers := { target := .collected B, args := #[] } :: a.defers } W)
    (h0 : J0 w) (a₁ : ι → Act)
    (hassign : ∀ (l : Nat) (x : ι) (W : World) (K : Act → World → Prop), K (a₁ x) W →
      assign.wpIn (F.inRound l) (n - 1 - 1) P (Exit.then K (fun _ _ _ => False)) { tmps := (ps.zip (encs x)).foldl (fun t (p, v) => t.setIfInBounds p v) a.tmps, defers := [] } W)
    (hbody : ∀ (l : Nat) (x : ι) (W : World), K x W → B + 2 ≤ W.heap.size → body.wpIn (F.inRound l) (n - 1 - 1) P (fun e _ W' => Books B W W' ∧ e = .normal ∧ J x W') (a₁ x) W)
    (hdone : ∀ (W : World), D W → W.heap[B]? = some (.deferred (some [])) → B + 2 ≤ W.heap.size → Q .normal { a with defers := { target := .collected B, args := #[] } :: a.defers } W) :
    (Code.rangeFunc g ps assign body).wpIn F n P Q a w := by
  subst hB
  refine wpIn_rangeFunc fun fn hfn => ?_
  rw [hro]
  let rec0 : LoopState → Option Code → Loop := fun st pe => { state := st, pending := pe, fn, tmps := a.tmps, params := ps, assign, body, defers := w.heap.size }
  obtain ⟨W1, hW1⟩ : ∃ W1, (w.alloc (.deferred (some []))).alloc (.loop (rec0 .ready none)) = W1 := ⟨_, rfl⟩
  have hz1 : W1.heap.size = w.heap.size + 2 := by rw [← hW1]; simp
  have hL1 : W1.heap[w.heap.size + 1]? = some (.loop (rec0 .ready none)) := by
    rw [← hW1]; have := World.alloc_heap_new (w.alloc (.deferred (some []))) (.loop (rec0 .ready none)); rwa [World.size_alloc] at this
  have hK1 : W1.heap[w.heap.size]? = some (.deferred (some [])) := by
    rw [← hW1]; exact (Below.heap_alloc _ _ _ (by simp)).trans (World.alloc_heap_new w _)
  have hc1 : Ch [] w W1 := by rw [← hW1]; exact ((Ch.refl _ _).alloc _).alloc _
  have hI1 : J0 W1 := hJ0 _ _ h0 (hc1.mono (by simp))
  refine ⟨w.heap.size + 1, [{ target := .collected w.heap.size, args := #[] }], W1, { target := .fn (.func gf) lb, args := #[.func (.yield (w.heap.size + 1)) #[] #[]] }, W1, gf,
    #[.func (.yield (w.heap.size + 1)) #[] #[]] ++ lb, W1, ?_, ?_, ?_, ?_, fun _ => h1, ?_⟩
  · rw [← hW1]; exact run_enterLoop_outer _ _ _ _ _
  · simp only [resolve, hg]
    simp [go_sem]
  · intro f' hf'; simp [Target.leads] at hf'; subst hf'; exact hFg
  · simp [invoke, go_sem, eg]
  · refine (hseq (w.heap.size + 1) (fun W => w.heap.size + 2 ≤ W.heap.size ∧ W.heap[w.heap.size + 1]? = some (.loop (rec0 .ready none)) ∧ W.heap[w.heap.size]? = some (.deferred (some [])))
      (fun A A' L hs hc hL => ⟨Nat.le_trans hs.1 hc.size, (hc.block _ (by have := hs.1; omega) (fun hin => (hL _ hin).2 rfl)).trans hs.2.1, (hc.block _ (by have := hs.1; omega) (fun hin => (hL _ hin).1 rfl)).trans hs.2.2⟩)
      (fun A hA => hA.1) ?_ W1 hI1 ⟨by omega, hL1, hK1⟩).mono ?_
    · rintro x W hi ⟨hz, hl, hk⟩
      have hlt : w.heap.size + 1 < W.heap.size := by omega
      refine ⟨fn, _, assign, body, run_yield (P := P) (args := encs x) hl (hps x), roundIn_of_wpIn hfn (hassign _ x W _ ⟨_, run_beginRound hl rfl, ?_⟩)⟩
      have hl2 : (W.putObj (w.heap.size + 1) (.loop (rec0 .busy none))).heap[w.heap.size + 1]? = some (.loop (rec0 .busy none)) := World.putObj_heap_same hlt
      have hk2 : (W.putObj (w.heap.size + 1) (.loop (rec0 .busy none))).heap[w.heap.size]? = some (.deferred (some [])) := (World.putObj_heap_other (by omega)).trans hk
      refine wpIn_mono (hbody _ x _ (hK _ _ _ hi (ch_put (by simp))) (by simp; omega)) ?_
      rintro e a3 W3 ⟨⟨hb0, hb1⟩, rfl, hi3⟩
      have hl3 := hb1.trans hl2
      have hlt3 := (Array.getElem?_eq_some_iff.1 hl3).1
      exact ⟨_, _, run_endRound (P := P) none hl3, rfl, hJ _ _ _ hi3 (ch_put (by simp)), by simp; omega, World.putObj_heap_same hlt3, (World.putObj_heap_other (by omega)).trans (hb0.trans hk2)⟩
    · rintro e W2 (⟨⟨v, rfl⟩, hi, hz, hl, hk⟩ | ⟨c, rfl, hi, hz, hl, hk⟩)
      · exact ⟨none, _, run_endLoop (P := P) hl (by simp [rec0]), hdone _ (hD _ _ hi (ch_put (by simp))) ((World.putObj_heap_other (by omega)).trans hk) (by simp; omega)⟩
      · exact hpan c _ hi hk hz
end
end Go
namespace Go
open Go.RowKit Go.Mem
section
variable {F : Fence} {n : Nat} {P : Program}
/-- the walk of a piece of code of one function -/
def Code.wpAt (f₀ : FuncId) (F : Fence) (n : Nat) (P : Program) (c : Code) (Q : Exit → Act → World → Prop) (a : Act) (w : World) : Prop :=
  ∀ (b : Frame) (k : List Item) (cs : List Frame), b.fn = f₀ → b.roundOf = F.round → F.fn b.fn → F.room (cs.length + 1 + n) →
    ∃ e a' w', Q e a' w' ∧ ArrivesIn (Machine.fenced P F) P (lone (b.atR a (.code c :: k)) cs w) b k cs e a' w'
theorem wpAt_of_wpIn {f₀ : FuncId} {c : Code} {Q : Exit → Act → World → Prop} {a : Act} {w : World} (h : c.wpIn F n P Q a w) : c.wpAt f₀ F n P Q a w := fun b k cs _ hro hb hr => h b k cs hro hb hr
theorem wpAt_named {f₀ : FuncId} {c : Code} {Q : Exit → Act → World → Prop} {a : Act} {w : World} (h : ∀ W, W = w → c.wpAt f₀ F n P Q a W) : c.wpAt f₀ F n P Q a w := h _ rfl
theorem wpAt_seq {f₀ : FuncId} {x y : Code} {Q : Exit → Act → World → Prop} {a : Act} {w : World} (h : x.wpAt f₀ F n P (Exit.then (y.wpAt f₀ F n P Q) Q) a w) : (Code.seq x y).wpAt f₀ F n P Q a w := by
  intro b k cs hf hro hb hr
  have h0 : (lone (b.atR a (.code (.seq x y) :: k)) cs w).fenced P F := fenced_calm hb hr rfl
  obtain ⟨e, a₁, w₁, hq, harr⟩ := h b (.code y :: k) cs hf hro hb hr
  cases e with
  | normal =>
    obtain ⟨e₂, a₂, w₂, hq₂, harr₂⟩ := hq b k cs hf hro hb hr
    exact ⟨e₂, a₂, w₂, hq₂, .of_steps (.head h0 stepR_seq harr) harr₂⟩
  | exit id => exact ⟨_, a₁, w₁, hq, .of_steps (.one h0 stepR_seq) (.pass (x := .code y) rfl (fun _ _ => .inl (by simp)) harr)⟩
  | goto l => exact ⟨_, a₁, w₁, hq, .of_steps (.one h0 stepR_seq) (.pass (x := .code y) rfl (fun _ _ => .inl (by simp)) harr)⟩
  | ret => exact ⟨_, a₁, w₁, hq, .of_steps (.one h0 stepR_seq) (.pass (x := .code y) rfl (fun _ _ => .inl (by simp)) harr)⟩
  | panic ch => exact ⟨_, a₁, w₁, hq, .of_steps (.one h0 stepR_seq) (.pass (x := .code y) rfl (fun _ _ => .inl (by simp)) harr)⟩
  | outgrown => exact ⟨_, a₁, w₁, hq, .of_steps (.one h0 stepR_seq) (.pass (x := .code y) rfl (fun _ _ => .inl (by simp)) harr)⟩
/-- a block around a range: it ends, or it panics -/
theorem wpAt_block {f₀ : FuncId} {id : Nat} {c : Code} {Q : Exit → Act → World → Prop} {a : Act} {w : World} (h : c.wpAt f₀ F n P (fun e a w => (e = .normal ∧ Q .normal a w) ∨ ∃ ch, e = .panic ch ∧ Q (.panic ch) a w) a w) : (Code.block id c).wpAt f₀ F n P Q a w := by
  intro b k cs hf hro hb hr
  have h0 : (lone (b.atR a (.code (.block id c) :: k)) cs w).fenced P F := fenced_calm hb hr rfl
  obtain ⟨e, a₁, w₁, hq, harr⟩ := h b (.inBlock id :: k) cs hf hro hb hr
  rcases hq with ⟨rfl, hq⟩ | ⟨ch, rfl, hq⟩
  · exact ⟨.normal, a₁, w₁, hq, .head h0 stepR_block (StepsIn.trans harr (.one (fenced_calm hb hr rfl) stepR_inBlock))⟩
  · exact ⟨_, a₁, w₁, hq, .of_steps (.one h0 stepR_block) harr⟩
/-- a round whose body may panic -/
def roundPostP (P : Program) (l : Nat) (R : Ending → World → Prop) : Exit → Act → World → Prop
  | .normal, _, w => ∃ v w', (Instr.endRound l none).run P w = .ok v w' ∧ R (.returned v) w'
  | .panic chain, a, w => a.defers = [] ∧ R (.panicked chain) w
  | _, _, _ => False
theorem roundIn_of_wpIn_P {l : Nat} {f : FuncId} {fn : Func} (hfn : P.funcs[f]? = some fn) {tmps : Array Value} {assign body : Code} {w : World} {R : Ending → World → Prop} (hF : F.fn f)
    (h : assign.wpIn (F.inRound l) n P (Exit.then (fun a₁ w₁ => ∃ w₂, (Instr.beginRound l).run P w₁ = .ok () w₂ ∧ body.wpIn (F.inRound l) n P (roundPostP P l R) a₁ w₂) (fun _ _ _ => False))
      { tmps := tmps, defers := [] } w) :
    RoundIn F n P l f tmps assign body w R := by
  refine ⟨hF, fun c cs hr => ?_⟩
  let b : Frame := { (default : Frame) with fn := f, kind := .normal, roundOf := some l }
  have hb0 : Frame.round l f tmps assign body .normal = b.atR { tmps := tmps, defers := [] } [.code assign, .beginRound, .code body] := by
    simp [Frame.round, Frame.atR, b]
  have hr' : (F.inRound l).room ((c :: cs).length + 1 + n) := hr
  have hF' : (F.inRound l).fn b.fn := hF
  obtain ⟨e, a₁, w₁, hq, harr⟩ := h b [.beginRound, .code body] (c :: cs) rfl hF' hr'
  rw [← hb0] at harr
  cases e with
  | normal =>
    obtain ⟨w₂, hbr, hbody⟩ := hq
    have s1 : StepsIn (Machine.fenced P (F.inRound l)) P (lone (b.atR a₁ [.beginRound, .code body]) (c :: cs) w₁) (lone (b.atR a₁ [.code body]) (c :: cs) w₂) :=
      .one (fenced_calm (fr := b.atR a₁ [.beginRound, .code body]) hF' hr' rfl) (stepR_beginRound rfl hbr)
    obtain ⟨e₂, a₂, w₃, hq₂, harr₂⟩ := hbody b [] (c :: cs) rfl hF' hr'
    cases e₂ with
    | normal =>
      obtain ⟨v, w₄, hend, hR⟩ := hq₂
      exact ⟨.returned v, w₄, hR, (StepsIn.trans harr s1).trans (StepsIn.trans harr₂ (.one (fenced_calm (fr := b.atR a₂ []) hF' hr' rfl) (stepR_round_end rfl rfl hend)))⟩
    | panic chain =>
      obtain ⟨hd, hR⟩ := hq₂
      obtain ⟨todo, hs⟩ := harr₂
      have hlv : ({ b.atR a₂ todo with mode := .panicking chain } : Frame).leaving P w₃ (.panicked chain) := ⟨rfl, hd, fn, hfn⟩
      exact ⟨.panicked chain, w₃, hR, (StepsIn.trans harr s1).trans (StepsIn.trans hs (.one (fenced_leaving (F := F.inRound l) (n := n) hF' hr' hlv) (step_leave_panicked hlv)))⟩
    | ret => exact hq₂.elim
    | exit id => exact hq₂.elim
    | goto t => exact hq₂.elim
    | outgrown => exact hq₂.elim
  | exit id => exact hq.elim
  | goto t => exact hq.elim
  | ret => exact hq.elim
  | panic chain => exact hq.elim
  | outgrown => exact hq.elim
theorem wpAt_rangeFunc {f₀ : FuncId} {g : Operand} {ps : Array Tmp} {assign body : Code} {Q : Exit → Act → World → Prop} {a : Act} {w : World}
    (h : F.fn f₀ → ∃ (l : Nat) (mark : List Deferred) (w₁ : World) (d : Deferred) (w₁' : World) (f : FuncId) (args : Array Value) (w₂ : World),
      (Instr.enterLoop f₀ a.tmps ps assign body F.round).run P w = .ok (l, mark) w₁ ∧
      (resolve a.eval (rangeCall g l) 0).run P w₁ = .ok d w₁' ∧
      (∀ f', Target.leads P w₁' d.target d.args = some f' → F.fn f') ∧
      (invoke d.target d.args).run P w₁' = .ok (.enter f args) w₂ ∧
      (F.depth.isSome = true → 1 ≤ n) ∧
      CallsIn F (n - 1) P f args w₂ (rangePost F n P l Q { a with defers := mark ++ a.defers })) :
    (Code.rangeFunc g ps assign body).wpAt f₀ F n P Q a w := by
  intro b k cs hf hro hb hr
  subst hf
  obtain ⟨l, mark, w₁, d, w₁', f, args, w₂, he, hres, hlead, hinv, hn, hF, hcall⟩ := h hb
  rw [← hro] at he
  have h0 : (lone (b.atR a (.code (.rangeFunc g ps assign body) :: k)) cs w).fenced P F := by
    refine fenced_lone (.inl hb) (fun f' hf' => hlead f' ?_) (Fence.room_le hr (by omega))
    have hev := Frame.eval_atR b a (.code (.rangeFunc g ps assign body) :: k)
    simp only [Frame.atR] at hev
    simp only [Frame.about, Frame.atR, he, hev, hres] at hf'
    exact hf'
  have henter := stepR_rangeFunc (P := P) (b := b) (a := a) (k := k) (cs := cs) (w := w) he hres hinv
  have hroom : F.room ((b.atR { a with defers := mark ++ a.defers } (.inRangeFunc l :: k) :: cs).length + 1 + (n - 1)) := Fence.room_enter hr hn
  obtain ⟨e, w₃, fr, hR, hsteps, hfn, hleave⟩ := hcall (b.atR { a with defers := mark ++ a.defers } (.inRangeFunc l :: k) :: cs) hroom
  cases e with
  | outgrown =>
    obtain ⟨a₀, w₀, hq⟩ := hR
    exact ⟨.outgrown, a₀, w₀, hq, .inr (Outgrown.of_steps (.one henter) hsteps)⟩
  | returned v =>
    have hl : (lone fr (b.atR { a with defers := mark ++ a.defers } (.inRangeFunc l :: k) :: cs) w₃).fenced P F := fenced_leaving (hfn ▸ hF) hroom hleave
    obtain ⟨jump, w₄, hend, hj⟩ := hR
    have sback : StepsIn (Machine.fenced P F) P (lone (b.atR a (.code (.rangeFunc g ps assign body) :: k)) cs w) (lone (b.atR { a with defers := mark ++ a.defers } ((jump.map Item.code).toList ++ k)) cs w₄) := by
      refine .head h0 henter (StepsIn.trans hsteps (.head hl ?_ (.one (fenced_calm (fr := b.atR { a with defers := mark ++ a.defers } (.endRangeFunc l :: k)) hb hr rfl) (stepR_endRangeFunc hend))))
      rw [← finish_atR_inRangeFunc l v]; exact step_leave_returned hleave
    cases jump with
    | none => exact ⟨.normal, _, w₄, hj, sback⟩
    | some c =>
      obtain ⟨e', a'', w₅, hq, harr⟩ := hj b k cs hro hb hr
      exact ⟨e', a'', w₅, hq, .of_steps sback harr⟩
  | panicked chain =>
    have hl : (lone fr (b.atR { a with defers := mark ++ a.defers } (.inRangeFunc l :: k) :: cs) w₃).fenced P F := fenced_leaving (hfn ▸ hF) hroom hleave
    refine ⟨.panic chain, _, w₃, hR, .inRangeFunc l :: k, .head h0 henter (StepsIn.trans hsteps (.one hl ?_))⟩
    rw [← Frame.raise_atR]; exact step_leave_panicked hleave
/-- a function that is known, with a range over a function in it -/
theorem callsIn_of_wpAt_marks {f : FuncId} {fn : Func} {c : Code} {args : Array Value} {w : World} {R : Ending → World → Prop}
    (hf : P.funcs[f]? = some fn) (hb : fn.body = some c) (hF : F.fn f)
    (h : c.wpAt f F n P (bodyPostM F n P fn R) { tmps := args ++ Array.replicate (fn.ntmps - args.size) undef, defers := [] } w) (hro : F.round = none := by rfl) : CallsIn F n P f args w R := by
  refine ⟨hF, fun cs hr => ?_⟩
  let b : Frame := { (default : Frame) with fn := f, kind := .normal, roundOf := none }
  have henter : Frame.enter P f args .normal = b.atR { tmps := args ++ Array.replicate (fn.ntmps - args.size) undef, defers := [] } [.code c] := by
    simp [Frame.enter, Frame.atR, hf, hb, b]
  obtain ⟨e, a', w', hq, harr⟩ := h b [] cs rfl hro.symm hF hr
  rw [← henter] at harr
  cases e with
  | normal =>
    obtain ⟨e', w'', fr', hR, hs, hfn, hl⟩ := leaves_stepsInM a'.defers .returning w' { b.atR a' [] with mode := .returning } cs rfl rfl rfl hf rfl hF hr hq
    exact ⟨e', w'', fr', hR, ComesIn.of_steps (StepsIn.trans harr (.one (fenced_calm (fr := b.atR a' []) hF hr rfl) (stepR_end rfl))) hs, hfn, hl⟩
  | ret =>
    obtain ⟨todo, hs₀⟩ := harr.1 rfl
    obtain ⟨e', w'', fr', hR, hs, hfn, hl⟩ := leaves_stepsInM a'.defers .returning w' { b.atR a' todo with mode := .returning } cs rfl rfl rfl hf rfl hF hr hq
    exact ⟨e', w'', fr', hR, ComesIn.of_steps hs₀ hs, hfn, hl⟩
  | panic chain =>
    obtain ⟨todo, hs₀⟩ := harr
    obtain ⟨e', w'', fr', hR, hs, hfn, hl⟩ := leaves_stepsInM a'.defers (.panicking chain) w' { b.atR a' todo with mode := .panicking chain } cs rfl rfl rfl hf rfl hF hr hq
    exact ⟨e', w'', fr', hR, ComesIn.of_steps hs₀ hs, hfn, hl⟩
  | exit id => exact hq.elim
  | goto l => exact hq.elim
  | outgrown => exact ⟨.outgrown, w', b, hq, harr.resolve_left (by simp [b]), rfl, trivial⟩
/-- the law: the body goes on, or panics -/
theorem wpAt_rangeFunc_S {f₀ : FuncId} {fn₀ : Func} (hf₀ : P.funcs[f₀]? = some fn₀) {g : Operand} {ps : Array Tmp} {assign body : Code} {Q : Exit → Act → World → Prop} {a : Act} {w : World} (B : Nat) (hB : w.heap.size = B)
    (hro : F.round = none) (h1 : 1 ≤ n) {gf : Nat} {lb : Array Value} (hg : a.eval g = .func (.func gf) #[] lb) (hFg : F.fn gf) (eg : ∀ args w, (callFunc gf args).run P w = .ok (.enter gf args) w)
    {ι : Type} {encs : ι → Array Value} (hps : ∀ x, (encs x).size = ps.size) (J0 : World → Prop) (K J : ι → World → Prop) (D : World → Prop) (DP : List PanicEntry → World → Prop)
    (hseq : ∀ (l : Nat) (X Y : World → Prop), (∀ A A' L, X A → Ch L A A' → (∀ q ∈ L, q ≠ B ∧ q ≠ B + 1) → X A') → (∀ A, X A → B + 2 ≤ A.heap.size) →
      (∀ x W, K x W → X W → YieldAt F (n - 1 - 1) P l (encs x) W fun e W' => (e = .returned (.bool true) ∧ J x W' ∧ X W') ∨ (∃ c, e = .panicked c ∧ DP c W' ∧ Y W')) →
      ∀ W, J0 W → X W → CallsIn F (n - 1) P gf (#[.func (.yield l) #[] #[]] ++ lb) W fun e W' => ((∃ v, e = .returned v) ∧ D W' ∧ X W') ∨ (∃ c, e = .panicked c ∧ DP c W' ∧ Y W'))
    (hJ0 : ∀ A A', J0 A → Ch [B, B + 1] A A' → J0 A') (hK : ∀ x A A', K x A → Ch [B, B + 1] A A' → K x A') (hJ : ∀ x A A', J x A → Ch [B, B + 1] A A' → J x A') (hD : ∀ A A', D A → Ch [B, B + 1] A A' → D A')
    (hpan : ∀ (c : List PanicEntry) (W : World), DP c W → W.heap[B]? = some (.deferred (some [])) → B + 2 ≤ W.heap.size → Q (.panic c) { a with defers := { target := .collected B, args := #[] } :: a.defers } W)
    (h0 : J0 w) (a₁ : ι → Act)
    (hassign : ∀ (l : Nat) (x : ι) (W : World) (K : Act → World → Prop), K (a₁ x) W →
      assign.wpIn (F.inRound l) (n - 1 - 1) P (Exit.then K (fun _ _ _ => False)) { tmps := (ps.zip (encs x)).foldl (fun t (p, v) => t.setIfInBounds p v) a.tmps, defers := [] } W)
    (hbody : ∀ (l : Nat) (x : ι) (W : World), K x W → B + 2 ≤ W.heap.size → body.wpIn (F.inRound l) (n - 1 - 1) P (fun e a' W' => (e = .normal ∧ Books B W W' ∧ J x W') ∨ (∃ c, e = .panic c ∧ a'.defers = [] ∧ Books B W W' ∧ DP c W')) (a₁ x) W)
    (hdone : ∀ (W : World), D W → W.heap[B]? = some (.deferred (some [])) → B + 2 ≤ W.heap.size → Q .normal { a with defers := { target := .collected B, args := #[] } :: a.defers } W) :
    (Code.rangeFunc g ps assign body).wpAt f₀ F n P Q a w := by
  subst hB
  refine wpAt_rangeFunc fun hfn => ?_
  rw [hro]
  let rec0 : LoopState → Option Code → Loop := fun st pe => { state := st, pending := pe, fn := f₀, tmps := a.tmps, params := ps, assign, body, defers := w.heap.size }
  obtain ⟨W1, hW1⟩ : ∃ W1, (w.alloc (.deferred (some []))).alloc (.loop (rec0 .ready none)) = W1 := ⟨_, rfl⟩
  have hz1 : W1.heap.size = w.heap.size + 2 := by rw [← hW1]; simp
  have hL1 : W1.heap[w.heap.size + 1]? = some (.loop (rec0 .ready none)) := by
    rw [← hW1]; have := World.alloc_heap_new (w.alloc (.deferred (some []))) (.loop (rec0 .ready none)); rwa [World.size_alloc] at this
  have hK1 : W1.heap[w.heap.size]? = some (.deferred (some [])) := by
    rw [← hW1]; exact (Below.heap_alloc _ _ _ (by simp)).trans (World.alloc_heap_new w _)
  have hc1 : Ch [] w W1 := by rw [← hW1]; exact ((Ch.refl _ _).alloc _).alloc _
  have hI1 : J0 W1 := hJ0 _ _ h0 (hc1.mono (by simp))
  refine ⟨w.heap.size + 1, [{ target := .collected w.heap.size, args := #[] }], W1, { target := .fn (.func gf) lb, args := #[.func (.yield (w.heap.size + 1)) #[] #[]] }, W1, gf,
    #[.func (.yield (w.heap.size + 1)) #[] #[]] ++ lb, W1, ?_, ?_, ?_, ?_, fun _ => h1, ?_⟩
  · rw [← hW1]; exact run_enterLoop_outer _ _ _ _ _
  · simp only [resolve, hg]
    simp [go_sem]
  · intro f' hf'; simp [Target.leads] at hf'; subst hf'; exact hFg
  · simp [invoke, go_sem, eg]
  · refine (hseq (w.heap.size + 1) (fun W => w.heap.size + 2 ≤ W.heap.size ∧ W.heap[w.heap.size + 1]? = some (.loop (rec0 .ready none)) ∧ W.heap[w.heap.size]? = some (.deferred (some [])))
      (fun W => w.heap.size + 2 ≤ W.heap.size ∧ W.heap[w.heap.size]? = some (.deferred (some [])))
      (fun A A' L hs hc hL => ⟨Nat.le_trans hs.1 hc.size, (hc.block _ (by have := hs.1; omega) (fun hin => (hL _ hin).2 rfl)).trans hs.2.1, (hc.block _ (by have := hs.1; omega) (fun hin => (hL _ hin).1 rfl)).trans hs.2.2⟩)
      (fun A hA => hA.1) ?_ W1 hI1 ⟨by omega, hL1, hK1⟩).mono ?_
    · rintro x W hi ⟨hz, hl, hk⟩
      have hlt : w.heap.size + 1 < W.heap.size := by omega
      refine ⟨f₀, _, assign, body, run_yield (P := P) (args := encs x) hl (hps x), roundIn_of_wpIn_P hf₀ hfn (hassign _ x W _ ⟨_, run_beginRound hl rfl, ?_⟩)⟩
      have hl2 : (W.putObj (w.heap.size + 1) (.loop (rec0 .busy none))).heap[w.heap.size + 1]? = some (.loop (rec0 .busy none)) := World.putObj_heap_same hlt
      have hk2 : (W.putObj (w.heap.size + 1) (.loop (rec0 .busy none))).heap[w.heap.size]? = some (.deferred (some [])) := (World.putObj_heap_other (by omega)).trans hk
      refine wpIn_mono (hbody _ x _ (hK _ _ _ hi (ch_put (by simp))) (by simp; omega)) ?_
      rintro e a3 W3 (⟨rfl, ⟨hb0, hb1⟩, hi3⟩ | ⟨c, rfl, hd, ⟨hb0, hb1⟩, hi3⟩)
      · have hl3 := hb1.trans hl2
        have hlt3 := (Array.getElem?_eq_some_iff.1 hl3).1
        exact ⟨_, _, run_endRound (P := P) none hl3, .inl ⟨rfl, hJ _ _ _ hi3 (ch_put (by simp)), by simp; omega, World.putObj_heap_same hlt3, (World.putObj_heap_other (by omega)).trans (hb0.trans hk2)⟩⟩
      · have hl3 := hb1.trans hl2
        have hlt3 := (Array.getElem?_eq_some_iff.1 hl3).1
        exact ⟨hd, .inr ⟨c, rfl, hi3, by omega, hb0.trans hk2⟩⟩
    · rintro e W2 (⟨⟨v, rfl⟩, hi, hz, hl, hk⟩ | ⟨c, rfl, hi, hz, hk⟩)
      · exact ⟨none, _, run_endLoop (P := P) hl (by simp [rec0]), hdone _ (hD _ _ hi (ch_put (by simp))) ((World.putObj_heap_other (by omega)).trans hk) (by simp; omega)⟩
      · exact hpan c _ hi hk hz
end
end Go
namespace Go.Proofs.YtehljgigebhddaaGreat
open Go.RowKit Go.Mem Go.Aig
def fitEnc (p : Nat × Nat) : Array Value := #[.int .i64 p.1, .int .i64 p.2]
end Go.Proofs.YtehljgigebhddaaGreat
namespace Go.Aig
end Go.Aig
namespace Go.Proofs.YtehljgigebhddaaGreat
open Go.RowKit Go.Mem Go.Aig
attribute [local go_sem] Oper.semAt_some
section
variable {w : World} {g m : Nat} {G : Gra} {F : List Nat}
end
end Go.Proofs.YtehljgigebhddaaGreat
namespace Go.Aig
/-- the elements of a list with their numbers, the last one first -/
def bwd (l : List Nat) : List (Nat × Nat) := (List.range l.length).reverse.map fun i => (i, l.getD i 0)
theorem bwd_len (l : List Nat) : (bwd l).length = l.length := by simp [bwd]
theorem bwd_at {l : List Nat} {k j r : Nat} (hk : k + j + 1 = l.length) (hr : l[j]? = some r) : (bwd l)[k]? = some (j, r) := by
  unfold bwd
  rw [List.getElem?_map, List.getElem?_reverse (by simp; omega), List.length_range, List.getElem?_range (by omega), show l.length - 1 - k = j by omega]
  show some (j, l.getD j 0) = _
  rw [List.getD_eq_getElem?_getD, hr]
  rfl
end Go.Aig
namespace Go.Proofs.YtehljgigebhddaaGreat
open Go.RowKit Go.Mem Go.Aig
theorem fnvBwref1 : Fnv 272 := fnv_of Tryz.func272 (by simp [Tryz.f272]) (by simp [Tryz.f272])
set_option maxRecDepth 100000 in
set_option maxHeartbeats 1000000 in
theorem Bwref_is {w : World} (xa : Option Addr) (n xc : Nat) :
    Calls Tryz.prog 189 #[.slice xa n xc] w fun e w' => e = .returned (.func (.func 272) #[] #[.pointer (some ⟨w.heap.size, 0, none⟩)]) ∧ w' = w.alloc (.cells #[.slice xa n xc] 45) := by
  go_enter Tryz.func189, Tryz.ntmps189
  go_wp2_with fail
  go_ret
  exact ⟨rfl, rfl⟩
end Go.Proofs.YtehljgigebhddaaGreat
namespace Go.Aig
/-- after i swaps -/
def swappedG {α : Type} (l : List α) (i : Nat) (L : List α) : Prop := L.length = l.length ∧ ∀ p, p < l.length → L[p]? = if p < i ∨ l.length - i ≤ p then l[l.length - 1 - p]? else l[p]?
theorem swappedG_zero {α : Type} (l : List α) : swappedG l 0 l := ⟨rfl, fun p hp => by rw [if_neg (by omega)]⟩
theorem swappedG_done {α : Type} {l L : List α} {i : Nat} (h : swappedG l i L) (hi : l.length ≤ 2 * i + 1) : L = l.reverse := by
  apply List.ext_getElem?
  intro p
  by_cases hp : p < l.length
  · rw [h.2 p hp, List.getElem?_reverse hp]
    split
    · rfl
    · have : l.length - 1 - p = p := by omega
      rw [this]
  · rw [List.getElem?_eq_none (by rw [h.1]; omega), List.getElem?_eq_none (by simp; omega)]
theorem swappedG_step {α : Type} {l L : List α} {i : Nat} {x y : α} (h : swappedG l i L) (hi : 2 * i + 1 < l.length) (hx : L[i]? = some x) (hy : L[l.length - 1 - i]? = some y) :
    swappedG l (i + 1) ((L.set i y).set (l.length - 1 - i) x) := by
  refine ⟨by simp [h.1], fun p hp => ?_⟩
  have e1 := h.2 i (by omega)
  rw [if_neg (by omega), hx] at e1
  have e2 := h.2 (l.length - 1 - i) (by omega)
  rw [if_neg (by omega), hy] at e2
  by_cases h1 : p = l.length - 1 - i
  · subst h1
    rw [List.getElem?_set_self (by simp [h.1]; omega), if_pos (by omega)]
    rw [show l.length - 1 - (l.length - 1 - i) = i from by omega]; exact e1
  · rw [List.getElem?_set_ne (by omega)]
    by_cases h2 : p = i
    · subst h2
      rw [List.getElem?_set_self (by rw [h.1]; omega), if_pos (by omega)]; exact e2
    · rw [List.getElem?_set_ne (by omega), h.2 p hp]
      by_cases h3 : p < i ∨ l.length - i ≤ p
      · rw [if_pos h3, if_pos (by omega)]
      · rw [if_neg h3, if_neg (by omega)]
end Go.Aig
namespace Go.Proofs.YtehljgigebhddaaGreat
open Go.RowKit Go.Mem Go.Aig
section
variable {w : World}
set_option maxRecDepth 100000 in
set_option maxHeartbeats 1000000 in
theorem Revref_some {b n cap : Nat} {l : List Nat} (h : row w 52 1 (.slice (some ⟨b, 0, none⟩) n cap) n (refsCells l)) (hn : n ≤ 1000000) :
    Calls Tryz.prog 216 #[.slice (some ⟨b, 0, none⟩) n cap] w fun e w' => (∃ v, e = .returned v) ∧ row w' 52 1 (.slice (some ⟨b, 0, none⟩) n cap) n (refsCells l.reverse) ∧ Ch [b] w w' := by
  have hl : l.length = n := by have := h.1; simpa [refsCells] using this
  have H := Lib.hid h; clear h
  go_enter Tryz.func216, Tryz.ntmps216
  go_wp2_with fail
  go_loopw [2, 3] (fun i j wr => ∃ k : Nat, 2 * k ≤ n + 1 ∧ i = .int .i64 k ∧ j = .int .i64 ((n : Int) - 1 - k) ∧ (∃ L, swappedG l k L ∧ row wr 52 1 (.slice (some ⟨b, 0, none⟩) n cap) n (refsCells L)) ∧ Ch [b] w wr) (fun i _ _ => n - (intOf i).toNat)
  case atStart => exact ⟨0, by omega, rfl, by go_num, ⟨l, swappedG_zero l, H.out⟩, Ch.refl _ _⟩
  case round =>
    obtain ⟨k, hk, rfl, rfl, ⟨L, hL, hrow⟩, hc⟩ := hrel
    have HL := Lib.hid hL; clear hL
    have HR := Lib.hid hrow; clear hrow
    have HC := Lib.hid hc; clear hc
    by_cases hlt : 2 * k + 1 < n
    · have ej : (n : Int) - 1 - k = ((n - 1 - k : Nat) : Int) := by omega
      rw [ej]
      have hLl : L.length = n := by rw [HL.out.1, hl]
      have hx : L[k]? = some L[k] := List.getElem?_eq_getElem (by omega)
      have hy : L[n - 1 - k]? = some L[n - 1 - k] := List.getElem?_eq_getElem (by omega)
      generalize L[k] = x at hx
      generalize L[n - 1 - k] = y at hy
      have c1 : wr.cell? ⟨b, k, none⟩ = some (.int .i64 x) := by
        have := HR.out.cells (g := b) rfl k (.int .i64 x) (by simp [refsCells, hx])
        rw [Addr.add_lit] at this; simpa using this
      have c2 : wr.cell? ⟨b, n - 1 - k, none⟩ = some (.int .i64 y) := by
        have := HR.out.cells (g := b) rfl (n - 1 - k) (.int .i64 y) (by simp [refsCells, hy])
        rw [Addr.add_lit] at this; simpa using this
      have f0 : ∀ i, wr.frozen? ⟨b, i, none⟩ = false := fun i => by
        rcases HR.out.2 with ⟨e1, _⟩ | ⟨g, cap', cur, e1, h0, hg, _⟩
        · cases e1
        · cases e1; simp [World.frozen?, hg]
      have f1 := f0 k
      have f2 := f0 (n - 1 - k)
      have hne : ¬ n - 1 - k = k := by omega
      have hne' : ¬ k = n - 1 - k := by omega
      have hd : decide ((k : Int) < ((n - 1 - k : Nat) : Int)) = true := decide_eq_true (by omega)
      have hst := swappedG_step HL.out (by omega) hx (by rw [hl]; exact hy)
      have HST := Lib.hid hst; clear hst
      clear f0
      go_wp2_with fail
      refine Ord.St.door (fun _ => True) [.fl, .fl, .fl, .fl, .fl, .fl, .fl, .rd, .fl, .fl, .fl, .rd, .fl, .ef, .fl, .ef] [0, 0, 0, 0, 0, 0, 48, 112, 0, 0, 768, 1792, 4083, 8179, 16383, 32767] [0, 1, 2, 3, 4, 5, 6, 7, 8, 9, 10, 11, 12, 13, 14, 15] mixed (by kernel_rfl) rfl ?_
      refine Ord.St.fl2 (T' := ?_) 0 [1, 2, 3, 4, 5, 6, 7, 8, 9, 10, 11, 12, 13, 14, 15] _ _ rfl (by kernel_rfl) rfl rfl rfl rfl (fun K w' hk => ?_) ?_
      rotate_left
      · go_step; exact hk
      refine Ord.St.fl2 (T' := ?_) 1 [2, 3, 4, 5, 6, 7, 8, 9, 10, 11, 12, 13, 14, 15] _ _ rfl (by kernel_rfl) rfl rfl rfl rfl (fun K w' hk => ?_) ?_
      rotate_left
      · go_step; exact hk
      refine Ord.St.fl2 (T' := ?_) 2 [3, 4, 5, 6, 7, 8, 9, 10, 11, 12, 13, 14, 15] _ _ rfl (by kernel_rfl) rfl rfl rfl rfl (fun K w' hk => ?_) ?_
      rotate_left
      · go_step; exact hk
      refine Ord.St.fl2 (T' := ?_) 3 [4, 5, 6, 7, 8, 9, 10, 11, 12, 13, 14, 15] _ _ rfl (by kernel_rfl) rfl rfl rfl rfl (fun K w' hk => ?_) ?_
      rotate_left
      · go_step; exact hk
      refine Ord.St.fl2 (T' := ?_) 4 [5, 6, 7, 8, 9, 10, 11, 12, 13, 14, 15] _ _ rfl (by kernel_rfl) rfl rfl rfl rfl (fun K w' hk => ?_) ?_
      rotate_left
      · go_step; exact hk
      refine Ord.St.fl2 (T' := ?_) 5 [6, 7, 8, 9, 10, 11, 12, 13, 14, 15] _ _ rfl (by kernel_rfl) rfl rfl rfl rfl (fun K w' hk => ?_) ?_
      rotate_left
      · go_step; exact hk
      refine Ord.St.fl2 (T' := ?_) 6 [7, 8, 9, 10, 11, 12, 13, 14, 15] _ _ rfl (by kernel_rfl) rfl rfl rfl rfl (fun K w' hk => ?_) ?_
      rotate_left
      · go_step; exact hk
      refine Ord.St.rd2 (T' := ?_) 7 [8, 9, 10, 11, 12, 13, 14, 15] _ _ rfl (by kernel_rfl) rfl rfl rfl rfl (fun K hk => ?_) ?_
      rotate_left
      · go_step; exact hk
      refine Ord.St.fl2 (T' := ?_) 8 [9, 10, 11, 12, 13, 14, 15] _ _ rfl (by kernel_rfl) rfl rfl rfl rfl (fun K w' hk => ?_) ?_
      rotate_left
      · go_step; exact hk
      refine Ord.St.fl2 (T' := ?_) 9 [10, 11, 12, 13, 14, 15] _ _ rfl (by kernel_rfl) rfl rfl rfl rfl (fun K w' hk => ?_) ?_
      rotate_left
      · go_step; exact hk
      refine Ord.St.fl2 (T' := ?_) 10 [11, 12, 13, 14, 15] _ _ rfl (by kernel_rfl) rfl rfl rfl rfl (fun K w' hk => ?_) ?_
      rotate_left
      · go_step; exact hk
      refine Ord.St.rd2 (T' := ?_) 11 [12, 13, 14, 15] _ _ rfl (by kernel_rfl) rfl rfl rfl rfl (fun K hk => ?_) ?_
      rotate_left
      · go_step; exact hk
      refine Ord.St.fl2 (T' := ?_) 12 [13, 14, 15] _ _ rfl (by kernel_rfl) rfl rfl rfl rfl (fun K w' hk => ?_) ?_
      rotate_left
      · go_step; exact hk
      refine Ord.St.ef 13 [14, 15] _ rfl (by kernel_rfl) (fun K hK => ?_)
      go_wp2_with fail
      refine ⟨rfl, hK _ _ ?_⟩; clear hK K
      refine Ord.St.fl2 (T' := ?_) 14 [15] _ _ rfl (by kernel_rfl) rfl rfl rfl rfl (fun K w' hk => ?_) ?_
      rotate_left
      · go_step; exact hk
      refine Ord.St.ef 15 [] _ rfl (by kernel_rfl) (fun K hK => ?_)
      go_wp2_with fail
      refine ⟨rfl, hK _ _ ?_⟩; clear hK K
      refine Ord.St.nil ?_
      go_wp2_with fail
      go_roundw
      case rel =>
        refine ⟨k + 1, by omega, by go_num, by go_num, ⟨_, HST.out, ?_⟩, ((HC.out.setCell (by simp) _).setCell (by simp) _).drew⟩
        rw [hl]
        have := row.set (i := n - 1 - k) (row.set (i := k) HR.out (.int .i64 y)) (.int .i64 x)
        simp only [refsCells, List.map_set] at this ⊢
        exact this
      case measure => simp [intOf]; omega
    · have hd : decide ((k : Int) < (n : Int) - 1 - k) = false := decide_eq_false (by omega)
      go_wp2_with fail
      go_end0
      rw [← swappedG_done HL.out (by omega)]
      exact ⟨⟨_, rfl⟩, HR.out, HC.out⟩
end
set_option maxRecDepth 100000 in
set_option maxHeartbeats 2000000 in
/-- backward over a word: whatever the one to whom it is yielded does, until it panics -/
theorem Bw_mem {x : List Nat} {bx : Nat} {xa : Option Addr} {xc : Nat} (len : Nat) (hxl : x.length = len) (hlen : len ≤ 1000000) (I : Nat → World → Prop) (Pn : List PanicEntry → World → Prop)
    (hread : ∀ k W, I k W → W.cell? ⟨bx, 0, none⟩ = some (.slice xa len xc) ∧ Sl W xa (x.map fun (r : Nat) => (r : Int)))
    (N : Nat) (hN : 1 ≤ N) (lp : Nat)
    (hY : ∀ k i r W, (bwd x)[k]? = some (i, r) → I k W → YieldAt Fence.wide (N - 1) Tryz.prog lp (fitEnc (i, r)) W fun e W' => (e = .returned (.bool true) ∧ I (k + 1) W') ∨ (∃ c, e = .panicked c ∧ Pn c W'))
    (W : World) (h0 : I 0 W) :
    CallsIn Fence.wide N Tryz.prog 272 (#[.func (.yield lp) #[] #[]] ++ #[.pointer (some ⟨bx, 0, none⟩)]) W fun e W' => ((∃ v, e = .returned v) ∧ I len W') ∨ (∃ c, e = .panicked c ∧ Pn c W') := by
  subst hxl
  show CallsIn Fence.wide N Tryz.prog 272 #[.func (.yield lp) #[] #[], .pointer (some ⟨bx, 0, none⟩)] W _
  have b0 := (hread _ _ h0).1
  have HY := Lib.hid hY; clear hY
  have HR := Lib.hid hread; clear hread
  have H0 := Lib.hid h0; clear h0
  refine callsIn_of_wp Tryz.func272 rfl trivial ?_ rfl
  simp only [Tryz.ntmps272, List.size_toArray, List.length_cons, List.length_nil, Nat.reduceAdd, Nat.reduceSub, Array.replicate_succ, Array.replicate_zero, List.push_toArray, List.append_toArray, List.nil_append, List.cons_append]
  gi_wp2
  clear b0
  gi_loopw [3] (fun i wr => ∃ j : Nat, j ≤ x.length ∧ i = .int .i64 ((j : Int) - 1) ∧ I (x.length - j) wr) (fun i _ => (intOf i + 1).toNat)
  case atStart => exact ⟨x.length, Nat.le_refl _, rfl, by rw [Nat.sub_self]; exact H0.out⟩
  case round =>
    obtain ⟨j, hj, rfl, hjj⟩ := hrel
    by_cases hlt : j = 0
    · subst hlt
      have HJ1 := Lib.hid hjj; clear hjj
      gi_wp2
      go_end0
      exact .inl ⟨⟨_, rfl⟩, HJ1.out⟩
    · obtain ⟨i, rfl⟩ : ∃ i, j = i + 1 := ⟨j - 1, by omega⟩
      have ei : ((i + 1 : Nat) : Int) - 1 = (i : Int) := by omega
      rw [ei]
      obtain ⟨r, hr⟩ : ∃ r, x[i]? = some r := ⟨_, List.getElem?_eq_getElem (by omega)⟩
      obtain ⟨e0, hsl⟩ := HR.out _ _ hjj
      obtain ⟨xb, xo, rfl, d0⟩ := hsl.cells i (r : Int) (by simp [hr])
      have hz : (bwd x)[x.length - (i + 1)]? = some (i, r) := bwd_at (by omega) hr
      obtain ⟨fn, tmps, assign, body, hy1, hR⟩ := HY.out _ i r _ hz hjj
      simp only [fitEnc] at hy1
      rw [show x.length - (i + 1) + 1 = x.length - i by omega] at hR
      have hge : decide ((i : Int) ≥ 0) = true := decide_eq_true (by omega)
      have HJ1 := Lib.hid hjj; clear hjj
      clear hr hz ei hlt hsl
      gi_wp2
      refine hR.mono ?_
      rintro e W2 (⟨rfl, hJ2⟩ | ⟨c, rfl, hP⟩)
      · have HJ2 := Lib.hid hJ2; clear hJ2
        gi_wp2
        go_roundw
        case rel => exact ⟨i, by omega, by go_num, HJ2.out⟩
        case measure => simp [intOf]
      · have HP := Lib.hid hP; clear hP
        gi_wp2
        exact ⟨rfl, .inr ⟨c, rfl, HP.out⟩⟩
end Go.Proofs.YtehljgigebhddaaGreat
namespace Go.Aig
/-- one more bit of the quotient: what is left, with one more bit of the first word; whether the second word fits in; what is left then -/
def divL (d : List Nat) (q : Mk × List Nat × List Nat) (b : Nat) : Mk × Nat := rstep q.1 (leR q.1.1 d (b :: q.2.2.dropLast))
def divD (d : List Nat) (q : Mk × List Nat × List Nat) (b : Nat) : Mk × List Nat := wstep (divL d q b).1 (subR (divL d q b).1.1 (b :: q.2.2.dropLast) d)
def divM (d : List Nat) (q : Mk × List Nat × List Nat) (b : Nat) : Mk × List Nat := chF (divL d q b).2 (divD d q b).1 ((divD d q b).2.zip (b :: q.2.2.dropLast))
def divS (d : List Nat) (q : Mk × List Nat × List Nat) (b : Nat) : Mk × List Nat × List Nat := ((divM d q b).1, q.2.1 ++ [(divL d q b).2], (divM d q b).2)
def divF (d : List Nat) (s : Mk) (l : List Nat) : Mk × List Nat × List Nat := l.foldl (divS d) (s, [], List.replicate d.length 0)
theorem divF_snoc (d : List Nat) (s : Mk) (l : List Nat) (b : Nat) : divF d s (l ++ [b]) = divS d (divF d s l) b := by unfold divF; rw [List.foldl_append]; rfl
theorem chF_keep (c : Nat) {s : Mk} (h : s.2 ≠ 0) (l : List (Nat × Nat)) : (chF c s l).1 = s := chF_bad c s [] h l
theorem divL_bad (d : List Nat) (q : Mk × List Nat × List Nat) (b : Nat) (h : q.1.2 ≠ 0) : (divL d q b).1 = q.1 := by unfold divL; rw [rstep_bad h]
theorem divD_bad (d : List Nat) (q : Mk × List Nat × List Nat) (b : Nat) (h : (divL d q b).1.2 ≠ 0) : (divD d q b).1 = (divL d q b).1 := by unfold divD; rw [wstep_bad h]
theorem divM_bad (d : List Nat) (q : Mk × List Nat × List Nat) (b : Nat) (h : (divD d q b).1.2 ≠ 0) : (divM d q b).1 = (divD d q b).1 := by unfold divM; exact chF_keep _ h _
theorem divS_bad (d : List Nat) (q : Mk × List Nat × List Nat) (b : Nat) (h : q.1.2 ≠ 0) : (divS d q b).1 = q.1 := by
  show (divM d q b).1 = q.1
  have h1 := divL_bad d q b h
  have h2 := divD_bad d q b (by rw [h1]; exact h)
  rw [divM_bad d q b (by rw [h2, h1]; exact h), h2, h1]
theorem divF_bad (d : List Nat) (s : Mk) (l m : List Nat) (h : (divF d s l).1.2 ≠ 0) : (divF d s (l ++ m)).1 = (divF d s l).1 := by
  induction m generalizing l with
  | nil => rw [List.append_nil]
  | cons b m ih =>
    have e : (divF d s (l ++ [b])).1 = (divF d s l).1 := by rw [divF_snoc]; exact divS_bad _ _ _ h
    rw [show l ++ b :: m = (l ++ [b]) ++ m by simp, ih (l ++ [b]) (by rw [e]; exact h), e]
section
variable {d : List Nat} {s : Mk} {l : List Nat} {k b : Nat} (hb : l[k]? = some b)
include hb
theorem divF_next : divF d s (l.take (k + 1)) = divS d (divF d s (l.take k)) b := by
  rw [List.take_add_one, hb, Option.toList_some, divF_snoc]
theorem divF_stop {e : Nat} (h0 : e ≠ 0) (h : (divS d (divF d s (l.take k)) b).1.2 = e) : (divF d s l).1.2 = e := by
  have h1 := divF_next (d := d) (s := s) hb
  have h2 := divF_bad d s (l.take (k + 1)) (l.drop (k + 1)) (by rw [h1, h]; exact h0)
  rw [List.take_append_drop] at h2
  rw [h2, h1, h]
theorem divF_stopL {e : Nat} (h0 : e ≠ 0) (h : (divL d (divF d s (l.take k)) b).1.2 = e) : (divF d s l).1.2 = e := by
  refine divF_stop hb h0 ?_
  show (divM d (divF d s (l.take k)) b).1.2 = e
  have h2 := divD_bad d (divF d s (l.take k)) b (by rw [h]; exact h0)
  rw [divM_bad d _ b (by rw [h2, h]; exact h0), h2, h]
theorem divF_stopD {e : Nat} (h0 : e ≠ 0) (h : (divD d (divF d s (l.take k)) b).1.2 = e) : (divF d s l).1.2 = e := by
  refine divF_stop hb h0 ?_
  show (divM d (divF d s (l.take k)) b).1.2 = e
  rw [divM_bad d _ b (by rw [h]; exact h0), h]
end
end Go.Aig
namespace Go.Proofs.YtehljgigebhddaaGreat
open Go.RowKit Go.Mem Go.Aig
/-- the graph, and what the loop outside keeps: k rounds are done, its blocks are T; m are one's own blocks, B2 those of the loop inside -/
structure SX (w : World) (g : Nat) (F T0 : List Nat) (I : Nat → List Nat → World → Prop) (B2 : Nat) (m : List Nat) (W : World) (Gp : Gra) (F' T : List Nat) (k : Nat) : Prop where
  gin : GIn W g Gp F'
  ch : Ch (T0 ++ F) w W
  own : ∀ q ∈ F', (q ∈ F ∧ q < w.heap.size) ∨ w.heap.size + 2 ≤ q
  nb : ∀ q ∈ F', q < B2 ∨ B2 + 2 ≤ q
  f2 : F'[2]? = F[2]?
  it : I k T W
  tb : ∀ q ∈ T, ((q ∈ T0 ∧ q < w.heap.size) ∨ w.heap.size + 2 ≤ q) ∧ q ∉ F' ∧ (q < B2 ∨ B2 + 2 ≤ q) ∧ q < W.heap.size
  mine : ∀ q ∈ m, w.heap.size + 2 ≤ q ∧ q ∉ F' ∧ q ∉ T ∧ (q < B2 ∨ B2 + 2 ≤ q) ∧ q < W.heap.size
/-- what is asked of what the loop outside keeps -/
structure IOk (I : Nat → List Nat → World → Prop) : Prop where
  same : ∀ k T A A' L, I k T A → Ch L A A' → (∀ q ∈ L, q ∉ T) → I k T A'
section
variable {w : World} {g : Nat} {F T0 : List Nat} {I : Nat → List Nat → World → Prop} {B2 : Nat} {m : List Nat} {W : World} {Gp : Gra} {F' T : List Nat} {k : Nat}
theorem SX.to (h : SX w g F T0 I B2 m W Gp F' T k) (hI : IOk I) (hw : w.heap.size + 2 ≤ W.heap.size) (hB : B2 + 2 ≤ W.heap.size) {W' : World} {G1 : Gra} {F1 : List Nat} (a1 : GIn W' g G1 F1) (a2 : Ch F' W W') (a3 : ∀ k ∈ F1, k ∈ F' ∨ W.heap.size ≤ k) (a4 : F1[2]? = F'[2]?) : SX w g F T0 I B2 m W' G1 F1 T k := by
  have hs := a2.size
  refine ⟨a1, h.ch.trans a2 (fun q hq => ?_), fun q hq => (a3 q hq).elim (h.own q) (fun e => .inr (by omega)), fun q hq => (a3 q hq).elim (h.nb q) (fun e => .inr (by omega)), a4.trans h.f2, hI.same _ _ _ _ _ h.it a2 (fun q hq hT => (h.tb q hT).2.1 hq), fun q hq => ?_, fun q hq => ?_⟩
  · rcases h.own q hq with e | e
    · exact .inl (List.mem_append_right _ e.1)
    · exact .inr (by omega)
  · obtain ⟨b1, b2, b3, b4⟩ := h.tb q hq
    exact ⟨b1, fun hm => (a3 q hm).elim b2 (fun e => by omega), b3, by omega⟩
  · obtain ⟨b1, b2, b3, b4, b5⟩ := h.mine q hq
    exact ⟨b1, fun hm => (a3 q hm).elim b2 (fun e => by omega), b3, b4, by omega⟩
/-- what changes is one's own, or that of the loops -/
theorem SX.same (h : SX w g F T0 I B2 m W Gp F' T k) (hI : IOk I) {W' : World} {L : List Nat} (hc : Ch L W W') (hL : ∀ q ∈ L, w.heap.size ≤ q ∧ q ∉ F' ∧ q ∉ T) : SX w g F T0 I B2 m W' Gp F' T k :=
  ⟨h.gin.same hc (fun q hq hm => (hL q hm).2.1 hq), h.ch.trans hc (fun q hq => .inr (hL q hq).1), h.own, h.nb, h.f2, hI.same _ _ _ _ _ h.it hc (fun q hq => (hL q hq).2.2), fun q hq => by
    obtain ⟨b1, b2, b3, b4⟩ := h.tb q hq
    exact ⟨b1, b2, b3, by have := hc.size; omega⟩, fun q hq => by
    obtain ⟨b1, b2, b3, b4, b5⟩ := h.mine q hq
    exact ⟨b1, b2, b3, b4, by have := hc.size; omega⟩⟩
/-- a block that is new is one's own -/
theorem SX.add (h : SX w g F T0 I B2 m W Gp F' T k) {W0 : World} {b : Nat} (hF : ∀ q ∈ F', q < W0.heap.size) (hT : ∀ q ∈ T, q < W0.heap.size) (hb : W0.heap.size ≤ b) (hw : w.heap.size + 2 ≤ W0.heap.size) (hB : B2 + 2 ≤ W0.heap.size) (hl : b < W.heap.size) : SX w g F T0 I B2 (b :: m) W Gp F' T k :=
  ⟨h.gin, h.ch, h.own, h.nb, h.f2, h.it, h.tb, fun q hq => by
    rcases List.mem_cons.1 hq with rfl | hq
    · exact ⟨by omega, fun hm => by have := hF _ hm; omega, fun hm => by have := hT _ hm; omega, .inr (by omega), hl⟩
    · exact h.mine q hq⟩
theorem SX.sub (h : SX w g F T0 I B2 m W Gp F' T k) {m' : List Nat} (hm : ∀ q ∈ m', q ∈ m) : SX w g F T0 I B2 m' W Gp F' T k := ⟨h.gin, h.ch, h.own, h.nb, h.f2, h.it, h.tb, fun q hq => h.mine q (hm q hq)⟩
/-- behind a round of the loop outside -/
theorem SX.next (h : SX w g F T0 I B2 m W Gp F' T k) (hw : w.heap.size + 2 ≤ W.heap.size) (hB : B2 + 2 ≤ W.heap.size) {W' : World} {T' : List Nat} (hI : I (k + 1) T' W') (hc : Ch (w.heap.size :: (w.heap.size + 1) :: T) W W') (hT : ∀ q ∈ T', q ∈ T ∨ W.heap.size ≤ q) (hT2 : ∀ q ∈ T', q < W'.heap.size) : SX w g F T0 I B2 m W' Gp F' T' (k + 1) := by
  have hs := hc.size
  have hnF : ∀ q ∈ F', q ∉ w.heap.size :: (w.heap.size + 1) :: T := fun q hq hm => by
    simp only [List.mem_cons] at hm
    rcases hm with e | e | e
    · rcases h.own q hq with h1 | h1 <;> omega
    · rcases h.own q hq with h1 | h1 <;> omega
    · exact (h.tb q e).2.1 hq
  refine ⟨h.gin.same hc hnF, h.ch.trans hc (fun q hq => ?_), h.own, h.nb, h.f2, hI, fun q hq => ?_, fun q hq => ?_⟩
  · simp only [List.mem_cons] at hq
    rcases hq with e | e | e
    · exact .inr (by omega)
    · exact .inr (by omega)
    · rcases (h.tb q e).1 with h1 | h1
      · exact .inl (List.mem_append_left _ h1.1)
      · exact .inr (by omega)
  · rcases hT q hq with e | e
    · obtain ⟨b1, b2, b3, b4⟩ := h.tb q e
      exact ⟨b1, b2, b3, by omega⟩
    · exact ⟨.inr (by omega), fun hm => by have := h.gin.lt q hm; omega, .inr (by omega), hT2 q hq⟩
  · obtain ⟨b1, b2, b3, b4, b5⟩ := h.mine q hq
    exact ⟨b1, b2, fun hm => (hT q hm).elim b3 (fun e => by omega), b4, by omega⟩
/-- the state between two rounds, or within one: one's own cells, the second word with one more bit, what is left -/
structure SR (w : World) (g : Nat) (F T0 : List Nat) (I : Nat → List Nat → World → Prop) (X : World → Prop) (B2 : Nat) (b4 b5 b6 bb db dc : Nat) (yv bx : Value) (n : Nat) (d : List Nat) (W : World) (Gp : Gra) (F' T : List Nat) (k rb rc : Nat) (r : List Nat) : Prop where
  sx : SX w g F T0 I B2 [rb, b4, b5, b6, bb, db] W Gp F' T k
  c4 : blk W b4 [yv]
  c5 : blk W b5 [.slice (some ⟨db, 0, none⟩) (n + 1) dc]
  c6 : blk W b6 [.slice (some ⟨rb, 0, none⟩) (n + 1) rc]
  cb : blk W bb [bx]
  rd : row W 52 1 (.slice (some ⟨db, 0, none⟩) (n + 1) dc) (n + 1) (refsCells d)
  rr : row W 52 1 (.slice (some ⟨rb, 0, none⟩) (n + 1) rc) (n + 1) (refsCells r)
  ne : rb ≠ b4 ∧ rb ≠ b5 ∧ rb ≠ b6 ∧ rb ≠ bb ∧ rb ≠ db
  d6 : b6 ≠ b4 ∧ b6 ≠ b5 ∧ b6 ≠ bb ∧ b6 ≠ db
  xw : X W
  hw : w.heap.size + 2 ≤ W.heap.size
  hB : B2 + 2 ≤ W.heap.size
/-- what is asked of the loop outside's books -/
structure XOk (w : World) (X : World → Prop) : Prop where
  same : ∀ A A' L, X A → Ch L A A' → (∀ q ∈ L, q ≠ w.heap.size ∧ q ≠ w.heap.size + 1) → X A'
section
variable {X : World → Prop} {b4 b5 b6 bb db dc : Nat} {yv bx : Value} {n : Nat} {d : List Nat} {rb rc : Nat} {r : List Nat}
theorem SR.to2 (h : SR w g F T0 I X B2 b4 b5 b6 bb db dc yv bx n d W Gp F' T k rb rc r) (hI : IOk I) (hX : XOk w X) {W' : World} {G1 : Gra} {F1 : List Nat} (a1 : GIn W' g G1 F1) (hc : Ch F' W W') (a3 : ∀ k ∈ F1, k ∈ F' ∨ W.heap.size ≤ k) (a4 : F1[2]? = F'[2]?) : SR w g F T0 I X B2 b4 b5 b6 bb db dc yv bx n d W' G1 F1 T k rb rc r := by
  have h1 := h.sx.to hI h.hw h.hB a1 hc a3 a4
  have hs := hc.size
  have hm := fun q hq => (h.sx.mine q hq).2.1
  exact ⟨h1, h.c4.ch hc (hm _ (by simp)), h.c5.ch hc (hm _ (by simp)), h.c6.ch hc (hm _ (by simp)), h.cb.ch hc (hm _ (by simp)), h.rd.ch hc (fun q hq => by cases hq; exact hm _ (by simp)), h.rr.ch hc (fun q hq => by cases hq; exact hm _ (by simp)), h.ne, h.d6,
    hX.same _ _ _ h.xw hc (fun q hq => by rcases h.sx.own q hq with e | e <;> constructor <;> omega), by have := h.hw; omega, by have := h.hB; omega⟩
theorem SR.to (h : SR w g F T0 I X B2 b4 b5 b6 bb db dc yv bx n d W Gp F' T k rb rc r) (hI : IOk I) (hX : XOk w X) {W' : World} {G1 : Gra} (ht : GTo W g G1 F' W') : ∃ F1, SR w g F T0 I X B2 b4 b5 b6 bb db dc yv bx n d W' G1 F1 T k rb rc r := by
  obtain ⟨F1, a1, a2, a3, a4⟩ := ht
  exact ⟨F1, h.to2 hI hX a1 a2 a3 a4⟩
/-- a bit of what is left is laid -/
theorem SR.put (h : SR w g F T0 I X B2 b4 b5 b6 bb db dc yv bx n d W Gp F' T k rb rc r) (hI : IOk I) (hX : XOk w X) (j v : Nat) : SR w g F T0 I X B2 b4 b5 b6 bb db dc yv bx n d (W.setCell ⟨rb, j, none⟩ (.int .i64 v)) Gp F' T k rb rc (r.set j v) := by
  obtain ⟨m1, m2, m3, m4, m5⟩ := h.sx.mine rb (by simp)
  obtain ⟨n1, n2, n3, n4, n5⟩ := h.ne
  have hc : Ch [rb] W (W.setCell ⟨rb, j, none⟩ (.int .i64 v)) := (Ch.refl _ _).setCell (.inl (by simp)) _
  have e : refsCells (r.set j v) = (refsCells r).set j (.int .i64 v) := by unfold refsCells; rw [List.map_set]
  exact ⟨h.sx.same hI hc (fun q hq => by rw [List.mem_singleton.1 hq]; exact ⟨by omega, m2, m3⟩), h.c4.ch hc (by simpa using fun e => n1 e.symm), h.c5.ch hc (by simpa using fun e => n2 e.symm), h.c6.ch hc (by simpa using fun e => n3 e.symm), h.cb.ch hc (by simpa using fun e => n4 e.symm), h.rd.ch hc (fun q hq => by cases hq; simpa using fun e => n5 e.symm), by rw [e]; exact row.set h.rr _, h.ne, h.d6,
    hX.same _ _ _ h.xw hc (fun q hq => by rw [List.mem_singleton.1 hq]; constructor <;> omega), by have := h.hw; have := hc.size; omega, by have := h.hB; have := hc.size; omega⟩
/-- what changes is none of it -/
theorem SR.same (h : SR w g F T0 I X B2 b4 b5 b6 bb db dc yv bx n d W Gp F' T k rb rc r) (hI : IOk I) (hX : XOk w X) {W' : World} {L : List Nat} (hc : Ch L W W') (hL : ∀ q ∈ L, w.heap.size + 2 ≤ q ∧ q ∉ F' ∧ q ∉ T ∧ q ∉ [rb, b4, b5, b6, bb, db]) : SR w g F T0 I X B2 b4 b5 b6 bb db dc yv bx n d W' Gp F' T k rb rc r := by
  have hm : ∀ q ∈ [rb, b4, b5, b6, bb, db], q ∉ L := fun q hq hm => (hL q hm).2.2.2 hq
  exact ⟨h.sx.same hI hc (fun q hq => ⟨by have := (hL q hq).1; omega, (hL q hq).2.1, (hL q hq).2.2.1⟩), h.c4.ch hc (hm _ (by simp)), h.c5.ch hc (hm _ (by simp)), h.c6.ch hc (hm _ (by simp)), h.cb.ch hc (hm _ (by simp)), h.rd.ch hc (fun q hq => by cases hq; exact hm _ (by simp)), h.rr.ch hc (fun q hq => by cases hq; exact hm _ (by simp)), h.ne, h.d6,
    hX.same _ _ _ h.xw hc (fun q hq => by have := (hL q hq).1; constructor <;> omega), by have := h.hw; have := hc.size; omega, by have := h.hB; have := hc.size; omega⟩
theorem SR.books (h : SR w g F T0 I X B2 b4 b5 b6 bb db dc yv bx n d W Gp F' T k rb rc r) (hI : IOk I) (hX : XOk w X) (hb : w.heap.size + 2 ≤ B2) {W' : World} (hc : Ch [B2, B2 + 1] W W') : SR w g F T0 I X B2 b4 b5 b6 bb db dc yv bx n d W' Gp F' T k rb rc r := by
  refine h.same hI hX hc (fun q hq => ?_)
  have hq2 : q = B2 ∨ q = B2 + 1 := by simpa using hq
  refine ⟨by omega, fun hm => by have := h.sx.nb q hm; omega, fun hm => by have := (h.sx.tb q hm).2.2.1; omega, fun hm => by have := (h.sx.mine q hm).2.2.2.1; omega⟩
/-- behind a round of the loop outside -/
theorem SR.next (h : SR w g F T0 I X B2 b4 b5 b6 bb db dc yv bx n d W Gp F' T k rb rc r) {W' : World} {T' : List Nat} (hI : I (k + 1) T' W') (hc : Ch (w.heap.size :: (w.heap.size + 1) :: T) W W') (hT : ∀ q ∈ T', q ∈ T ∨ W.heap.size ≤ q) (hT2 : ∀ q ∈ T', q < W'.heap.size) (hX : X W') : SR w g F T0 I X B2 b4 b5 b6 bb db dc yv bx n d W' Gp F' T' (k + 1) rb rc r := by
  have hm : ∀ q ∈ [rb, b4, b5, b6, bb, db], q ∉ w.heap.size :: (w.heap.size + 1) :: T := fun q hq hm => by
    obtain ⟨m1, m2, m3, m4, m5⟩ := h.sx.mine q hq
    simp only [List.mem_cons] at hm
    rcases hm with e | e | e
    · omega
    · omega
    · exact m3 e
  exact ⟨h.sx.next h.hw h.hB hI hc hT hT2, h.c4.ch hc (hm _ (by simp)), h.c5.ch hc (hm _ (by simp)), h.c6.ch hc (hm _ (by simp)), h.cb.ch hc (hm _ (by simp)), h.rd.ch hc (fun q hq => by cases hq; exact hm _ (by simp)), h.rr.ch hc (fun q hq => by cases hq; exact hm _ (by simp)), h.ne, h.d6, hX, by have := h.hw; have := hc.size; omega, by have := h.hB; have := hc.size; omega⟩
/-- what is left moves to a new block, in its cell -/
theorem SR.move (h : SR w g F T0 I X B2 b4 b5 b6 bb db dc yv bx n d W Gp F' T k rb rc r) (hI : IOk I) (hX : XOk w X) {W1 W2 : World} (h1 : Ch [] W W1) {rb' rc' : Nat} {r' : List Nat} (hrow : row W1 52 1 (.slice (some ⟨rb', 0, none⟩) (n + 1) rc') (n + 1) (refsCells r')) (hn : W.heap.size ≤ rb')
    (h2 : W2 = W1.setCell ⟨b6, 0, none⟩ (.slice (some ⟨rb', 0, none⟩) (n + 1) rc')) : SR w g F T0 I X B2 b4 b5 b6 bb db dc yv bx n d W2 Gp F' T k rb' rc' r' := by
  obtain ⟨e1, e2, e3, e4⟩ := h.d6
  have m6 := h.sx.mine b6 (by simp)
  have hlt := fun q hq => (h.sx.mine q hq).2.2.2.2
  have hc2 : Ch [b6] W1 W2 := by rw [h2]; exact (Ch.refl _ _).setCell (.inl (by simp)) _
  have hs1 := h1.size
  have hs2 := hc2.size
  have hr1 : rb' < W1.heap.size := (hrow.lt _ rfl).2
  have hw := h.hw
  have hB := h.hB
  have l4 := hlt b4 (by simp)
  have l5 := hlt b5 (by simp)
  have l6 := hlt b6 (by simp)
  have lb := hlt bb (by simp)
  have ld := hlt db (by simp)
  have sx1 := h.sx.same hI h1 (by simp)
  have sx2 := sx1.same hI hc2 (fun q hq => by rw [List.mem_singleton.1 hq]; exact ⟨by omega, m6.2.1, m6.2.2.1⟩)
  have sx3 := (sx2.sub (m' := [b4, b5, b6, bb, db]) (by simp)).add (W0 := W) (b := rb') (fun q hq => h.sx.gin.lt q hq) (fun q hq => (h.sx.tb q hq).2.2.2) hn hw hB (by omega)
  refine ⟨sx3, (h.c4.ch h1 (by simp)).ch hc2 (by simpa using fun e => e1 e.symm), (h.c5.ch h1 (by simp)).ch hc2 (by simpa using fun e => e2 e.symm), ?_, (h.cb.ch h1 (by simp)).ch hc2 (by simpa using fun e => e3 e.symm), (h.rd.ch h1 (by simp)).ch hc2 (fun q hq => by cases hq; simpa using fun e => e4 e.symm), hrow.ch hc2 (fun q hq => by cases hq; simp; omega), ⟨by omega, by omega, by omega, by omega, by omega⟩, h.d6,
    hX.same _ _ _ (hX.same _ _ _ h.xw h1 (by simp)) hc2 (fun q hq => by rw [List.mem_singleton.1 hq]; constructor <;> omega), by omega, by omega⟩
  rw [h2]
  exact (h.c6.ch h1 (by simp)).set _
end
end
end Go.Proofs.YtehljgigebhddaaGreat
namespace Go.Ord.OrdP
open Go
section
variable {ops : Array Oper} {ks : List Kd} {A : List Nat} {C : World → Prop} {Q : Act → World → Prop} {QP : List PanicEntry → World → Prop}
section plain
variable {P : Program} {Q' : Exit → Act → World → Prop}
/-- the normal way out, and a panic -/
def onlyP (QP : List PanicEntry → World → Prop) (Q : Act → World → Prop) : Exit → Act → World → Prop := fun e a w => (e = .normal ∧ Q a w) ∨ ∃ c, e = .panic c ∧ a.defers = [] ∧ QP c w

theorem onlyP_lets (QP : List PanicEntry → World → Prop) (Q : Act → World → Prop) : ¬ LetsOut (onlyP QP Q) := fun ⟨_, _, h⟩ => by
  rcases h with ⟨h, _⟩ | ⟨_, h, _⟩ <;> cases h
theorem onlyP_out {QP : List PanicEntry → World → Prop} {K K' : Act → World → Prop} {a a' : Act} {w : World} {c : List PanicEntry} (h : onlyP QP K (.panic c) a w) (hd : a.defers = a'.defers) : onlyP QP K' (.panic c) a' w := by
  rcases h with ⟨h, _⟩ | ⟨c', h1, h2, h3⟩
  · cases h
  · exact .inr ⟨c', h1, hd ▸ h2, h3⟩
theorem onlyP_in {QP : List PanicEntry → World → Prop} {K : Act → World → Prop} {a : Act} {w : World} (h : onlyP QP K .normal a w) : Exit.normal = Exit.normal ∧ K a w := by
  rcases h with h | ⟨_, h, _⟩
  · exact h
  · cases h
theorem put_defers' (a : Act) (d : Option Tmp) (v : Value) : (a.put d v).defers = a.defers := by cases d <;> rfl

theorem lawsP (hs : Stat ops ks A) (Q : Act → World → Prop) : Laws ops (wpOp P ops (onlyP QP Q)) (yieldsP P ops) where
  mono h hh := wpOp_mono h hh
  out := by
    rintro i o v a w K ho ⟨o', ho', hy⟩ h
    rw [ho] at ho'; cases ho'
    unfold wpOp
    simp only [ho]
    rcases hy with ⟨hw, hv⟩ | ⟨hw, rfl⟩
    · rw [if_pos hw]; left; exact hv.wp h
    · rw [if_neg (by simp [hw])]; exact h
  comm := by
    intro i j oi oj v a w K hi hj hap h
    obtain ⟨h1, h2, h3⟩ := Oper.apart_spec hap
    have hsi := fun cs b => hs.sel i oi cs b hi
    have hsj := fun cs b => hs.sel j oj cs b hj
    have keep : ∀ (a' : Act) (u : Value), execOp a'.eval oi = execOp a.eval oi → Region.wanted oi (yielded ops a'.tmps) = Region.wanted oi (yielded ops a.tmps) →
        ∀ x w0, yieldsP P ops i x a w0 → yieldsP P ops i x (a'.put oj.dst u) w0 := by
      rintro a' u e1 e2 x w0 ⟨o, ho, hy⟩
      rw [hi] at ho; cases ho
      refine ⟨oi, hi, ?_⟩
      rw [wanted_put oi a' oj.dst u h3, e2]
      unfold RunsTo at *
      rw [execOp_put oi hsi a' oj.dst u h3, e1]
      exact hy
    unfold wpOp at *
    simp only [hj] at *
    rw [wanted_put oj a oi.dst v h1] at h
    split
    · rename_i hw
      rw [if_pos hw] at h
      left
      have h := h.resolve_right fun hh => onlyP_lets QP Q hh.2
      unfold Oper.wp at *
      rw [execOp_put oj hsj a oi.dst v h1] at h
      generalize (execOp a.eval oj).run P w = r at *
      cases r with
      | ok n w' =>
        cases n <;> simp only [Oper.upon] at h ⊢
        case value u => exact ⟨keep a u rfl rfl, by rw [← Act.put_comm a v u h2]; exact h⟩
        case skip => exact ⟨keep a _ rfl rfl, by rw [← Act.put_comm a v undef h2]; exact h⟩
        case defer d =>
          refine ⟨keep { a with defers := d :: a.defers } _ rfl rfl, ?_⟩
          rw [← Act.put_comm _ v undef h2, ← Act.put_defers]
          exact h
        case enter f args =>
          refine Calls.mono h fun e w'' he => ?_
          cases e with
          | returned u => exact ⟨keep a u rfl rfl, by rw [← Act.put_comm a v u h2]; exact he⟩
          | panicked c => exact onlyP_out he (put_defers' a oi.dst v)
          | outgrown => exact (onlyP_lets QP Q he).elim
        case row row args => exact Rows.mono h fun u w'' he => ⟨keep a u rfl rfl, by rw [← Act.put_comm a v u h2]; exact he⟩
      | halt x w' =>
        cases x <;> simp only [Oper.upon] at h ⊢
        case panic u => exact onlyP_out h (put_defers' a oi.dst v)
    · rename_i hw
      rw [if_neg hw] at h
      exact ⟨keep a _ rfl rfl, by rw [← Act.put_comm a v undef h2]; exact h⟩

theorem wpAny_of_all (hs : Stat ops ks A) (Q : Act → World → Prop) : ∀ (m : Nat) (R : List Nat) (listed : Array Bool) (a : Act) (w : World), R.Nodup → (∀ k ∈ R, k < ops.size) → R.length = m → listed.size = ops.size → Fits ops listed R →
    allOrd ops (wpOp P ops (onlyP QP Q)) ks A C Q m R a w → wpAny P .any ops (onlyP QP Q) m listed a w := by
  intro m
  induction m with
  | zero =>
    intro R listed a w hn hlt hlen hsz hf h
    have hR : R = [] := List.eq_nil_of_length_eq_zero hlen
    refine ⟨?_, .inl ⟨rfl, h⟩⟩
    cases hr : Region.ready .any ops listed with
    | nil => rfl
    | cons x xs =>
      have := (hf.mem hs (i := x) (by rw [hr]; simp)).1
      rw [hR] at this; cases this
  | succ m ih =>
    intro R listed a w hn hlt hlen hsz hf h
    refine ⟨fun h0 => (hf.nonempty hs hlt (by intro e; rw [e] at hlen; cases hlen) h0).elim, fun i hi => ?_⟩
    obtain ⟨hiR, hri⟩ := hf.mem hs hi
    refine wpOp_mono (fun a' w' h3 => ?_) (h i hiR hri)
    exact ih (R.erase i) _ a' w' (hn.erase _) (fun k hk => hlt k (List.mem_of_mem_erase hk)) (by rw [List.length_erase_of_mem hiR]; omega) (by simpa using hsz) (hf.set hn hsz) h3.2

/-! ### The steps -/
section steps
variable {l : List Oper}
/-- what is left, with all that the walk never asks of it again -/
def St (QP : List PanicEntry → World → Prop) (P : Program) (l : List Oper) (ks : List Kd) (A : List Nat) (C : World → Prop) (Q : Act → World → Prop) (R : List Nat) (a : Act) (w : World) : Prop :=
  R.Nodup → Up l.toArray R → (∀ k ∈ R, k < l.toArray.size) → Stat l.toArray ks A → allOrd l.toArray (wpOp P l.toArray (onlyP QP Q)) ks A C Q R.length R a w

theorem St.nil {a : Act} {w : World} (h : Q a w) : St QP P l ks A C Q [] a w := fun _ _ _ _ => h
theorem St.take {R R' : List Nat} {a : Act} {w : World} {v : Value} (i : Nat) (o : Oper) (hi : l.toArray[i]? = some o) (hiR : R.contains i = true) (hr : readyIn l.toArray R i = true) (hR : R.erase i = R')
    (ht : Takes (yieldsP P l.toArray) C (kd ks i) i v a w) (h : St QP P l ks A C Q R' (a.put o.dst v) w) : St QP P l ks A C Q R a w := by
  intro hn hu hlt hs
  have hm : i ∈ R := by simpa using hiR
  have hlen : R.length = R.length - 1 + 1 := by have := List.length_pos_of_mem hm; omega
  rw [hlen]
  refine Go.Ord.take (lawsP hs Q) hs hi (R.length - 1) R a w hn hu hlt hlen hm hr ht ?_
  subst hR
  have := h (hn.erase _) (hu.erase hn hr) (fun k hk => hlt k (List.mem_of_mem_erase hk)) hs
  rwa [List.length_erase_of_mem hm] at this

/-- passed over: the guard says no -/
theorem St.skip {R : List Nat} {a : Act} {w : World} (i : Nat) (R' : List Nat) (o : Oper) (hil : l[i]? = some o) (hchk : chk l.toArray ks R R' i .fl = true)
    (hg : Region.wanted o (yielded l.toArray a.tmps) = false) (h : ∀ K : Act → Prop, (∀ a, St QP P l ks A C Q R' a w → K a) → K (a.put o.dst undef)) : St QP P l ks A C Q R a w :=
  have hi : l.toArray[i]? = some o := by simpa using hil
  have ⟨hiR, hr, hR, hk⟩ := chk_spec hchk
  .take i o hi hiR hr hR (by rw [hk]; exact fun _ => ⟨o, hi, .inr ⟨hg, rfl⟩⟩) (h _ fun _ h => h)

theorem St.ho {R : List Nat} {a : Act} {w : World} {v : Value} (i : Nat) (R' : List Nat) (o : Oper) (hil : l[i]? = some o) (hchk : chk l.toArray ks R R' i .ho = true)
    (hg : Region.wanted o (yielded l.toArray a.tmps) = true) (hC : C w) (hv : ∀ w', C w' → (execOp a.eval o).run P w' = .ok (.value v) w') (h : ∀ K : Act → Prop, (∀ a, St QP P l ks A C Q R' a w → K a) → K (a.put o.dst v)) : St QP P l ks A C Q R a w :=
  have hi : l.toArray[i]? = some o := by simpa using hil
  have ⟨hiR, hr, hR, hk⟩ := chk_spec hchk
  .take i o hi hiR hr hR (by rw [hk]; exact ⟨hC, fun w' hw' => ⟨o, hi, .inl ⟨hg, by unfold RunsTo; rw [hv w' hw']; exact ⟨rfl, rfl⟩⟩⟩⟩) (h _ fun _ h => h)

theorem St.rd {R : List Nat} {a : Act} {w : World} (i : Nat) (R' : List Nat) (o : Oper) (hil : l[i]? = some o) (hchk : chk l.toArray ks R R' i .rd = true)
    (hg : Region.wanted o (yielded l.toArray a.tmps) = true) (h : ∀ K : Act → Prop, (∀ a, St QP P l ks A C Q R' a w → K a) → o.still P a w K) : St QP P l ks A C Q R a w := by
  have hi : l.toArray[i]? = some o := by simpa using hil
  have ⟨hiR, hr, hR, hk⟩ := chk_spec hchk
  have h1 := h _ (fun _ hh => hh)
  have key : ∃ v, RunsTo P o a w v ∧ St QP P l ks A C Q R' (a.put o.dst v) w := by
    unfold Oper.still at h1
    unfold RunsTo
    generalize (execOp a.eval o).run P w = r at *
    cases r with
    | ok n w' =>
      cases n <;> simp only [Oper.stillUpon] at h1
      case value u => exact ⟨u, ⟨h1.1, rfl⟩, h1.2⟩
      case skip => exact ⟨undef, ⟨h1.1, rfl⟩, h1.2⟩
      case enter f args => obtain ⟨e, v, hc, h2⟩ := h1; exact ⟨v, by rw [e]; exact hc, h2⟩
    | halt x w' => simp only [Oper.stillUpon] at h1
  obtain ⟨v, hy, hK⟩ := key
  exact .take i o hi hiR hr hR (v := v) (by rw [hk]; exact ⟨o, hi, .inl ⟨hg, hy⟩⟩) hK

/-- the effect that alone may come up: its own walk, as a list of one operation -/
theorem St.ef {R : List Nat} {a : Act} {w : World} (i : Nat) (R' : List Nat) (o : Oper) (hil : l[i]? = some o) (hchk : chkE l.toArray ks A R R' i = true)
    (h : ∀ K : Act → World → Prop, (∀ a w, St QP P l ks A C Q R' a w → K a w) → wpList P l.toArray (onlyP QP K) [o] a w) : St QP P l ks A C Q R a w := by
  have hi : l.toArray[i]? = some o := by simpa using hil
  have ⟨hr, hR, hk, hc⟩ := chkE_spec hchk
  intro hn hu hlt hs
  have hm : i ∈ R := (List.mem_filter.1 (hr ▸ List.mem_singleton.2 rfl : i ∈ R.filter (readyIn l.toArray R))).1
  have hri : readyIn l.toArray R i = true := (List.mem_filter.1 (hr ▸ List.mem_singleton.2 rfl : i ∈ R.filter (readyIn l.toArray R))).2
  have hlen : R.length = R.length - 1 + 1 := by have := List.length_pos_of_mem hm; omega
  rw [hlen]
  refine branch hr fun j hj => ?_
  have hji : j = i := List.mem_singleton.1 hj
  subst hji
  have h1 := h _ (fun _ _ hh => hh)
  unfold wpOp
  simp only [hi]
  unfold wpList at h1
  have key : ∀ a' w', (wpList P l.toArray (onlyP QP (fun a w => St QP P l ks A C Q R' a w)) [] a' w') → post ks A l.toArray.size C j w w' ∧ allOrd l.toArray (wpOp P l.toArray (onlyP QP Q)) ks A C Q (R.length - 1) (R.erase j) a' w' := by
    intro a' w' hh
    refine ⟨?_, ?_⟩
    · unfold post; rw [if_pos hk]; intro hh2; rw [hc] at hh2; exact absurd hh2 (by simp)
    subst hR
    have := (onlyP_in hh).2 (hn.erase _) (hu.erase hn hri) (fun k hk => hlt k (List.mem_of_mem_erase hk)) hs
    rwa [List.length_erase_of_mem hm] at this
  split
  · rename_i hw
    rw [if_pos hw] at h1
    have h1 := h1.resolve_right fun hh => onlyP_lets _ _ hh.2
    left
    have h2 := Oper.wp_mono (K' := fun a' w' => post ks A l.toArray.size C j w w' ∧ allOrd l.toArray (wpOp P l.toArray (onlyP QP Q)) ks A C Q (R.length - 1) (R.erase j) a' w') key h1
    unfold Oper.wp at h2 ⊢
    generalize (execOp a.eval o).run P w = r at h2 ⊢
    cases r with
    | ok n w' =>
      cases n <;> simp only [Oper.upon] at h2 ⊢
      case value u => exact h2
      case skip => exact h2
      case defer d => exact h2
      case enter f args =>
        refine Calls.mono h2 fun e w'' he => ?_
        cases e with
        | returned u => exact he
        | panicked c => exact onlyP_out he rfl
        | outgrown => exact (onlyP_lets _ _ he).elim
      case row row args => exact h2
    | halt x w' =>
      cases x <;> simp only [Oper.upon] at h2 ⊢
      case panic u => exact onlyP_out h2 rfl
  · rename_i hw
    rw [if_neg hw] at h1
    exact key _ _ h1
/-- the same where the class of worlds is asked for behind it -/
theorem St.efC {R : List Nat} {a : Act} {w : World} (i : Nat) (R' : List Nat) (o : Oper) (hil : l[i]? = some o) (hchk : chkEC l.toArray ks R R' i = true)
    (h : ∀ K : Act → World → Prop, (∀ a w, C w → St QP P l ks A C Q R' a w → K a w) → wpList P l.toArray (onlyP QP K) [o] a w) : St QP P l ks A C Q R a w := by
  have hi : l.toArray[i]? = some o := by simpa using hil
  have ⟨hr, hR, hk⟩ := chkEC_spec hchk
  intro hn hu hlt hs
  have hm : i ∈ R := (List.mem_filter.1 (hr ▸ List.mem_singleton.2 rfl : i ∈ R.filter (readyIn l.toArray R))).1
  have hri : readyIn l.toArray R i = true := (List.mem_filter.1 (hr ▸ List.mem_singleton.2 rfl : i ∈ R.filter (readyIn l.toArray R))).2
  have hlen : R.length = R.length - 1 + 1 := by have := List.length_pos_of_mem hm; omega
  rw [hlen]
  refine branch hr fun j hj => ?_
  have hji : j = i := List.mem_singleton.1 hj
  subst hji
  have h1 := h (fun a w => C w ∧ St QP P l ks A C Q R' a w) (fun _ _ hc hh => ⟨hc, hh⟩)
  unfold wpOp
  simp only [hi]
  unfold wpList at h1
  have key : ∀ a' w', (wpList P l.toArray (onlyP QP (fun a w => C w ∧ St QP P l ks A C Q R' a w)) [] a' w') → post ks A l.toArray.size C j w w' ∧ allOrd l.toArray (wpOp P l.toArray (onlyP QP Q)) ks A C Q (R.length - 1) (R.erase j) a' w' := by
    intro a' w' hh
    refine ⟨?_, ?_⟩
    · unfold post; rw [if_pos hk]; intro _; exact (onlyP_in hh).2.1
    subst hR
    have := (onlyP_in hh).2.2 (hn.erase _) (hu.erase hn hri) (fun k hk => hlt k (List.mem_of_mem_erase hk)) hs
    rwa [List.length_erase_of_mem hm] at this
  split
  · rename_i hw
    rw [if_pos hw] at h1
    have h1 := h1.resolve_right fun hh => onlyP_lets _ _ hh.2
    left
    have h2 := Oper.wp_mono (K' := fun a' w' => post ks A l.toArray.size C j w w' ∧ allOrd l.toArray (wpOp P l.toArray (onlyP QP Q)) ks A C Q (R.length - 1) (R.erase j) a' w') key h1
    unfold Oper.wp at h2 ⊢
    generalize (execOp a.eval o).run P w = r at h2 ⊢
    cases r with
    | ok n w' =>
      cases n <;> simp only [Oper.upon] at h2 ⊢
      case value u => exact h2
      case skip => exact h2
      case defer d => exact h2
      case enter f args =>
        refine Calls.mono h2 fun e w'' he => ?_
        cases e with
        | returned u => exact he
        | panicked c => exact onlyP_out he rfl
        | outgrown => exact (onlyP_lets _ _ he).elim
      case row row args => exact h2
    | halt x w' =>
      cases x <;> simp only [Oper.upon] at h2 ⊢
      case panic u => exact onlyP_out h2 rfl
  · rename_i hw
    rw [if_neg hw] at h1
    exact key _ _ h1
/-! ### The same steps, asked of the walk's own 'Oper.wp': the step itself finds the new frame -/
/-- all that the kernel looks at, with the slot that is written -/
theorem St.fl2 {R : List Nat} {a : Act} {T' : Array Value} {w : World} (i : Nat) (R' : List Nat) (o : Oper) (d : Nat) (hil : l[i]? = some o) (hchk : chk l.toArray ks R R' i .fl = true) (hg : Region.wanted o (yielded l.toArray a.tmps) = true)
    (hd : o.dst = some d) (hlt : Nat.blt d a.tmps.size = true) (hl : a.defers.length = a.defers.length) (hv : ∀ (K : Act → World → Prop) (w' : World), K ⟨T', a.defers⟩ w' → o.wp P a w' K noExit) (h : St QP P l ks A C Q R' ⟨T', a.defers⟩ w) : St QP P l ks A C Q R a w := by
  have hi : l.toArray[i]? = some o := by simpa using hil
  have ⟨hiR, hr, hR, hk⟩ := chk_spec hchk
  have hput := (runsTo_of_wp (a' := ⟨T', a.defers⟩) hd hlt rfl hl (fun K hK => hv K w hK)).2
  exact .take i o hi hiR hr hR (v := T'.getD d undef) (by rw [hk]; exact fun w' => ⟨o, hi, .inl ⟨hg, (runsTo_of_wp (a' := ⟨T', a.defers⟩) hd hlt rfl hl (fun K hK => hv K w' hK)).1⟩⟩) (by rw [← hput]; exact h)

theorem St.ho2 {R : List Nat} {a : Act} {T' : Array Value} {w : World} (i : Nat) (R' : List Nat) (o : Oper) (d : Nat) (hil : l[i]? = some o) (hchk : chk l.toArray ks R R' i .ho = true) (hg : Region.wanted o (yielded l.toArray a.tmps) = true)
    (hd : o.dst = some d) (hlt : Nat.blt d a.tmps.size = true) (hl : a.defers.length = a.defers.length) (hC : C w) (hv : ∀ (K : Act → World → Prop) (w' : World), C w' → K ⟨T', a.defers⟩ w' → o.wp P a w' K noExit) (h : St QP P l ks A C Q R' ⟨T', a.defers⟩ w) : St QP P l ks A C Q R a w := by
  have hi : l.toArray[i]? = some o := by simpa using hil
  have ⟨hiR, hr, hR, hk⟩ := chk_spec hchk
  have hput := (runsTo_of_wp (a' := ⟨T', a.defers⟩) hd hlt rfl hl (fun K hK => hv K w hC hK)).2
  exact .take i o hi hiR hr hR (v := T'.getD d undef) (by rw [hk]; exact ⟨hC, fun w' hw' => ⟨o, hi, .inl ⟨hg, (runsTo_of_wp (a' := ⟨T', a.defers⟩) hd hlt rfl hl (fun K hK => hv K w' hw' hK)).1⟩⟩⟩) (by rw [← hput]; exact h)

theorem St.rd2 {R : List Nat} {a : Act} {T' : Array Value} {w : World} (i : Nat) (R' : List Nat) (o : Oper) (d : Nat) (hil : l[i]? = some o) (hchk : chk l.toArray ks R R' i .rd = true) (hg : Region.wanted o (yielded l.toArray a.tmps) = true)
    (hd : o.dst = some d) (hlt : Nat.blt d a.tmps.size = true) (hl : a.defers.length = a.defers.length) (hv : ∀ K : Act → World → Prop, K ⟨T', a.defers⟩ w → o.wp P a w K noExit) (h : St QP P l ks A C Q R' ⟨T', a.defers⟩ w) : St QP P l ks A C Q R a w := by
  have hi : l.toArray[i]? = some o := by simpa using hil
  have ⟨hiR, hr, hR, hk⟩ := chk_spec hchk
  have ⟨hrun, hput⟩ := runsTo_of_wp (a' := ⟨T', a.defers⟩) hd hlt rfl hl hv
  exact .take i o hi hiR hr hR (v := T'.getD d undef) (by rw [hk]; exact ⟨o, hi, .inl ⟨hg, hrun⟩⟩) (by rw [← hput]; exact h)

/-- passed over: the guard of a reading operation says no -/
theorem St.skipr {R : List Nat} {a : Act} {w : World} (i : Nat) (R' : List Nat) (o : Oper) (hil : l[i]? = some o) (hchk : chk l.toArray ks R R' i .rd = true)
    (hg : Region.wanted o (yielded l.toArray a.tmps) = false) (h : ∀ K : Act → Prop, (∀ a, St QP P l ks A C Q R' a w → K a) → K (a.put o.dst undef)) : St QP P l ks A C Q R a w := by
  have hi : l.toArray[i]? = some o := by simpa using hil
  have ⟨hiR, hr, hR, hk⟩ := chk_spec hchk
  exact .take i o hi hiR hr hR (by rw [hk]; exact ⟨o, hi, .inr ⟨hg, rfl⟩⟩) (h _ fun _ h => h)
end steps
end plain
end
section
variable {n : Nat} {P : Program} {l : List Oper} {Q' : Exit → Act → World → Prop} {QP : List PanicEntry → World → Prop}
theorem St.doorR {lp id : Nat} {a : Act} {w : World} (C : World → Prop) (ks : List Kd) (A : List Nat) (R : List Nat) (hm : P.follows .mixedOrders = true) (hqq : l.all noDefer = true) (hs : stat l.toArray ks A = true) (hR : List.range l.length = R)
    (hQP : ∀ c a w, a.defers = [] → QP c w → Q' (.panic c) a w) (h : St QP P l ks A C (Q' .normal) R a w.drew) : (Code.region id l.toArray true).wpIn (Fence.wide.inRound lp) n P Q' a w := by
  refine wpIn_mono (Q := onlyP QP (Q' .normal)) ?_ (fun e a w h => h.elim (fun ⟨he, hq⟩ => he ▸ hq) (fun ⟨c, he, hd, hq⟩ => he ▸ hQP c a w hd hq))
  refine wpIn_region_any hm ?_
  subst hR
  have h2 := h List.nodup_range (fun k o e hk _ _ _ => List.mem_range.2 (by have := lt_size hk; simpa using this)) (by simp) (stat_spec hs)
  have := wpAny_of_all (P := P) (C := C) (QP := QP) (stat_spec hs) (Q' .normal) l.length (List.range l.length) (Array.replicate l.length false) a w.drew List.nodup_range (by simp) (by simp) (by simp)
    (fun k hk => by simp at hk; simp [hk]) (by simpa using h2)
  have h3 := any_wide (l := lp) (n := n) (onlyP_lets _ _) (fun o ho => List.all_eq_true.1 hqq o (by simpa using ho)) _ _ _ _ this
  simpa using h3
end
end Go.Ord.OrdP
namespace Go.Ord
open Go
theorem list_wide {lp n : Nat} {P : Program} {ops : Array Oper} {Q : Exit → Act → World → Prop} (hnl : ¬ LetsOut Q) : ∀ (l : List Oper) (a : Act) (w : World), l.all noDefer = true → wpList P ops Q l a w → wpListIn (Fence.wide.inRound lp) n P ops Q l a w
  | [], _, _, _, h => h
  | o :: rest, a, w, hq, h => by
    rw [List.all_cons, Bool.and_eq_true] at hq
    unfold wpList at h
    unfold wpListIn
    split
    · rename_i hw
      rw [if_pos hw] at h
      exact wide_in hq.1 (Oper.wp_mono (fun a w hh => list_wide hnl rest a w hq.2 hh) (h.resolve_right fun hh => hnl hh.2))
    · rename_i hw
      rw [if_neg hw] at h
      exact ⟨fun _ _ => trivial, list_wide hnl rest _ w hq.2 h⟩
theorem plainR {lp n id : Nat} {P : Program} {l : List Oper} {Q' : Exit → Act → World → Prop} {a : Act} {w : World} (hqq : l.all noDefer = true) (h : wpList P l.toArray (only (Q' .normal)) l a w) :
    (Code.region id l.toArray false).wpIn (Fence.wide.inRound lp) n P Q' a w := by
  refine Go.wpIn_mono (Q := only (Q' .normal)) ?_ (fun e a w ⟨he, hq⟩ => he ▸ hq)
  exact wpIn_region_lit (list_wide (only_lets _) l a w hqq h)
end Go.Ord
namespace Go
/-- the widest fence does not count frames -/
theorem YieldAt.any {m : Nat} (m' : Nat) {P : Program} {l : Nat} {args : Array Value} {W : World} {R : Ending → World → Prop} (h : YieldAt Fence.wide m P l args W R) : YieldAt Fence.wide m' P l args W R := by
  obtain ⟨fn, tmps, assign, body, h1, h2, h3⟩ := h
  exact ⟨fn, tmps, assign, body, h1, h2, fun c cs _ => h3 c cs (room_wide _)⟩
theorem RoundIn.any {m : Nat} (m' : Nat) {P : Program} {l : Nat} {f : FuncId} {tmps : Array Value} {assign body : Code} {W : World} {R : Ending → World → Prop} (h : RoundIn Fence.wide m P l f tmps assign body W R) (l2 : Nat) : RoundIn (Fence.wide.inRound l2) m' P l f tmps assign body W R :=
  ⟨h.1, fun c cs _ => h.2 c cs (room_wide _)⟩
theorem CallsIn.any {m : Nat} (m' : Nat) {P : Program} {f : FuncId} {args : Array Value} {W : World} {R : Ending → World → Prop} (h : CallsIn Fence.wide m P f args W R) : CallsIn Fence.wide m' P f args W R := callsIn_wide.2 (callsIn_wide.1 h)
end Go
namespace Go.Proofs.YtehljgigebhddaaGreat
open Go.RowKit Go.Mem Go.Aig
attribute [local go_sem] Oper.semAt_some
/-- a yield of steps: the round, the blocks of the loop outside, the world; the bit, and what is left -/
structure YX where
  k : Nat
  T : List Nat
  W : World
  f : Nat
  rb : Nat
  rc : Nat
  r : List Nat
def sEnc (n : Nat) (x : YX) : Array Value := #[.int .i64 x.f, .slice (some ⟨x.rb, 0, none⟩) (n + 1) x.rc]
def KX (w : World) (F T0 : List Nat) (I : Nat → List Nat → World → Prop) (d : List Nat) (G : Gra) (bits : List Nat) (n : Nat) (x : YX) (W : World) : Prop :=
  Ch [w.heap.size, w.heap.size + 1] x.W W ∧ Ch (T0 ++ F) w x.W ∧ I x.k x.T x.W ∧ row x.W 52 1 (.slice (some ⟨x.rb, 0, none⟩) (n + 1) x.rc) (n + 1) (refsCells x.r) ∧ (x.rb ∉ x.T ∧ w.heap.size + 2 ≤ x.rb) ∧ (∀ q ∈ x.T, q ≠ w.heap.size ∧ q ≠ w.heap.size + 1 ∧ q < x.W.heap.size ∧ (q ∈ T0 ∨ w.heap.size + 2 ≤ q)) ∧ w.heap.size + 2 ≤ x.W.heap.size ∧ x.k < n ∧
    (divF d (G, 0) (bits.take (x.k + 1))).2 = ((divF d (G, 0) (bits.take x.k)).2.1 ++ [x.f], x.r) ∧ x.r.length = n + 1 ∧ ∀ z ∈ x.r, z ≤ 1000000
def JX (w : World) (I : Nat → List Nat → World → Prop) (x : YX) (W' : World) : Prop :=
  ∃ T', I (x.k + 1) T' W' ∧ Ch (w.heap.size :: (w.heap.size + 1) :: x.T) x.W W' ∧ (∀ q ∈ T', (q ∈ x.T ∨ x.W.heap.size ≤ q) ∧ q < W'.heap.size)
def DX (w : World) (g : Nat) (F T0 : List Nat) (I : Nat → List Nat → World → Prop) (R : Mk × List Nat × List Nat) (n : Nat) (W' : World) : Prop :=
  R.1.2 = 0 ∧ ∃ F' T', GIn W' g R.1.1 F' ∧ Ch (T0 ++ F) w W' ∧ (∀ q ∈ F', (q ∈ F ∧ q < w.heap.size) ∨ w.heap.size + 2 ≤ q) ∧ F'[2]? = F[2]? ∧ I n T' W' ∧ (∀ q ∈ T', ((q ∈ T0 ∧ q < w.heap.size) ∨ w.heap.size + 2 ≤ q) ∧ q ∉ F' ∧ q < W'.heap.size)
def DPX (w : World) (g : Nat) (F T0 : List Nat) (G : Gra) (er : Nat) (c : List PanicEntry) (W' : World) : Prop :=
  er ≠ 0 ∧ c = [{ v := stopV er, recovered := false }] ∧ ∃ G' F', Ext G G' ∧ GIn W' g G' F' ∧ Ch (T0 ++ F) w W' ∧ (∀ q ∈ F', (q ∈ F ∧ q < w.heap.size) ∨ w.heap.size + 2 ≤ q) ∧ F'[2]? = F[2]?
theorem bwd_bit {x : List Nat} {n k i b : Nat} (hn : x.length = n) (h : (bwd x)[k]? = some (i, b)) : k < n ∧ x.reverse[k]? = some b := by
  have hl := (List.getElem?_eq_some_iff.1 h).1
  rw [bwd_len] at hl
  refine ⟨by omega, ?_⟩
  obtain ⟨r, hr⟩ : ∃ r, x[x.length - 1 - k]? = some r := ⟨_, List.getElem?_eq_getElem (by omega)⟩
  have h2 := bwd_at (l := x) (k := k) (j := x.length - 1 - k) (by omega) hr
  rw [h] at h2
  cases h2
  rw [List.getElem?_reverse (by omega)]
  exact hr
theorem row_cap' {w : World} {e : TypeId} {b n m c : Nat} {xs : List Value} (h : row w e 1 (.slice (some ⟨b, 0, none⟩) n c) m xs) : n ≤ c := by
  rcases h.2 with ⟨e1, _⟩ | ⟨g, cap, cur, e1, h2, h3, h4, _⟩
  · cases e1
  · cases e1; omega
/-- between two rounds of steps -/
def II (w : World) (g : Nat) (G : Gra) (F T0 : List Nat) (I : Nat → List Nat → World → Prop) (X : World → Prop) (B2 b4 b5 b6 bb db dc : Nat) (yv bx : Value) (n : Nat) (d bits : List Nat) (k : Nat) (W : World) : Prop :=
  ∃ Gp F' T rb rc r, (divF d (G, 0) (bits.take k)).1 = (Gp, 0) ∧ (divF d (G, 0) (bits.take k)).2.2 = r ∧ r.length = n + 1 ∧ (∀ q ∈ r, q < 2 * Gp.nodes.length) ∧ Ext G Gp ∧ SR w g F T0 I X B2 b4 b5 b6 bb db dc yv bx n d W Gp F' T k rb rc r
/-- where steps stops -/
def DP2 (w : World) (g : Nat) (F T0 : List Nat) (G : Gra) (X : World → Prop) (B2 er : Nat) (c : List PanicEntry) (W' : World) : Prop :=
  er ≠ 0 ∧ c = [{ v := stopV er, recovered := false }] ∧ ∃ G' F', Ext G G' ∧ GIn W' g G' F' ∧ Ch (T0 ++ F) w W' ∧ (∀ q ∈ F', (q ∈ F ∧ q < w.heap.size) ∨ w.heap.size + 2 ≤ q) ∧ F'[2]? = F[2]? ∧ X W' ∧ (∀ q ∈ F', q < B2 ∨ B2 + 2 ≤ q)
theorem SR.stop {w : World} {g : Nat} {G : Gra} {F T0 : List Nat} {I : Nat → List Nat → World → Prop} {X : World → Prop} {B2 b4 b5 b6 bb db dc : Nat} {yv bx : Value} {n : Nat} {d : List Nat} {W : World} {Gp : Gra} {F' T : List Nat} {k rb rc : Nat} {r : List Nat} (h : SR w g F T0 I X B2 b4 b5 b6 bb db dc yv bx n d W Gp F' T k rb rc r) (he : Ext G Gp) {er e0 : Nat} (h0 : e0 ≠ 0) (hr : er = e0) : DP2 w g F T0 G X B2 er [{ v := stopV e0, recovered := false }] W :=
  ⟨by rw [hr]; exact h0, by rw [hr], Gp, F', he, h.sx.gin, h.sx.ch, h.sx.own, h.sx.f2, h.xw, h.sx.nb⟩
theorem SR.booksTo {w : World} {g : Nat} {F T0 : List Nat} {I : Nat → List Nat → World → Prop} {X : World → Prop} {B2 b4 b5 b6 bb db dc : Nat} {yv bx : Value} {n : Nat} {d : List Nat} {W W' : World} {Gp G1 : Gra} {F' T : List Nat} {k rb rc : Nat} {r : List Nat} (h : SR w g F T0 I X B2 b4 b5 b6 bb db dc yv bx n d W Gp F' T k rb rc r) (ht : GTo W g G1 F' W') : Books B2 W W' := by
  obtain ⟨_, _, hc, _⟩ := ht
  exact Books.of_ch hc h.hB (fun q hq => by have := h.sx.nb q hq; omega)
theorem fnvmdsteps1 : Fnv 296 := fnv_of Tryz.func296 (by simp [Tryz.f296]) (by simp [Tryz.f296])
section
variable {w : World} {g : Nat} {G : Gra} {F T0 : List Nat}
set_option maxRecDepth 100000 in
set_option maxHeartbeats 1000000 in
theorem mdsteps_is (w : World) (g : Nat) (xa ya : Option Addr) (n xc m yc : Nat) :
    Calls Tryz.prog 215 #[.pointer (some ⟨g, 0, none⟩), .slice xa n xc, .slice ya m yc] w fun e w' => e = .returned (.func (.func 296) #[] #[.pointer (some ⟨w.heap.size + 1 + 1, 0, none⟩), .pointer (some ⟨w.heap.size + 1, 0, none⟩), .pointer (some ⟨w.heap.size, 0, none⟩)]) ∧
      w' = ((w.alloc (.cells #[.pointer (some ⟨g, 0, none⟩)] 42)).alloc (.cells #[.slice xa n xc] 45)).alloc (.cells #[.slice ya m yc] 45) := by
  have hmf : ∀ (fn : Fn) (first cap : Array Value) (w : World), (Instr.makeFunc fn first cap).run Tryz.prog w = .ok (.func fn first cap) w := fun _ _ _ _ => rfl
  go_enter Tryz.func215, Tryz.ntmps215
  go_wp2_with fail
  go_ret
  exact ⟨rfl, rfl⟩
set_option maxRecDepth 100000 in
set_option maxHeartbeats 4000000 in
theorem mdsteps1_seq {I : Nat → List Nat → World → Prop} (h : GIn w g G F) {x y : List Nat} {xa ya : Option Addr} {xc yc : Nat} (n : Nat) (hxl : x.length = n) (hyl : y.length = n) (h1 : 1 ≤ n) (h16 : n ≤ 16)
    (hx : WVin w (T0 ++ F) ⟨xa, natInts x, xc⟩) (hy : WVin w (T0 ++ F) ⟨ya, natInts y, yc⟩) (hxr : ∀ r ∈ x, r < 2 * G.nodes.length) (hyr : ∀ r ∈ y, r < 2 * G.nodes.length)
    {bG bX bY : Nat} (hbg : blk w bG [.pointer (some ⟨g, 0, none⟩)]) (hbx : blk w bX [.slice xa n xc]) (hby : blk w bY [.slice ya n yc]) (hbF : bG ∉ T0 ++ F ∧ bX ∉ T0 ++ F ∧ bY ∉ T0 ++ F)
    (hI : IOk I) (hI0 : I 0 T0 w) (hT0 : ∀ q ∈ T0, q < w.heap.size ∧ q ∉ F)
    (N : Nat) (lp : Nat) (X : World → Prop) (hX : XOk w X) (hXB : ∀ A, X A → w.heap.size + 2 ≤ A.heap.size)
    (hY : ∀ q W, KX w F T0 I (y ++ [0]) G x.reverse n q W → X W → YieldAt Fence.wide N Tryz.prog lp (sEnc n q) W fun e W' => e = .returned (.bool true) ∧ JX w I q W' ∧ X W')
    (W : World) (hc0 : Ch [w.heap.size, w.heap.size + 1] w W) (hXW : X W) :
    CallsIn Fence.wide N Tryz.prog 296 (#[.func (.yield lp) #[] #[]] ++ #[.pointer (some ⟨bY, 0, none⟩), .pointer (some ⟨bX, 0, none⟩), .pointer (some ⟨bG, 0, none⟩)]) W fun e W' =>
      ((∃ v, e = .returned v) ∧ DX w g F T0 I (divF (y ++ [0]) (G, 0) x.reverse) n W' ∧ X W') ∨ (∃ c, e = .panicked c ∧ DPX w g F T0 G (divF (y ++ [0]) (G, 0) x.reverse).1.2 c W' ∧ X W') := by
  refine CallsIn.any (m := 4) N ?_
  show CallsIn Fence.wide 4 Tryz.prog 296 #[.func (.yield lp) #[] #[], .pointer (some ⟨bY, 0, none⟩), .pointer (some ⟨bX, 0, none⟩), .pointer (some ⟨bG, 0, none⟩)] W _
  obtain ⟨d, hd⟩ : ∃ d, y ++ [0] = d := ⟨_, rfl⟩
  have hdl : d.length = n + 1 := by rw [← hd]; simp [hyl]
  rw [hd] at hY ⊢
  refine callsIn_of_wpAt_marks Tryz.func296 rfl trivial ?_ rfl
  simp only [Tryz.ntmps296, List.size_toArray, List.length_cons, List.length_nil, Nat.reduceAdd, Nat.reduceSub, Array.replicate_succ, Array.replicate_zero, List.push_toArray, List.append_toArray, List.nil_append, List.cons_append]
  have hsz : w.heap.size + 2 ≤ W.heap.size := hXB _ hXW
  have hnw : ∀ q, q ∉ T0 ++ F → q < w.heap.size → q ∉ [w.heap.size, w.heap.size + 1] := fun q _ hq => by simp; omega
  have hbG0 := hbg.ch hc0 (hnw _ hbF.1 hbg.lt)
  have hbX0 := hbx.ch hc0 (hnw _ hbF.2.1 hbx.lt)
  have hbY0 := hby.ch hc0 (hnw _ hbF.2.2 hby.lt)
  have hyv := hy.ok.ch hc0 (fun p hp => hnw _ (hy.apart p.block (by simp only at hp; simp [ablk, hp])).1 (hy.apart p.block (by simp only at hp; simp [ablk, hp])).2)
  have hcl := fun W1 (hW1 : Ch [] W W1) => Clref_w (hyv.ch hW1 (by simp)) n (by simpa [natInts] using hyl)
  simp only at hcl
  have c0 := (hbY0.alloc (.cells #[.func (.yield lp) #[] #[]] 351)).cell (i := 0) rfl
  have HCL := Lib.hid hcl; clear hcl
  have HX := Lib.hid hx; clear hx
  have HY := Lib.hid hy; clear hy
  have HH := Lib.hid h; clear h
  have HYY := Lib.hid hY; clear hY
  have HI := Lib.hid hI; clear hI
  have HI0 := Lib.hid hI0; clear hI0
  have HT0 := Lib.hid hT0; clear hT0
  have HXX := Lib.hid hX; clear hX
  have HXW := Lib.hid hXW; clear hXW
  have HXB := Lib.hid hXB; clear hXB
  have HXR := Lib.hid hxr; clear hxr
  have HYR := Lib.hid hyr; clear hyr
  have HC0 := Lib.hid hc0; clear hc0
  clear hnw
  refine wpAt_seq (wpAt_of_wpIn (wpIn_wide.2 ?_))
  go_wp2_with fail
  refine wpAt_seq (wpAt_of_wpIn (wpIn_wide.2 ?_))
  go_wp2_with fail
  refine (HCL.out _ ((Ch.refl _ _).alloc _)).mono ?_
  rintro e w1 ⟨v, rfl, hrow1, hown1, hc1⟩
  have ecy : intCells (natInts y) = refsCells y := by simp [intCells, natInts, refsCells, Function.comp_def]
  have hrow1 : row w1 52 1 v n (refsCells y) := by
    rw [ecy] at hrow1
    simpa [refsCells, hyl] using hrow1
  obtain ⟨va, vc, rfl⟩ := row.shape hrow1
  have hcA : Ch [] w1 (w1.alloc (.cells #[.int .i64 0] 52)) := (Ch.refl _ _).alloc _
  have hrA := hrow1.ch hcA (by simp)
  have hbA : blk (w1.alloc (.cells #[.int .i64 0] 52)) w1.heap.size [.int .i64 0] := blk.new' _ _ rfl
  have hc01 : Ch [] W w1 := ((Ch.refl [] W).alloc _).trans hc1 (by simp)
  have hb4 : blk w1 W.heap.size [.func (.yield lp) #[] #[]] := (blk.new W _ _).ch hc1 (by simp)
  have HRA := Lib.hid hrA; clear hrA hrow1
  have HBA := Lib.hid hbA; clear hbA
  have HCA := Lib.hid hcA; clear hcA
  have HC01 := Lib.hid hc01; clear hc01 hc1
  have HB4 := Lib.hid hb4; clear hb4
  have HOWN1 := Lib.hid hown1; clear hown1 c0 hyv
  go_wp2_with (at_builtin; go_loud (refine wpList_append_row slRefs rfl _ _ rfl (v := .slice va n vc) (n := n) (xs := refsCells y) rfl HRA.out (ad := ⟨w1.heap.size, 0, none⟩) (m := 1) (c := 1) (news := [.int .i64 0]) rfl rfl (news_blk HBA.out) (by simp [Value.oneCell']) (by omega) (by omega) ?_; intro v' w5 hown4 hC4 hf4; obtain ⟨db, dc, rfl⟩ := row.parts hown4 (by omega); have HO4 := Lib.hid hown4; clear hown4; have HCC4 := Lib.hid hC4; clear hC4; have HF4 := Lib.hid hf4; clear hf4))
  refine wpAt_named fun W2 hW2 => ?_
  have hrd5 : row w5 52 1 (.slice (some ⟨db, 0, none⟩) (n + 1) dc) (n + 1) (refsCells d) := by
    have := HO4.out
    rw [← hd]
    simpa [refsCells] using this
  obtain ⟨hc05, hlo5⟩ := app_step (W0 := W) HC01.out HCA.out (fun q hq => by have := HOWN1.out q hq; simp at this; omega) HCC4.out HF4.out
  have hdb : W.heap.size < db := by
    rcases HF4.out db rfl with e | e
    · have := HOWN1.out db (by simp [e])
      simp at this; omega
    · have := HC01.out.size; have := HCA.out.size
      have := HB4.out.lt
      omega
  have hz5 := hc05.size
  have hb4' := (HB4.out.ch HCA.out (by simp)).ch HCC4.out (fun hm => by have := HOWN1.out _ hm; simp at this; omega)
  have hdl5 := (hrd5.lt db rfl).2
  have hC2 : Ch [] W W2 := by rw [hW2]; exact hc05.alloc _
  have hb42 : blk W2 W.heap.size [.func (.yield lp) #[] #[]] := by rw [hW2]; exact hb4'.alloc _
  have hb52 : blk W2 w5.heap.size [.slice (some ⟨db, 0, none⟩) (n + 1) dc] := by rw [hW2]; exact blk.new _ _ _
  have hrd2 : row W2 52 1 (.slice (some ⟨db, 0, none⟩) (n + 1) dc) (n + 1) (refsCells d) := by rw [hW2]; exact hrd5.ch (F := []) ((Ch.refl [] _).alloc _) (by simp)
  have hz2 : W2.heap.size = w5.heap.size + 1 := by rw [hW2]; simp
  have hdb5 : db < w5.heap.size := hdl5
  obtain ⟨b5, hb5⟩ : ∃ b5, w5.heap.size = b5 := ⟨_, rfl⟩
  rw [hb5] at hb52 hz2 hdb5 ⊢
  have hW5 : W.heap.size < b5 := by omega
  obtain ⟨b4, hb4e⟩ : ∃ b4, W.heap.size = b4 := ⟨_, rfl⟩
  rw [hb4e] at hb42 hdb hW5 hsz ⊢
  have c5 := hb52.cell (i := 0) rfl
  have hmk := run_make_refs W2 (n + 1) (by omega)
  rw [show ((n + 1 : Nat) : Int) = (n : Int) + 1 by omega] at hmk
  clear hW2 hrd5 hb4' hlo5 hc05 HB4 HC01 HCA HBA HRA HOWN1 HO4 HCC4 HF4 HCL hz5 hdl5 hb5
  have HRD2 := Lib.hid hrd2; clear hrd2
  have HB52 := Lib.hid hb52; clear hb52
  have HB42 := Lib.hid hb42; clear hb42
  have HC2 := Lib.hid hC2; clear hC2
  refine wpAt_seq (wpAt_of_wpIn (wpIn_wide.2 ?_))
  go_wp2_with fail
  refine wpAt_named fun W3 hW3 => ?_
  have hC3 : Ch [] W2 W3 := by rw [hW3]; exact ((Ch.refl _ _).alloc _).alloc _
  have hz3 : W3.heap.size = b5 + 3 := by rw [hW3]; simp; omega
  have hrr3 : row W3 52 1 (.slice (some ⟨b5 + 1, 0, none⟩) (n + 1) (n + 1)) (n + 1) (refsCells (List.replicate (n + 1) 0)) := by
    rw [hW3]
    have hz : W2.heap.size = b5 + 1 := hz2
    have h0 := row_fresh (w := W2) (l := List.replicate (n + 1) 0) (n := n + 1) rfl (by simp) (by omega)
    rw [hz] at h0
    have e : intCells (List.replicate (n + 1) 0) = refsCells (List.replicate (n + 1) 0) := by simp [intCells, refsCells]
    rw [e] at h0
    exact h0.ch (F := []) ((Ch.refl [] _).alloc _) (by simp)
  have hb63 : blk W3 (b5 + 1 + 1) [.slice (some ⟨b5 + 1, 0, none⟩) (n + 1) (n + 1)] := by rw [hW3]; exact blk.new' _ _ (by simp; omega)
  have hC03 := HC2.out.trans hC3 (by simp)
  have x3 := (hbX0.ch hC03 (by simp)).cell (i := 0) rfl
  have hbw := Bwref_is (w := W3) xa n xc
  clear hW3 hmk c5
  have HBW := Lib.hid hbw; clear hbw
  refine wpAt_seq (wpAt_of_wpIn (wpIn_wide.2 ?_))
  go_wp2_with fail
  refine HBW.out.mono ?_
  rintro e w4 ⟨rfl, hw4⟩
  have hC4 : Ch [] W3 w4 := by rw [hw4]; exact (Ch.refl _ _).alloc _
  have hbb4 : blk w4 (b5 + 3) [.slice xa n xc] := by rw [hw4]; exact blk.new' _ _ hz3.symm
  have hz4 : w4.heap.size = b5 + 4 := by rw [hw4]; simp; omega
  clear hw4
  rw [hz3]
  clear HBW
  go_wp2_with fail
  have hC04 := hC03.trans hC4 (by simp)
  have hsx : SX w g F T0 I (b5 + 4) [] w4 G F T0 0 := by
    have hcw := HC0.out.trans hC04 (by simp)
    have hcw' : Ch (T0 ++ F) w w4 := hcw.mono (fun q hq => .inr (by simp at hq; omega))
    have hFl := HH.out.lt
    refine ⟨HH.out.same hcw (fun q hq hm => by have := hFl q hq; simp at hm; omega), hcw', fun q hq => .inl ⟨hq, hFl q hq⟩, fun q hq => .inl (by have := hFl q hq; omega), rfl, HI.out.same _ _ _ _ _ HI0.out hcw (fun q hq hm => by have := (HT0.out q hm).1; simp at hq; omega), fun q hq => ?_, by simp⟩
    obtain ⟨t1, t2⟩ := HT0.out q hq
    exact ⟨.inl ⟨hq, t1⟩, t2, .inl (by omega), by omega⟩
  have hrl := (HRD2.out.lt db rfl).2
  have hFl := HH.out.lt
  have hbl : b4 < b5 + 4 := by omega
  have hsx2 : SX w g F T0 I (b5 + 4) [b5 + 1, b4, b5, b5 + 1 + 1, b5 + 3, db] w4 G F T0 0 := ⟨hsx.gin, hsx.ch, hsx.own, hsx.nb, hsx.f2, hsx.it, hsx.tb, fun q hq => by
    have hq2 : b4 ≤ q ∧ q < b5 + 4 := by
      simp only [List.mem_cons, List.not_mem_nil, or_false] at hq
      omega
    exact ⟨by omega, fun hm => by have := hFl q hm; omega, fun hm => by have := (HT0.out q hm).1; omega, .inl hq2.2, by omega⟩⟩
  have hC24 := hC3.trans hC4 (by simp)
  have hII : ∀ W1, Ch [b5 + 4, b5 + 4 + 1] w4 W1 → b5 + 4 + 2 ≤ W1.heap.size → II w g G F T0 I X (b5 + 4) b4 b5 (b5 + 1 + 1) (b5 + 3) db dc (.func (.yield lp) #[] #[]) (.slice xa n xc) n d x.reverse 0 W1 := by
    intro W1 hcb hz9
    have hnb : ∀ q, q < b5 + 4 → q ∉ [b5 + 4, b5 + 4 + 1] := fun q hq => by simp; omega
    refine ⟨G, F, T0, b5 + 1, n + 1, List.replicate (n + 1) 0, rfl, by show List.replicate d.length 0 = _; rw [hdl], by simp, fun q hq => ?_, .refl _, hsx2.same HI.out hcb (fun q hq => ⟨?_, fun hm => ?_, fun hm => ?_⟩), (HB42.out.ch hC24 (by simp)).ch hcb (hnb _ (by omega)), (HB52.out.ch hC24 (by simp)).ch hcb (hnb _ (by omega)), (hb63.ch hC4 (by simp)).ch hcb (hnb _ (by omega)), hbb4.ch hcb (hnb _ (by omega)), (HRD2.out.ch hC24 (by simp)).ch hcb (fun q hq => by cases hq; exact hnb db (by omega)), (hrr3.ch hC4 (by simp)).ch hcb (fun q hq => by cases hq; exact hnb _ (by show b5 + 1 < b5 + 4; omega)), ⟨by omega, by omega, by omega, by omega, by omega⟩, ⟨by omega, by omega, by omega, by omega⟩, HXX.out.same _ _ _ (HXX.out.same _ _ _ HXW.out hC04 (by simp)) hcb (fun q hq => by simp at hq; omega), by omega, by omega⟩
    · rw [(List.mem_replicate.1 hq).2]
      have := HH.out.ok.wf.pos
      omega
    · simp at hq; omega
    · have := hFl q hm; simp at hq; omega
    · have := (HT0.out q hm).1; simp at hq; omega
  have HII := Lib.hid hII; clear hII
  clear hsx hsx2 hbb4 hb63 hrr3 hC3 hC4 hC24 hC04 hC03 x3 HI0 HXW HB42 HB52 HRD2 hbX0 hbY0 hbG0 HC2
  refine wpAt_block ?_
  refine wpAt_rangeFunc_S (n := 4) (f₀ := 296) Tryz.func296 (b5 + 4) hz4 rfl (by omega) rfl trivial (fun args w => fnvBwref1 args w) (encs := fun (q : Nat × Nat × Nat) => fitEnc q.2) (fun _ => rfl)
    (fun W' => Ch [b5 + 4, b5 + 4 + 1] w4 W')
    (fun q W' => (bwd x)[q.1]? = some q.2 ∧ II w g G F T0 I X (b5 + 4) b4 b5 (b5 + 1 + 1) (b5 + 3) db dc (.func (.yield lp) #[] #[]) (.slice xa n xc) n d x.reverse q.1 W')
    (fun q W' => II w g G F T0 I X (b5 + 4) b4 b5 (b5 + 1 + 1) (b5 + 3) db dc (.func (.yield lp) #[] #[]) (.slice xa n xc) n d x.reverse (q.1 + 1) W')
    (II w g G F T0 I X (b5 + 4) b4 b5 (b5 + 1 + 1) (b5 + 3) db dc (.func (.yield lp) #[] #[]) (.slice xa n xc) n d x.reverse n)
    (DP2 w g F T0 G X (b5 + 4) (divF d (G, 0) x.reverse).1.2)
    ?seq ?j0 ?k ?j ?d ?pan (Ch.refl _ _) ?a1 ?assign ?body ?done
  case assign =>
    intro q x W K hK
    simp only [fitEnc]
    gi_wp2
    exact hK
  case j0 =>
    intro A A' h hc
    exact h.trans hc (fun q hq => .inl hq)
  case k =>
    rintro q A A' ⟨hq, Gp, F', T, rb, rc, r, i1, i2, i3, i4, i5, hs⟩ hc
    exact ⟨hq, Gp, F', T, rb, rc, r, i1, i2, i3, i4, i5, hs.books HI.out HXX.out (by omega) hc⟩
  case j =>
    rintro q A A' ⟨Gp, F', T, rb, rc, r, i1, i2, i3, i4, i5, hs⟩ hc
    exact ⟨Gp, F', T, rb, rc, r, i1, i2, i3, i4, i5, hs.books HI.out HXX.out (by omega) hc⟩
  case d =>
    rintro A A' ⟨Gp, F', T, rb, rc, r, i1, i2, i3, i4, i5, hs⟩ hc
    exact ⟨Gp, F', T, rb, rc, r, i1, i2, i3, i4, i5, hs.books HI.out HXX.out (by omega) hc⟩
  case seq =>
    intro l2 X2 Y2 hX2 hX2B hY2 W1 hI1 hXW1
    refine (Bw_mem (xa := xa) (xc := xc) (bx := b5 + 3) (x := x) n hxl (by omega) (fun k W' => II w g G F T0 I X (b5 + 4) b4 b5 (b5 + 1 + 1) (b5 + 3) db dc (.func (.yield lp) #[] #[]) (.slice xa n xc) n d x.reverse k W' ∧ X2 W') (fun c W' => DP2 w g F T0 G X (b5 + 4) (divF d (G, 0) x.reverse).1.2 c W' ∧ Y2 W') ?_ 3 (by omega) l2 ?_ W1 ⟨HII.out W1 hI1 (hX2B _ hXW1), hXW1⟩).mono ?_
    · rintro k W' ⟨⟨Gp, F', T, rb, rc, r, i1, i2, i3, i4, i5, hs⟩, hx2⟩
      refine ⟨hs.cb.cell rfl, ?_⟩
      exact HX.out.ok.sl.ch hs.sx.ch (fun p hp => (HX.out.apart p.block (by simp only at hp; simp [ablk, hp])).1)
    · rintro k i r W' hk ⟨hi, hx2⟩
      refine (hY2 (k, i, r) W' ⟨hk, hi⟩ hx2).mono ?_
      rintro e W3 (⟨rfl, q1, q2⟩ | ⟨c, rfl, q1, q2⟩)
      · exact .inl ⟨rfl, q1, q2⟩
      · exact .inr ⟨c, rfl, q1, q2⟩
    · rintro e W' (⟨hv, q1, q2⟩ | ⟨c, rfl, q1, q2⟩)
      · exact .inl ⟨hv, q1, q2⟩
      · exact .inr ⟨c, rfl, q1, q2⟩
  case pan =>
    rintro c W1 ⟨p0, rfl, G', F', p1, p2, p3, p4, p5, p6, p7⟩ hK hz
    refine .inr ⟨_, rfl, ?_⟩
    have hcp : Ch [b5 + 4] W1 (W1.putObj (b5 + 4) (.deferred none)) := ch_put (by simp)
    refine ⟨by simp, .inl ⟨_, _, rfl, run_takeDeferred hK, ?_⟩⟩
    refine .inr ⟨_, rfl, ⟨p0, rfl, G', F', p1, p2.same hcp (fun q hq hm => by have := p7 q hq; simp at hm; omega), p3.trans hcp (fun q hq => .inr (by simp at hq; omega)), p4, p5⟩, ?_⟩
    exact HXX.out.same _ _ _ p6 hcp (fun q hq => by simp at hq; omega)
  case done =>
    rintro W1 ⟨Gp, F', T, rb, rc, r, i1, i2, i3, i4, i5, hs⟩ hK hz
    refine .inl ⟨rfl, ?_⟩
    have hcp : Ch [b5 + 4] W1 (W1.putObj (b5 + 4) (.deferred none)) := ch_put (by simp)
    have hs2 := hs.books HI.out HXX.out (by omega) (hcp.mono (fun q hq => .inl (by simp at hq; simp [hq])))
    refine ⟨by simp, .inl ⟨_, _, rfl, run_takeDeferred hK, ?_⟩⟩
    refine ⟨_, results_none rfl _ _ _, .inl ⟨⟨_, rfl⟩, ?_, hs2.xw⟩⟩
    rw [List.take_of_length_le (by simp [hxl])] at i1
    exact ⟨by rw [i1], F', T, by rw [i1]; exact hs2.sx.gin, hs2.sx.ch, hs2.sx.own, hs2.sx.f2, hs2.sx.it, fun q hq => ⟨(hs2.sx.tb q hq).1, (hs2.sx.tb q hq).2.1, (hs2.sx.tb q hq).2.2.2⟩⟩
  case body =>
    rintro l2 ⟨k, i, b⟩ Wr ⟨hkb, Gp, F', T, rb, rc, r, i1, i2, i3, i4, i5, hs⟩ hWl
    simp only at hkb i1 i2 hs
    obtain ⟨hkn, hbk⟩ := bwd_bit hxl hkb
    have hbx2 := HXR.out b (by have := List.mem_of_getElem? hbk; simpa using this)
    have hdr : ∀ q ∈ d, q < 2 * Gp.nodes.length := fun q hq => by
      rw [← hd] at hq
      rcases List.mem_append.1 hq with hq | hq
      · exact i5.lt (HYR.out q hq)
      · rw [List.mem_singleton.1 hq]; have := hs.sx.gin.ok.wf.pos; omega
    have hrr : ∀ q ∈ b :: r.dropLast, q < 2 * Gp.nodes.length := fun q hq => by
      rcases List.mem_cons.1 hq with rfl | hq
      · exact i5.lt hbx2
      · exact i4 q (List.dropLast_subset _ hq)
    have hr1l : (b :: r.dropLast).length = n + 1 := by simp [i3]
    have hgl : ∀ W', Ch (T0 ++ F) w W' → W'.cell? ⟨bG, 0, none⟩ = some (.pointer (some ⟨g, 0, none⟩)) := fun W' hc => (hbg.ch hc hbF.1).cell rfl
    have hcA : Ch [] Wr (Wr.alloc (.cells #[.int .i64 b] 52)) := (Ch.refl _ _).alloc _
    have hrn : row (Wr.alloc (.cells #[.int .i64 b] 52)) 52 1 (.slice (some ⟨Wr.heap.size, 0, none⟩) 1 1) 1 [.int .i64 b] := by
      have := row_fresh (w := Wr) (l := [(b : Int)]) (n := 1) rfl rfl (by omega)
      simpa [intCells] using this
    have hra := hs.rr.ch hcA (by simp)
    have hnews : ∀ j u, (refsCells r.dropLast)[j]? = some u → (Wr.alloc (.cells #[.int .i64 b] 52)).cell? ((⟨rb, 0, none⟩ : Addr).add j) = some u := fun j u hu => by
      refine hra.cells (g := rb) rfl j u ?_
      have hj := (List.getElem?_eq_some_iff.1 hu).1
      unfold refsCells at hu ⊢
      rw [List.getElem?_map] at hu ⊢
      rw [List.getElem?_dropLast] at hu
      split at hu
      · exact hu
      · cases hu
    have hone : ∀ u ∈ refsCells r.dropLast, u.oneCell' = true := fun u hu => by
      obtain ⟨q, _, rfl⟩ := List.mem_map.1 hu
      rfl
    have hnl : (refsCells r.dropLast).length = n := by simp [refsCells, i3]
    have hc6 := (hs.c6.ch hcA (by simp)).cell (i := 0) rfl
    have hrc := row_cap' hs.rr
    have HS := Lib.hid hs; clear hs
    have HRN := Lib.hid hrn; clear hrn hra
    have HNEW := Lib.hid hnews; clear hnews
    have HONE := Lib.hid hone; clear hone
    have HCA := Lib.hid hcA; clear hcA
    have HDR := Lib.hid hdr; clear hdr
    have HRR := Lib.hid hrr; clear hrr
    have HGL := Lib.hid hgl; clear hgl
    have I1 := Lib.hid i1; clear i1
    have I2 := Lib.hid i2; clear i2
    have I4 := Lib.hid i4; clear i4
    have I5 := Lib.hid i5; clear i5
    have HBK := Lib.hid hbk; clear hbk hkb
    have HWR := Lib.hid hWl; clear hWl
    have e1 : (n : Int) + 1 - 1 = (n : Int) := by omega
    refine wpIn_block ?_
    refine wpIn_seq ?_
    refine Ord.plainR (by kernel_rfl) ?_
    go_wp2_with (at_builtin; go_loud (refine wpList_append_row slRefs rfl _ _ rfl (v := .slice (some ⟨Wr.heap.size, 0, none⟩) 1 1) (n := 1) (xs := [.int .i64 b]) rfl HRN.out (ad := ⟨rb, 0, none⟩) (m := n) (c := rc) (news := refsCells r.dropLast) rfl (by rw [hnl]; omega) HNEW.out HONE.out (by omega) (by omega) ?_; intro v' w5 hown4 hC4 hf4; rw [Nat.add_comm 1 n] at hown4; obtain ⟨rb', rc', rfl⟩ := row.parts hown4 (by omega); have HO4 := Lib.hid hown4; clear hown4; have HCC4 := Lib.hid hC4; clear hC4; have HF4 := Lib.hid hf4; clear hf4; have c66 := ((HS.out.c6.ch HCA.out (by simp)).ch HCC4.out (fun hm => by have := HS.out.c6.lt; simp at hm; omega)).cell (i := 0) rfl; have f66 := ((HS.out.c6.ch HCA.out (by simp)).ch HCC4.out (fun hm => by have := HS.out.c6.lt; simp at hm; omega)).frozen (i := 0)))
    refine ⟨rfl, ?_⟩
    obtain ⟨W2, hW2⟩ : ∃ W2, W2 = w5.setCell ⟨b5 + 1 + 1, 0, none⟩ (.slice (some ⟨rb', 0, none⟩) (n + 1) rc') := ⟨_, rfl⟩
    rw [← hW2]
    have hC45 : Ch [] Wr w5 := HCA.out.trans HCC4.out (fun q hq => .inr (by simp at hq; omega))
    have hrbn : Wr.heap.size ≤ rb' := by
      rcases HF4.out rb' rfl with e | e
      · simp at e; omega
      · have := HCA.out.size; omega
    have hro4 : row w5 52 1 (.slice (some ⟨rb', 0, none⟩) (n + 1) rc') (n + 1) (refsCells (b :: r.dropLast)) := HO4.out
    have hs2 := HS.out.move HI.out HXX.out hC45 hro4 hrbn hW2
    have hbk2 : Books (b5 + 4) Wr W2 := by
      have hcw : Ch [b5 + 1 + 1] Wr W2 := by rw [hW2]; exact (hC45.mono (by simp)).setCell (.inl (by simp)) _
      exact Books.of_ch hcw HWR.out (fun q hq => by simp at hq; omega)
    have HBK2 := Lib.hid hbk2; clear hbk2
    clear hW2 c66 f66 hc6 HNEW HONE HRN HO4 HCC4 HF4 HCA hro4 hC45 hrbn HS
    obtain ⟨r1, hr1⟩ : ∃ r1, b :: r.dropLast = r1 := ⟨_, rfl⟩
    rw [hr1] at hs2 HRR hr1l
    have hdrow : row W2 52 1 (.slice (some ⟨db, 0, none⟩) (n + 1) dc) d.length (refsCells d) := by rw [hdl]; exact hs2.rd
    have hrrow : row W2 52 1 (.slice (some ⟨rb', 0, none⟩) (n + 1) rc') r1.length (refsCells r1) := by rw [hr1l]; exact hs2.rr
    have hsm := hs2.sx.gin.ok.small
    have hle := sLeR hs2.sx.gin (n + 1) hdl hr1l (by omega) (by omega) (wv_of_row hdrow hdl (fun q hq => by cases hq; exact (hs2.sx.mine db (by simp)).2.1) (by omega) (fun q hq => by have := HDR.out q hq; omega)) (wv_of_row hrrow hr1l (fun q hq => by cases hq; exact (hs2.sx.mine rb' (by simp)).2.1) (by omega) (fun q hq => by have := HRR.out q hq; omega)) HDR.out HRR.out
    have hLf := leR_full hs2.sx.gin.ok HDR.out HRR.out
    have hq0 : divL d (divF d (G, 0) (x.reverse.take k)) b = rstep (Gp, 0) (leR Gp d r1) := by
      unfold divL; rw [I1.out, I2.out, hr1]
    obtain ⟨L, hL⟩ : ∃ L, leR Gp d r1 = L := ⟨_, rfl⟩
    rw [hL] at hle hLf hq0
    have c0 := HGL.out W2 hs2.sx.ch
    have c5 := hs2.c5.cell (i := 0) rfl
    have c6 := hs2.c6.cell (i := 0) rfl
    have HLE := Lib.hid hle; clear hle
    have HLF := Lib.hid hLf; clear hLf
    have HQ0 := Lib.hid hq0; clear hq0
    have HS2 := Lib.hid hs2; clear hs2 hdrow hrrow
    refine wpIn_seq ?_
    gi_wp2
    refine ⟨trivial, (CallsIn.inRound l2 ((callsIn_wide (n := _)).2 HLE.out)).mono ?_⟩
    rintro e w6 ⟨rfl, hto⟩
    obtain ⟨F6, hs6⟩ := HS2.out.to HI.out HXX.out hto
    have hbk6 := HBK2.out.trans (HS2.out.booksTo hto)
    have HBK6 := Lib.hid hbk6; clear hbk6
    have HS6 := Lib.hid hs6; clear hs6 hto HLE c0 c5 c6
    gi_wp2
    refine ⟨trivial, (CallsIn.inRound l2 ((callsIn_wide (n := _)).2 (mdmustR_is w6 (L.2.1 : Int) L.2.2))).mono ?_⟩
    rintro e w7 ⟨rfl, ⟨h0, rfl⟩ | ⟨h0, rfl⟩⟩
    rotate_left
    · have hL1 := HLF.out.keep h0
      have hR := divF_stopL (d := d) (s := (G, 0)) HBK.out (e := L.2.2) h0 (by rw [HQ0.out, rstep_no rfl h0])
      have hst := HS6.out.stop (I5.out.trans HLF.out.ok.ext) h0 hR
      have HST := Lib.hid hst; clear hst hR hL1
      gi_wp2
      exact .inr ⟨_, rfl, trivial, HBK6.out, HST.out⟩
    have hL0 : L.2.2 = 0 := h0
    have hDR6 : ∀ q ∈ d, q < 2 * L.1.nodes.length := fun q hq => HLF.out.ok.ext.lt (HDR.out q hq)
    have hRR6 : ∀ q ∈ r1, q < 2 * L.1.nodes.length := fun q hq => HLF.out.ok.ext.lt (HRR.out q hq)
    have hs6 := HS6.out
    have hsm6 := hs6.sx.gin.ok.small
    have hdrow : row w6 52 1 (.slice (some ⟨db, 0, none⟩) (n + 1) dc) d.length (refsCells d) := by rw [hdl]; exact hs6.rd
    have hrrow : row w6 52 1 (.slice (some ⟨rb', 0, none⟩) (n + 1) rc') r1.length (refsCells r1) := by rw [hr1l]; exact hs6.rr
    have hsub := sSubR hs6.sx.gin (n + 1) hr1l hdl (by omega) (by omega) (wv_of_row hrrow hr1l (fun q hq => by cases hq; exact (hs6.sx.mine rb' (by simp)).2.1) (by omega) (fun q hq => by have := hRR6 q hq; omega)) (wv_of_row hdrow hdl (fun q hq => by cases hq; exact (hs6.sx.mine db (by simp)).2.1) (by omega) (fun q hq => by have := hDR6 q hq; omega)) hRR6 hDR6
    have hSok := subR_wok hs6.sx.gin.ok hRR6 hDR6
    have hSln := subR_len (G := L.1) hr1l hdl
    have hq1 : divD d (divF d (G, 0) (x.reverse.take k)) b = wstep (L.1, 0) (subR L.1 r1 d) := by
      unfold divD; rw [HQ0.out, rstep_ok rfl hL0, I2.out, hr1]
    have hq2 : (divL d (divF d (G, 0) (x.reverse.take k)) b).2 = L.2.1 := by rw [HQ0.out, rstep_ok rfl hL0]
    obtain ⟨S, hS⟩ : ∃ S, subR L.1 r1 d = S := ⟨_, rfl⟩
    rw [hS] at hsub hSok hSln hq1
    have c0 := HGL.out w6 hs6.sx.ch
    have c5 := hs6.c5.cell (i := 0) rfl
    have c6 := hs6.c6.cell (i := 0) rfl
    have HSUB := Lib.hid hsub; clear hsub
    have HSOK := Lib.hid hSok; clear hSok
    have HSLN := Lib.hid hSln; clear hSln
    have HQ1 := Lib.hid hq1; clear hq1
    have HQ2 := Lib.hid hq2; clear hq2
    have hL00 : L.2.2 = 0 := hL0
    clear hs6 hdrow hrrow HS2 hDR6 hS
    have HRR6 := Lib.hid hRR6; clear hRR6
    gi_wp2
    refine ⟨trivial, (CallsIn.inRound l2 ((callsIn_wide (n := _)).2 HSUB.out)).mono ?_⟩
    rintro e w8 ⟨v, rfl, F8, g1, g2, g3, g4, g5, g6⟩
    have g2 : Ch F6 w6 w8 := by simpa using g2
    have hs8 := HS6.out.to2 HI.out HXX.out g1 g2 g3 g4
    have hbk8 := HBK6.out.trans (HS6.out.booksTo ⟨F8, g1, g2, g3, g4⟩)
    obtain ⟨sa, sc, rfl⟩ := row.shape g5
    have hsz6 : ∀ q ∈ T, q < w6.heap.size := fun q hq => (HS6.out.sx.tb q hq).2.2.2
    have hsm6' : ∀ q ∈ [rb', b4, b5, b5 + 1 + 1, b5 + 3, db], q < w6.heap.size := fun q hq => (HS6.out.sx.mine q hq).2.2.2.2
    have hsB : w.heap.size + 2 ≤ w6.heap.size ∧ b5 + 4 + 2 ≤ w6.heap.size := ⟨HS6.out.hw, HS6.out.hB⟩
    have HBK8 := Lib.hid hbk8; clear hbk8
    have HS8 := Lib.hid hs8; clear hs8 g1 g2 g3 g4 HSUB c0 c5 c6
    have G5 := Lib.hid g5; clear g5
    have G6 := Lib.hid g6; clear g6
    gi_wp2
    refine ⟨trivial, (CallsIn.inRound l2 ((callsIn_wide (n := _)).2 (mdmustW_is w8 sa S.2.1.length sc S.2.2))).mono ?_⟩
    rintro e w9 ⟨rfl, ⟨h0, rfl⟩ | ⟨h0, rfl⟩⟩
    rotate_left
    · have hR := divF_stopD (d := d) (s := (G, 0)) HBK.out (e := S.2.2) h0 (by rw [HQ1.out, wstep_no rfl h0])
      have hst := HS8.out.stop ((I5.out.trans HLF.out.ok.ext).trans HSOK.out.ext) h0 hR
      have HST := Lib.hid hst; clear hst hR
      gi_wp2
      exact .inr ⟨_, rfl, trivial, HBK8.out, HST.out⟩
    have hS0 : S.2.2 = 0 := h0
    have hSl := HSLN.out hS0
    have hrS := G5.out
    rw [hSl] at hrS ⊢
    obtain ⟨sb, hsb0⟩ : ∃ sb, sa = some ⟨sb, 0, none⟩ := by
      obtain ⟨q, c, e⟩ := row.parts hrS (by omega)
      cases e
      exact ⟨_, rfl⟩
    subst hsb0
    have hsb : w6.heap.size ≤ sb ∧ sb ∉ F8 := G6.out sb rfl
    obtain ⟨Z, hZ⟩ : ∃ Z, S.2.1.zip r1 = Z := ⟨_, rfl⟩
    have hZl : Z.length = n + 1 := by rw [← hZ, List.length_zip]; omega
    have HRS := Lib.hid hrS; clear hrS G5 G6
    have hq3 : divM d (divF d (G, 0) (x.reverse.take k)) b = chF L.2.1 (S.1, 0) Z := by
      unfold divM; rw [HQ1.out, HQ2.out, wstep_ok rfl hS0, I2.out, hr1, hZ]
    have HQ3 := Lib.hid hq3; clear hq3
    have HZ := Lib.hid hZ; clear hZ
    have hf2 : L.2.1 < 2 * S.1.nodes.length := HSOK.out.ext.lt HLF.out.ok.lt
    have HF2 := Lib.hid hf2; clear hf2
    gi_wp2
    gi_loopw [48] (fun i wr => ∃ (j : Nat) (Gq : Gra) (mm F2 : List Nat), j ≤ n + 1 ∧ i = .int .i64 j ∧ chF L.2.1 (S.1, 0) (Z.take j) = ((Gq, 0), mm) ∧ (∀ q ∈ mm, q < 2 * Gq.nodes.length) ∧ SR w g F T0 I X (b5 + 4) b4 b5 (b5 + 1 + 1) (b5 + 3) db dc (.func (.yield lp) #[] #[]) (.slice xa n xc) n d wr Gq F2 T k rb' rc' (mm ++ r1.drop j) ∧ row wr 52 1 (.slice (some ⟨sb, 0, none⟩) (n + 1) sc) (n + 1) (refsCells S.2.1) ∧ sb ∉ F2 ∧ Books (b5 + 4) Wr wr ∧ Ext S.1 Gq) (fun i _ => n + 1 - (intOf i).toNat)
    case atStart => exact ⟨0, S.1, [], F8, by omega, rfl, rfl, by simp, HS8.out, HRS.out, hsb.2, HBK8.out, .refl _⟩
    case round =>
      obtain ⟨j, Gq, mm, F2, hj, rfl, heq, hmm, hs, hsr, hsF, hbk, hexq⟩ := hrel
      have hmml : mm.length = j := by
        have h9 := eachF_lenT (fun s a b => sMux s L.2.1 a b) (S.1, 0) (Z.take j)
        have h8 : eachF (fun s a b => sMux s L.2.1 a b) (S.1, 0) (Z.take j) = ((Gq, 0), mm) := heq
        rw [h8, List.length_take] at h9
        have h9 : mm.length = min j Z.length := h9
        omega
      by_cases hjn : j < n + 1
      · obtain ⟨a, ha⟩ : ∃ a, S.2.1[j]? = some a := ⟨_, List.getElem?_eq_getElem (by omega)⟩
        obtain ⟨c, hc⟩ : ∃ c, r1[j]? = some c := ⟨_, List.getElem?_eq_getElem (by omega)⟩
        have hzj : Z[j]? = some (a, c) := by rw [← HZ.out, List.getElem?_zip_eq_some]; exact ⟨ha, hc⟩
        have hat : (mm ++ r1.drop j)[j]? = some c := by rw [List.getElem?_append_right (by omega), hmml, Nat.sub_self, List.getElem?_drop, Nat.add_zero, hc]
        have s0 := row_at2 hsr (show (refsCells S.2.1)[j]? = some (.int .i64 a) by simp [refsCells, ha])
        have hal := hexq.lt (HSOK.out.lt a (List.mem_of_getElem? ha))
        have hcl := hexq.lt (HSOK.out.ext.lt (HRR6.out c (List.mem_of_getElem? hc)))
        have hfl := hexq.lt HF2.out
        have hMf := rMux_full hs.sx.gin.ok hfl hal hcl
        have hsn : Z.take (j + 1) = Z.take j ++ [(a, c)] := by rw [List.take_add_one, hzj]; rfl
        have hnx := chF_snoc L.2.1 (S.1, 0) (Z.take j) (a, c)
        rw [heq, ← hsn] at hnx
        have hset : ∀ v, (mm ++ r1.drop j).set j v = (mm ++ [v]) ++ r1.drop (j + 1) := fun v => by
          rw [List.set_append_right _ _ (by omega), hmml, Nat.sub_self]
          have hd2 : r1.drop j = c :: r1.drop (j + 1) := by
            have hlt := (List.getElem?_eq_some_iff.1 hc).1
            rw [List.drop_eq_getElem_cons hlt]
            congr 1
            exact (List.getElem?_eq_some_iff.1 hc).2
          rw [hd2, List.set_cons_zero, List.append_assoc]
          rfl
        have hsmq := hs.sx.gin.ok.small
        have hMux : ∀ W', Ch [] wr W' → Calls Tryz.prog 115 #[.pointer (some ⟨g, 0, none⟩), .int .i64 L.2.1, .int .i64 a, .int .i64 c] W' fun e w' => e = .returned (.tuple #[.int .i64 (rMux Gq L.2.1 a c).2.1, .int .i64 (rMux Gq L.2.1 a c).2.2]) ∧ GTo W' g (rMux Gq L.2.1 a c).1 F2 w' := fun W' hc' => by
          have := Mux_g (hs.sx.gin.same hc' (by simp)) (L.2.1 : Int) (a : Int) (c : Int) (by omega) (by omega) (by omega)
          rw [doMux_r hfl hal hcl] at this
          exact this
        obtain ⟨M, hM⟩ : ∃ M, rMux Gq L.2.1 a c = M := ⟨_, rfl⟩
        have hopm : sMux (Gq, 0) L.2.1 a c = rstep (Gq, 0) M := by rw [← hM]; rfl
        rw [hM] at hMf
        simp only [hM] at hMux
        have HMUX := Lib.hid hMux; clear hMux
        have HMF := Lib.hid hMf; clear hMf
        have HNX := Lib.hid hnx; clear hnx
        have HSET := Lib.hid hset; clear hset
        have HAT := Lib.hid hat; clear hat
        have HSQ := Lib.hid hs; clear hs
        have HSR := Lib.hid hsr; clear hsr
        have HBQ := Lib.hid hbk; clear hbk
        have HEQ := Lib.hid heq; clear heq
        have HOPM := Lib.hid hopm; clear hopm
        have HMM := Lib.hid hmm; clear hmm
        have HEXQ := Lib.hid hexq; clear hexq
        have HSN := Lib.hid hsn; clear hsn
        have s0' : wr.cell? ⟨sb, j, none⟩ = some (.int .i64 a) := s0
        clear hal hcl hfl ha hc hzj hM s0
        gi_wp2
        refine Ord.OrdP.St.doorR (QP := fun c W' => Books (b5 + 4) Wr W' ∧ DP2 w g F T0 G X (b5 + 4) (divF d (G, 0) x.reverse).1.2 c W') (fun w' => w'.cell? ⟨b5 + 1 + 1, 0, none⟩ = some (.slice (some ⟨rb', 0, none⟩) (n + 1) rc')) [.ho, .fl, .rd, .fl, .fl, .rd, .fl, .fl, .rd, .ef, .fl, .fl, .ef, .fl, .ef] [0, 0, 0, 0, 0, 0, 0, 96, 224, 508, 1020, 1020, 4092, 8191, 16383] [0, 1, 2, 3, 4, 5, 6, 7, 8, 9, 10, 11, 12, 13, 14] mixed (by kernel_rfl) (by kernel_rfl) rfl (fun c a w hd hq => Or.inr ⟨c, rfl, hd, hq⟩) ?_
        obtain ⟨Wc, hWc⟩ : ∃ Wc, Wc = wr.drew := ⟨_, rfl⟩
        rw [← hWc]
        have hcur : Ch [] wr Wc := by rw [hWc]; exact (Ch.refl _ _).drew
        clear hWc
        have hsc := HSQ.out.same HI.out HXX.out hcur (by simp)
        have c0 := HGL.out Wc hsc.sx.ch
        have c6 := hsc.c6.cell (i := 0) rfl
        have c8 : Wc.cell? ⟨rb', j, none⟩ = some (.int .i64 c) := row_at2 hsc.rr (by unfold refsCells; rw [List.getElem?_map, HAT.out]; rfl)
        have hmux := HMUX.out Wc hcur
        have HMUX2 := Lib.hid hmux; clear hmux HMUX
        have HSC := Lib.hid hsc; clear hsc
        have HCUR := Lib.hid hcur; clear hcur
        refine Ord.OrdP.St.ho2 (T' := ?_) 0 [1, 2, 3, 4, 5, 6, 7, 8, 9, 10, 11, 12, 13, 14] _ _ rfl (by kernel_rfl) rfl rfl rfl rfl ?_ (fun K w' hw' hk => ?_) ?_
        rotate_left
        · exact c6
        · have q1 := hw'; go_step; exact hk
        refine Ord.OrdP.St.fl2 (T' := ?_) 1 [2, 3, 4, 5, 6, 7, 8, 9, 10, 11, 12, 13, 14] _ _ rfl (by kernel_rfl) rfl rfl rfl rfl (fun K w' hk => ?_) ?_
        rotate_left
        · go_step; exact hk
        refine Ord.OrdP.St.rd2 (T' := ?_) 2 [3, 4, 5, 6, 7, 8, 9, 10, 11, 12, 13, 14] _ _ rfl (by kernel_rfl) rfl rfl rfl rfl (fun K hk => ?_) ?_
        rotate_left
        · go_step; exact hk
        refine Ord.OrdP.St.fl2 (T' := ?_) 3 [4, 5, 6, 7, 8, 9, 10, 11, 12, 13, 14] _ _ rfl (by kernel_rfl) rfl rfl rfl rfl (fun K w' hk => ?_) ?_
        rotate_left
        · go_step; exact hk
        refine Ord.OrdP.St.fl2 (T' := ?_) 4 [5, 6, 7, 8, 9, 10, 11, 12, 13, 14] _ _ rfl (by kernel_rfl) rfl rfl rfl rfl (fun K w' hk => ?_) ?_
        rotate_left
        · go_step; exact hk
        refine Ord.OrdP.St.rd2 (T' := ?_) 5 [6, 7, 8, 9, 10, 11, 12, 13, 14] _ _ rfl (by kernel_rfl) rfl rfl rfl rfl (fun K hk => ?_) ?_
        rotate_left
        · go_step; exact hk
        refine Ord.OrdP.St.fl2 (T' := ?_) 6 [7, 8, 9, 10, 11, 12, 13, 14] _ _ rfl (by kernel_rfl) rfl rfl rfl rfl (fun K w' hk => ?_) ?_
        rotate_left
        · go_step; exact hk
        refine Ord.OrdP.St.fl2 (T' := ?_) 7 [8, 9, 10, 11, 12, 13, 14] _ _ rfl (by kernel_rfl) rfl rfl rfl rfl (fun K w' hk => ?_) ?_
        rotate_left
        · go_step; exact hk
        refine Ord.OrdP.St.rd2 (T' := ?_) 8 [9, 10, 11, 12, 13, 14] _ _ rfl (by kernel_rfl) rfl rfl rfl rfl (fun K hk => ?_) ?_
        rotate_left
        · go_step; exact hk
        refine Ord.OrdP.St.efC 9 [10, 11, 12, 13, 14] _ rfl (by kernel_rfl) (fun K hK => ?_)
        go_wp2_with fail
        refine HMUX2.out.mono ?_
        rintro e w10 ⟨rfl, hto⟩
        obtain ⟨F10, a1, a2, a3, a4⟩ := hto
        have hs10 := HSC.out.to2 HI.out HXX.out a1 a2 a3 a4
        have hbk10 : Books (b5 + 4) Wr w10 := (HBQ.out.trans (Books.of_ch HCUR.out HSQ.out.hB (by simp))).trans (HSC.out.booksTo ⟨F10, a1, a2, a3, a4⟩)
        have hsr10 := (HSR.out.ch HCUR.out (by simp)).ch a2 (fun q hq => by cases hq; exact hsF)
        have hsF10 : sb ∉ F10 := fun hm => (a3 sb hm).elim hsF (fun e => by have h1 : sb < wr.heap.size := (HSR.out.lt sb rfl).2; have h2 := HCUR.out.size; omega)
        clear a1 a2 a3 a4 c0 c6 c8 HMUX2
        have c6 := hs10.c6.cell (i := 0) rfl
        have HS10 := Lib.hid hs10; clear hs10
        have HBK10 := Lib.hid hbk10; clear hbk10
        have HSR10 := Lib.hid hsr10; clear hsr10
        have HSF10 := Lib.hid hsF10; clear hsF10
        have HMU := Lib.hid (mdmustR_is w10 (M.2.1 : Int) M.2.2)
        go_wp2_with fail
        refine .inl ⟨rfl, hK _ _ ?_ ?_⟩
        · exact c6
        clear hK K
        refine Ord.OrdP.St.fl2 (T' := ?_) 10 [11, 12, 13, 14] _ _ rfl (by kernel_rfl) rfl rfl rfl rfl (fun K w' hk => ?_) ?_
        rotate_left
        · go_step; exact hk
        refine Ord.OrdP.St.fl2 (T' := ?_) 11 [12, 13, 14] _ _ rfl (by kernel_rfl) rfl rfl rfl rfl (fun K w' hk => ?_) ?_
        rotate_left
        · go_step; exact hk
        refine Ord.OrdP.St.efC 12 [13, 14] _ rfl (by kernel_rfl) (fun K hK => ?_)
        go_wp2_with fail
        refine HMU.out.mono ?_
        rintro e w11 ⟨rfl, ⟨h0, rfl⟩ | ⟨h0, rfl⟩⟩
        rotate_left
        · have hMk := HMF.out.keep h0
          have hnx := HNX.out
          unfold eachS at hnx
          simp only [HOPM.out, rstep_no (s := (Gq, 0)) rfl h0] at hnx
          have hb2 := chF_bad L.2.1 (S.1, 0) (Z.take (j + 1)) (by rw [hnx]; exact h0) (Z.drop (j + 1))
          rw [List.take_append_drop, hnx] at hb2
          have hR := divF_stop (d := d) (s := (G, 0)) HBK.out (e := M.2.2) h0 (by show (divM d (divF d (G, 0) (x.reverse.take k)) b).1.2 = _; rw [HQ3.out, hb2])
          exact .inr ⟨_, rfl, rfl, HBK10.out, HS10.out.stop (((I5.out.trans HLF.out.ok.ext).trans HSOK.out.ext).trans (HEXQ.out.trans HMF.out.ok.ext)) h0 hR⟩
        have hM0 : M.2.2 = 0 := h0
        have f10 := row_fz HS10.out.rr (by omega) j
        have c10 := row_at2 HS10.out.rr (show (refsCells (mm ++ r1.drop j))[j]? = some (.int .i64 c) by unfold refsCells; rw [List.getElem?_map, HAT.out]; rfl)
        go_wp2_with fail
        refine .inl ⟨rfl, hK _ _ ?_ ?_⟩
        · exact c6
        clear hK K
        refine Ord.OrdP.St.fl2 (T' := ?_) 13 [14] _ _ rfl (by kernel_rfl) rfl rfl rfl rfl (fun K w' hk => ?_) ?_
        rotate_left
        · go_step; exact hk
        refine Ord.OrdP.St.ef 14 [] _ rfl (by kernel_rfl) (fun K hK => ?_)
        go_wp2_with fail
        refine .inl ⟨rfl, hK _ _ ?_⟩; clear hK K
        refine Ord.OrdP.St.nil ?_
        gi_wp2
        have hs12 := HS10.out.put HI.out HXX.out j M.2.1
        rw [HSET.out] at hs12
        have hsr12 := HSR10.out.ch (F := [rb']) ((Ch.refl [rb'] w10).setCell (p := ⟨rb', j, none⟩) (.inl (by simp)) (.int .i64 M.2.1)) (fun q hq => by cases hq; simp; have := hsm6' rb' (by simp); omega)
        have hbk12 : Books (b5 + 4) Wr (w10.setCell ⟨rb', j, none⟩ (.int .i64 M.2.1)) := HBK10.out.trans (Books.of_ch ((Ch.refl [rb'] w10).setCell (p := ⟨rb', j, none⟩) (.inl (by simp)) (.int .i64 M.2.1)) HS10.out.hB (fun q hq => by have := (HS10.out.sx.mine rb' (by simp)).2.2.2.1; simp at hq; omega))
        have hnx := HNX.out
        unfold eachS at hnx
        simp only [HOPM.out, rstep_ok (s := (Gq, 0)) rfl hM0] at hnx
        have HS12 := Lib.hid hs12; clear hs12
        have HSR12 := Lib.hid hsr12; clear hsr12
        have HBK12 := Lib.hid hbk12; clear hbk12
        have HNX2 := Lib.hid hnx; clear hnx
        clear f10 c10 c6
        gi_wp2
        go_roundw
        case rel =>
          refine ⟨j + 1, M.1, mm ++ [M.2.1], F10, by omega, by go_num, HNX2.out, fun q hq => ?_, HS12.out, HSR12.out, HSF10.out, HBK12.out, HEXQ.out.trans HMF.out.ok.ext⟩
          rcases List.mem_append.1 hq with hq | hq
          · exact HMF.out.ok.ext.lt (HMM.out q hq)
          · rw [List.mem_singleton.1 hq]; exact HMF.out.ok.lt
        case measure => simp [intOf]; omega
      · have hjn1 : j = n + 1 := by omega
        subst hjn1
        rw [List.take_of_length_le (by omega)] at heq
        rw [List.drop_eq_nil_of_le (by omega), List.append_nil] at hs
        have hd1 : divF d (G, 0) (x.reverse.take (k + 1)) = ((Gq, 0), (divF d (G, 0) (x.reverse.take k)).2.1 ++ [L.2.1], mm) := by
          rw [divF_next HBK.out]
          unfold divS
          rw [HQ3.out, HQ2.out, heq]
        have hxg : Ext G Gq := ((I5.out.trans HLF.out.ok.ext).trans HSOK.out.ext).trans hexq
        have hkx : KX w F T0 I d G x.reverse n ⟨k, T, wr, L.2.1, rb', rc', mm⟩ wr := by
          refine ⟨Ch.refl _ _, hs.sx.ch, hs.sx.it, hs.rr, ⟨(hs.sx.mine rb' (by simp)).2.2.1, (hs.sx.mine rb' (by simp)).1⟩, fun q hq => ?_, hs.hw, hkn, by rw [hd1], hmml, fun z hz => by have := hmm z hz; have := hs.sx.gin.ok.small; omega⟩
          obtain ⟨t1, t2, t3, t4⟩ := hs.sx.tb q hq
          refine ⟨?_, ?_, t4, t1.imp (fun e => e.1) id⟩
          · rcases t1 with t1 | t1 <;> omega
          · rcases t1 with t1 | t1 <;> omega
        obtain ⟨fn, tmps, assign, body, hy1, hRound⟩ := HYY.out _ _ hkx hs.xw
        have hRnd := RoundIn.any 1 hRound l2
        simp only [sEnc] at hy1
        have c4 := hs.c4.cell (i := 0) rfl
        have c6 := hs.c6.cell (i := 0) rfl
        have HS := Lib.hid hs; clear hs
        have HRND := Lib.hid hRnd; clear hRnd hRound
        have HD1 := Lib.hid hd1; clear hd1
        have HMM := Lib.hid hmm; clear hmm
        have HBK9 := Lib.hid hbk; clear hbk
        clear hkx heq hsr
        gi_wp2
        refine HRND.out.mono ?_
        rintro e W9 ⟨rfl, ⟨T', t1, t2, t3⟩, hxw⟩
        have hs9 := HS.out.next t1 t2 (fun q hq => (t3 q hq).1) (fun q hq => (t3 q hq).2) hxw
        have hbk9 : Books (b5 + 4) Wr W9 := HBK9.out.trans (Books.of_ch t2 HS.out.hB (fun q hq => by
          simp only [List.mem_cons] at hq
          have := HWR.out
          rcases hq with e | e | e
          · omega
          · omega
          · have := (HS.out.sx.tb q e).2.2.1; omega))
        have HS9 := Lib.hid hs9; clear hs9 t1 t2 t3
        have HBK99 := Lib.hid hbk9; clear hbk9 c4 c6 hy1
        gi_wp2
        exact .inl ⟨trivial, HBK99.out, Gq, F2, T', rb', rc', mm, by rw [HD1.out], by rw [HD1.out], hmml, HMM.out, hxg, HS9.out⟩
end
end Go.Proofs.YtehljgigebhddaaGreat
namespace Go.Proofs.YtehljgigebhddaaGreat
open Go.RowKit Go.Mem Go.Aig
attribute [local go_sem] Oper.semAt_some
/-- what the loop keeps: the quotient so far, what is left -/
def QI (bq be : Nat) (d : List Nat) (G : Gra) (bits : List Nat) (n : Nat) (k : Nat) (T : List Nat) (W : World) : Prop :=
  ∃ qv ev, T = bq :: be :: (qv.ownBlock.toList ++ ev.ownBlock.toList) ∧ blk W bq [qv] ∧ blk W be [ev] ∧ row W 52 1 qv k (refsCells (divF d (G, 0) (bits.take k)).2.1) ∧ (0 < k → row W 52 1 ev n (refsCells ((divF d (G, 0) (bits.take k)).2.2.take n))) ∧ (∀ q, qv.ownBlock = some q → q ≠ bq ∧ q ≠ be ∧ ev.ownBlock ≠ some q) ∧ (∀ q, ev.ownBlock = some q → q ≠ bq ∧ q ≠ be)
theorem QI.ok (bq be : Nat) (d : List Nat) (G : Gra) (bits : List Nat) (n : Nat) : IOk (QI bq be d G bits n) := ⟨by
  rintro k T A A' L ⟨qv, ev, rfl, h1, h2, h3, h4, h5, h6⟩ hc hL
  have hm : ∀ q ∈ bq :: be :: (qv.ownBlock.toList ++ ev.ownBlock.toList), q ∉ L := fun q hq hm => hL q hm hq
  exact ⟨qv, ev, rfl, h1.ch hc (hm _ (by simp)), h2.ch hc (hm _ (by simp)), h3.ch hc (fun q hq => hm _ (by simp [hq])), fun h0 => (h4 h0).ch hc (fun q hq => hm _ (by simp [hq])), h5, h6⟩⟩
theorem JX.books {w : World} {F T0 : List Nat} {bq be : Nat} {d : List Nat} {G : Gra} {bits : List Nat} {n : Nat} {q : YX} {W A W' : World} (hk : KX w F T0 (QI bq be d G bits n) d G bits n q W) (hj : JX w (QI bq be d G bits n) q A) (hc : Ch [w.heap.size, w.heap.size + 1] A W') : JX w (QI bq be d G bits n) q W' := by
  obtain ⟨_, _, _, _, _, k6, k7, _⟩ := hk
  obtain ⟨T', j1, j2, j3⟩ := hj
  have hs := hc.size
  refine ⟨T', (QI.ok bq be d G bits n).same _ _ _ _ _ j1 hc (fun z hz hm => ?_), j2.trans hc (fun z hz => .inl (by simp at hz; rcases hz with e | e <;> simp [e])), fun z hz => ⟨(j3 z hz).1, by have := (j3 z hz).2; omega⟩⟩
  have hz2 : z = w.heap.size ∨ z = w.heap.size + 1 := by simpa using hz
  rcases (j3 z hm).1 with e | e
  · have := k6 z e; omega
  · omega
theorem fnvmdBoth1 : Fnv 214 := fnv_of Tryz.func214 (by simp [Tryz.f214]) (by simp [Tryz.f214])
/-- what the closure of Both does if it is not stopped -/
def BothD (g n : Nat) (F : List Nat) (R : Mk × List Nat × List Nat) (bq be : Nat) (w w' : World) : Prop :=
  R.1.2 = 0 ∧ ∃ F' qv ev, GIn w' g R.1.1 F' ∧ Ch ([bq, be] ++ F) w w' ∧ (∀ q ∈ F', q ∈ F ∨ w.heap.size ≤ q) ∧ F'[2]? = F[2]? ∧ blk w' bq [qv] ∧ blk w' be [ev] ∧ row w' 52 1 qv n (refsCells R.2.1) ∧ row w' 52 1 ev n (refsCells (R.2.2.take n)) ∧ (∀ q, qv.ownBlock = some q → w.heap.size ≤ q ∧ q ∉ F' ∧ ev.ownBlock ≠ some q) ∧ (∀ q, ev.ownBlock = some q → w.heap.size ≤ q ∧ q ∉ F')
section
variable {w : World} {g : Nat} {G : Gra} {F : List Nat}
set_option maxRecDepth 100000 in
set_option maxHeartbeats 4000000 in
theorem mdBoth1_is (h : GIn w g G F) {x y : List Nat} {xa ya : Option Addr} {xc yc : Nat} (n : Nat) (hxl : x.length = n) (hyl : y.length = n) (h1 : 1 ≤ n) (h16 : n ≤ 16)
    (hx : WVin w F ⟨xa, natInts x, xc⟩) (hy : WVin w F ⟨ya, natInts y, yc⟩) (hxr : ∀ r ∈ x, r < 2 * G.nodes.length) (hyr : ∀ r ∈ y, r < 2 * G.nodes.length)
    {bg bx bY bq be : Nat} (hg : blk w bg [.pointer (some ⟨g, 0, none⟩)]) (hbx : blk w bx [.slice xa n xc]) (hby : blk w bY [.slice ya n yc]) (hbq : blk w bq [.slice none 0 0]) (hbe : blk w be [.slice none 0 0]) (hne : bq ≠ be) (hF : bq ∉ F ∧ be ∉ F) (hap : ∀ q ∈ [bq, be], q ≠ bx ∧ q ∉ ablk xa ∧ q ∉ ablk ya) (hxF : bx ∉ F) :
    Calls Tryz.prog 214 #[.pointer (some ⟨bg, 0, none⟩), .pointer (some ⟨bx, 0, none⟩), .pointer (some ⟨bY, 0, none⟩), .pointer (some ⟨bq, 0, none⟩), .pointer (some ⟨be, 0, none⟩)] w (Stops w g G [bq, be] F (divF (y ++ [0]) (G, 0) x.reverse).1.2 (BothD g n F (divF (y ++ [0]) (G, 0) x.reverse) bq be)) := by
  have c0 := hg.cell (i := 0) rfl
  have c1 := hbx.cell (i := 0) rfl
  have c2 := hby.cell (i := 0) rfl
  obtain ⟨d, hd⟩ : ∃ d, y ++ [0] = d := ⟨_, rfl⟩
  rw [hd]
  have hst := mdsteps_is w g xa ya n xc n yc
  have HST := Lib.hid hst; clear hst
  refine (callsIn_wide (n := 4)).1 ?_
  refine callsIn_of_wp_marks Tryz.func214 rfl trivial ?_ rfl
  simp only [Tryz.ntmps214, List.size_toArray, List.length_cons, List.length_nil, Nat.reduceAdd, Nat.reduceSub, Array.replicate_succ, Array.replicate_zero, List.push_toArray, List.append_toArray, List.nil_append, List.cons_append]
  refine wpIn_wide.2 ?_
  go_wp2_with fail
  refine HST.out.mono ?_
  rintro e w1 ⟨rfl, hw1⟩
  have hc1 : Ch [] w w1 := by rw [hw1]; exact (((Ch.refl _ _).alloc _).alloc _).alloc _
  have hz1 : w1.heap.size = w.heap.size + 3 := by rw [hw1]; simp
  have hb0 : blk w1 w.heap.size [.pointer (some ⟨g, 0, none⟩)] := by rw [hw1]; exact ((blk.new w _ _).alloc _).alloc _
  have hb1 : blk w1 (w.heap.size + 1) [.slice xa n xc] := by rw [hw1]; exact (blk.new' _ _ (by simp)).alloc _
  have hb2 : blk w1 (w.heap.size + 1 + 1) [.slice ya n yc] := by rw [hw1]; exact blk.new' _ _ (by simp)
  clear hw1
  have hFl := h.lt
  have hqlt := hbq.lt
  have helt := hbe.lt
  have hG1 := h.same hc1 (by simp)
  have hins : ∀ {a : Option Addr} {l : List Nat} {c : Nat}, WVin w F ⟨a, natInts l, c⟩ → (∀ q ∈ [bq, be], q ∉ ablk a) → WVin w1 ([bq, be] ++ F) ⟨a, natInts l, c⟩ := fun {a l c} hv ha => ⟨hv.ok.ch hc1 (by simp), fun k hk => by
    obtain ⟨k1, k2⟩ := hv.apart k hk
    refine ⟨fun hm => ?_, by omega⟩
    rcases List.mem_append.1 hm with hm | hm
    · exact ha k hm hk
    · exact k1 hm⟩
  have hi0 : QI bq be (y ++ [0]) G x.reverse n 0 [bq, be] w1 := ⟨.slice none 0 0, .slice none 0 0, by simp [Value.ownBlock], hbq.ch hc1 (by simp), hbe.ch hc1 (by simp), ⟨rfl, .inl ⟨rfl, rfl⟩⟩, by omega, by simp [Value.ownBlock], by simp [Value.ownBlock]⟩
  have hseq := fun (N : Nat) => mdsteps1_seq (T0 := [bq, be]) hG1 n hxl hyl h1 h16 (hins hx (fun q hq => (hap q hq).2.1)) (hins hy (fun q hq => (hap q hq).2.2)) hxr hyr hb0 hb1 hb2 (by
    refine ⟨fun hm => ?_, fun hm => ?_, fun hm => ?_⟩ <;> rcases List.mem_append.1 hm with hm | hm
    · simp at hm; omega
    · have := hFl _ hm; omega
    · simp at hm; omega
    · have := hFl _ hm; omega
    · simp at hm; omega
    · have := hFl _ hm; omega) (QI.ok bq be (y ++ [0]) G x.reverse n) hi0 (fun q hq => by
    simp only [List.mem_cons, List.not_mem_nil, or_false] at hq
    rcases hq with rfl | rfl
    · exact ⟨by omega, hF.1⟩
    · exact ⟨by omega, hF.2⟩) N
  simp only [hd] at hseq hi0
  have HSEQ := Lib.hid hseq; clear hseq
  have hbx1 := hbx.ch hc1 (by simp)
  have hxb : bx ∉ [bq, be] ++ F := fun hm => by
    rcases List.mem_append.1 hm with hm | hm
    · exact (hap bx hm).1 rfl
    · exact hxF hm
  clear hins hb0 hb1 hb2 c0 c1 c2 HST
  go_wp2_with fail
  refine (wpIn_wide (n := 4)).1 ?_
  refine wpIn_rangeFunc_R (n := 4) w1.heap.size rfl rfl (by omega) rfl trivial (fun args w => fnvmdsteps1 args w) (encs := sEnc n) (fun _ => rfl)
    (fun W' => Ch [w1.heap.size, w1.heap.size + 1] w1 W')
    (KX w1 F [bq, be] (QI bq be d G x.reverse n) d G x.reverse n)
    (fun q W' => ∃ A, JX w1 (QI bq be d G x.reverse n) q A ∧ Ch [w1.heap.size, w1.heap.size + 1] A W')
    (fun W' => ∃ A, DX w1 g F [bq, be] (QI bq be d G x.reverse n) (divF d (G, 0) x.reverse) n A ∧ Ch [w1.heap.size, w1.heap.size + 1] A W')
    (fun c W' => DPX w1 g F [bq, be] G (divF d (G, 0) x.reverse).1.2 c W')
    ?seq ?j0 ?k ?j ?d ?pan (Ch.refl _ _) ?a1 ?assign ?body ?done
  case assign =>
    intro q x W K hK
    simp only [sEnc]
    gi_wp2
    exact hK
  case j0 => exact fun A A' h hc => h.trans hc (fun q hq => .inl hq)
  case k => exact fun x A A' h hc => ⟨h.1.trans hc (fun q hq => .inl hq), h.2⟩
  case j => exact fun x A A' ⟨A0, h1, h2⟩ hc => ⟨A0, h1, h2.trans hc (fun q hq => .inl hq)⟩
  case d => exact fun A A' ⟨A0, h1, h2⟩ hc => ⟨A0, h1, h2.trans hc (fun q hq => .inl hq)⟩
  case seq =>
    intro l X hX hXB hY W hcW hXW
    refine (HSEQ.out 3 l X ⟨hX⟩ hXB (fun q W hk hx => YieldAt.any 3 ((hY q W hk hx).mono ?_)) W hcW hXW).mono ?_
    · rintro e W' ⟨rfl, ⟨A, hj, hca⟩, hx⟩
      exact ⟨rfl, hj.books hk hca, hx⟩
    · rintro e W' (⟨hv, hd, hx⟩ | ⟨c, rfl, hp, hx⟩)
      · exact .inl ⟨hv, ⟨W', hd, Ch.refl _ _⟩, hx⟩
      · exact .inr ⟨c, rfl, hp, hx⟩
  case pan =>
    rintro c W1 ⟨p0, rfl, G', F', p1, p2, p3, p4, p5⟩ hK hz
    have hcp : Ch [w1.heap.size] W1 (W1.putObj w1.heap.size (.deferred none)) := ch_put (by simp)
    refine ⟨by simp, .inl ⟨_, _, rfl, run_takeDeferred hK, ?_⟩⟩
    refine .inr ⟨p0, rfl, G', F', p1, p2.same hcp (fun q hq hm => by rcases p4 q hq with e | e <;> (simp at hm; omega)), ?_, fun q hq => (p4 q hq).elim (fun e => .inl e.1) (fun e => .inr (by omega)), p5⟩
    exact ((hc1.mono (by simp)).trans p3 (fun q hq => .inl hq)).trans hcp (fun q hq => .inr (by simp at hq; omega))
  case done =>
    rintro W1 ⟨A, ⟨p0, F', T', p1, p2, p3, p4, p5, p6⟩, hca⟩ hK hz
    obtain ⟨qv, ev, rfl, q1, q2, q3, q4, q5, q6⟩ := p5
    have htk : x.reverse.take n = x.reverse := List.take_of_length_le (by simp [hxl])
    rw [htk] at q3 q4
    have hcp : Ch [w1.heap.size] W1 (W1.putObj w1.heap.size (.deferred none)) := ch_put (by simp)
    have hca2 : Ch [w1.heap.size, w1.heap.size + 1] A (W1.putObj w1.heap.size (.deferred none)) := hca.trans hcp (fun q hq => .inl (by simp at hq; simp [hq]))
    have hnb : ∀ q ∈ bq :: be :: (qv.ownBlock.toList ++ ev.ownBlock.toList), q ∉ [w1.heap.size, w1.heap.size + 1] := fun q hq hm => by
      have hm2 : q = w1.heap.size ∨ q = w1.heap.size + 1 := by simpa using hm
      rcases (p6 q hq).1 with e | e <;> omega
    refine ⟨by simp, .inl ⟨_, _, rfl, run_takeDeferred hK, ?_⟩⟩
    refine ⟨_, results_none rfl _ _ _, .inl ⟨p0, rfl, p0, F', qv, ev, p1.same hca2 (fun q hq hm => ?_), ?_, fun q hq => (p3 q hq).elim (fun e => .inl e.1) (fun e => .inr (by omega)), p4, q1.ch hca2 (hnb _ (by simp)), q2.ch hca2 (hnb _ (by simp)), q3.ch hca2 (fun q hq => hnb _ (by simp [hq])), (q4 h1).ch hca2 (fun q hq => hnb _ (by simp [hq])), fun q hq => ?_, fun q hq => ?_⟩⟩
    · have hm2 : q = w1.heap.size ∨ q = w1.heap.size + 1 := by simpa using hm
      rcases p3 q hq with e | e <;> omega
    · exact ((hc1.mono (by simp)).trans p2 (fun q hq => .inl hq)).trans hca2 (fun q hq => .inr (by simp at hq; omega))
    · obtain ⟨t1, t2, _⟩ := p6 q (by simp [hq])
      refine ⟨?_, t2, (q5 q hq).2.2⟩
      rcases t1 with ⟨e, _⟩ | e
      · have := q5 q hq; simp at e; omega
      · omega
    · obtain ⟨t1, t2, _⟩ := p6 q (by simp [hq])
      refine ⟨?_, t2⟩
      rcases t1 with ⟨e, _⟩ | e
      · have := q6 q hq; simp at e; omega
      · omega
  case body =>
    rintro l2 q W ⟨k1, k2, k3, k4, k5, k6, k7, k8, k9, k10, k11⟩ hWl
    obtain ⟨qv, ev, hT, q1, q2, q3, q4, q5, q6⟩ := (QI.ok bq be d G x.reverse n).same _ _ _ _ _ k3 k1 (fun z hz hm => by have := k6 z hm; simp at hz; omega)
    have hrr := k4.ch k1 (fun z hz => by cases hz; simp; have := k5.2; omega)
    have hrc := row_cap' k4
    have cx := ((hbx1.ch k2 hxb).ch k1 (by have := hbx1.lt; simp; omega)).cell (i := 0) rfl
    obtain ⟨qa, qc, rfl⟩ := row.shape q3
    have hks : q.W.heap.size ≤ W.heap.size := k1.size
    have hcA : Ch [] W (W.alloc (.cells #[.int .i64 q.f] 52)) := (Ch.refl _ _).alloc _
    have hrA := q3.ch hcA (by simp)
    have hbA : blk (W.alloc (.cells #[.int .i64 q.f] 52)) W.heap.size [.int .i64 q.f] := blk.new' _ _ rfl
    have cq := (q1.ch hcA (by simp)).cell (i := 0) rfl
    have cq0 := q1.cell (i := 0) rfl
    have hkn : q.k ≤ 1000000 := by omega
    obtain ⟨k, T, Wq, f, rb, rc, r⟩ := q
    simp only at k1 k2 k3 k4 k5 k6 k7 k8 k9 k10 k11 hT q3 q4 hrr hrc hks hrA cq hbA hcA hkn
    have HRA := Lib.hid hrA; clear hrA
    have HBA := Lib.hid hbA; clear hbA
    have HCA := Lib.hid hcA; clear hcA
    have K1 := Lib.hid k1; clear k1
    have K2 := Lib.hid k2; clear k2
    have K3 := Lib.hid k3; clear k3
    have K5 := Lib.hid k5; clear k5
    have K6 := Lib.hid k6; clear k6
    have K9 := Lib.hid k9; clear k9
    have HRR := Lib.hid hrr; clear hrr k4
    have Q1 := Lib.hid q1; clear q1
    have Q2 := Lib.hid q2; clear q2
    have Q3 := Lib.hid q3; clear q3 q4
    have Q5 := Lib.hid q5; clear q5
    have Q6 := Lib.hid q6; clear q6
    have HT := Lib.hid hT; clear hT
    refine wpIn_block ?_
    refine wpIn_seq ?_
    refine Ord.plainR (by kernel_rfl) ?_
    go_wp2_with (at_builtin; go_loud (refine wpList_append_row slRefs rfl _ _ rfl (v := .slice qa k qc) (n := k) (xs := refsCells (divF d (G, 0) (x.reverse.take k)).2.1) rfl HRA.out (ad := ⟨W.heap.size, 0, none⟩) (m := 1) (c := 1) (news := [.int .i64 f]) rfl rfl (news_blk HBA.out) (by simp [Value.oneCell']) (by omega) (by omega) ?_; intro v' w5 hown4 hC4 hf4; obtain ⟨gb, gc, rfl⟩ := row.parts hown4 (by omega); have HO4 := Lib.hid hown4; clear hown4; have HCC4 := Lib.hid hC4; clear hC4; have HF4 := Lib.hid hf4; clear hf4; have c55 := ((Q1.out.ch HCA.out (by simp)).ch HCC4.out (fun hm => (Q5.out bq (by simpa using hm)).1 rfl)).cell (i := 0) rfl; have f55 := ((Q1.out.ch HCA.out (by simp)).ch HCC4.out (fun hm => (Q5.out bq (by simpa using hm)).1 rfl)).frozen (i := 0)))
    refine ⟨rfl, ?_⟩
    obtain ⟨W6, hW6⟩ : ∃ W6, W6 = w5.setCell ⟨bq, 0, none⟩ (.slice (some ⟨gb, 0, none⟩) (k + 1) gc) := ⟨_, rfl⟩
    rw [← hW6]
    change Code.wpIn _ _ _ _ _ _ _
    have hC5 : Ch (Value.slice qa k qc).ownBlock.toList W w5 := (HCA.out.mono (by simp)).trans HCC4.out (fun z hz => .inl hz)
    have hC56 : Ch [bq] w5 W6 := by rw [hW6]; exact (Ch.refl _ _).setCell (.inl (by simp)) _
    have hC6 : Ch (bq :: (Value.slice qa k qc).ownBlock.toList) W W6 := (hC5.mono (fun z hz => .inl (by simp [hz]))).trans hC56 (fun z hz => .inl (by simp at hz; simp [hz]))
    have hLT : ∀ z ∈ bq :: (Value.slice qa k qc).ownBlock.toList, z ∈ T := fun z hz => by
      rw [HT.out]
      rcases List.mem_cons.1 hz with rfl | hz
      · simp
      · simp [hz]
    have hbxT : bx ∉ T := fun hm => by
      rcases (K6.out bx hm).2.2.2 with e | e
      · exact hxb (List.mem_append_left _ e)
      · have := hbx1.lt; omega
    have hrbT : rb ∉ T := K5.out.1
    have cx6 := (((hbx1.ch K2.out hxb).ch K1.out (by have := hbx1.lt; simp; omega)).ch hC6 (fun hm => hbxT (hLT _ hm))).cell (i := 0) rfl
    have hrr6 := HRR.out.ch hC6 (fun z hz hm => by cases hz; exact hrbT (hLT _ hm))
    have hbe6 := Q2.out.ch hC6 (fun hm => by
      rcases List.mem_cons.1 hm with e | e
      · exact hne e.symm
      · exact (Q5.out be (by simpa using e)).2.1 rfl)
    have hgbn : gb ∈ (Value.slice qa k qc).ownBlock.toList ∨ W.heap.size ≤ gb := by
      rcases HF4.out gb rfl with e | e
      · exact .inl (by simp [e])
      · exact .inr (by have := HCA.out.size; omega)
    have hgq : gb ≠ bq ∧ gb ≠ be := by
      rcases hgbn with e | e
      · have := Q5.out gb (by simpa using e); exact ⟨this.1, this.2.1⟩
      · have := Q1.out.lt; have := Q2.out.lt; omega
    have hq6 : row W6 52 1 (.slice (some ⟨gb, 0, none⟩) (k + 1) gc) (k + 1) (refsCells (divF d (G, 0) (x.reverse.take (k + 1))).2.1) := by
      rw [K9.out]
      have := HO4.out.ch hC56 (fun z hz => by cases hz; simpa using hgq.1)
      simpa [refsCells] using this
    have hbq6 : blk W6 bq [.slice (some ⟨gb, 0, none⟩) (k + 1) gc] := by
      rw [hW6]
      exact ((Q1.out.ch HCA.out (by simp)).ch HCC4.out (fun hm => (Q5.out bq (by simpa using hm)).1 rfl)).set _
    have hslr : Sl W6 (some ⟨rb, 0, none⟩) (natInts r) := Sl.of_row' hrr6 k10 (by omega)
    have hwv : WVok W6 ⟨some ⟨rb, 0, none⟩, natInts (r.take n), rc⟩ := by
      refine ⟨⟨fun i z hz => hslr.cells i z ?_, by simp; omega⟩, fun z hz => ?_, by simp [natInts]; omega⟩
      · simp only [natInts, List.getElem?_map, List.getElem?_take] at hz ⊢
        split at hz
        · exact hz
        · cases hz
      · obtain ⟨u, hu, rfl⟩ := List.mem_map.1 hz
        have := k11 u (List.mem_of_mem_take hu)
        omega
    have hcl := Clref_w hwv n (by simp [natInts]; omega)
    simp only at hcl
    have HCL := Lib.hid hcl; clear hcl
    have HC6 := Lib.hid hC6; clear hC6
    have HQ6 := Lib.hid hq6; clear hq6
    have HBQ6 := Lib.hid hbq6; clear hbq6
    have HBE6 := Lib.hid hbe6; clear hbe6
    have HLT := Lib.hid hLT; clear hLT
    clear hC5 hC56 hW6 c55 f55 hslr hwv hrr6 cq cq0 cx HO4 HCC4 HF4 HBA HRA HCA
    gi_wp2
    refine ⟨trivial, (CallsIn.inRound l2 ((callsIn_wide (n := _)).2 HCL.out)).mono ?_⟩
    rintro e w7 ⟨v, rfl, hv1, hv2, hv3⟩
    obtain ⟨va, vc, rfl⟩ := row.shape hv1
    have hvl : (intCells (natInts (r.take n))).length = n := by simp [intCells, natInts]; omega
    have hve : intCells (natInts (r.take n)) = refsCells (r.take n) := by simp [intCells, natInts, refsCells, Function.comp_def]
    have HV1 := Lib.hid hv1; clear hv1
    have HV2 := Lib.hid hv2; clear hv2
    have HV3 := Lib.hid hv3; clear hv3
    have c7 := (HBE6.out.ch HV3.out (by simp)).cell (i := 0) rfl
    have f7 := (HBE6.out.ch HV3.out (by simp)).frozen (i := 0)
    gi_wp2
    rw [← hz1]
    have hvl2 : (refsCells (r.take n)).length = n := by rw [← hve]; exact hvl
    rw [hvl2]
    have hve1 : row w7 52 1 (.slice va n vc) n (refsCells (r.take n)) := by
      have := HV1.out
      rw [hve, hvl2] at this
      exact this
    have hv2' : ∀ z, (Value.slice va n vc).ownBlock = some z → W6.heap.size ≤ z := fun z hz => by
      have := HV2.out z (by cases va <;> simp_all [Value.ownBlock])
      exact this
    obtain ⟨W8, hW8⟩ : ∃ W8, W8 = w7.setCell ⟨be, 0, none⟩ (.slice va n vc) := ⟨_, rfl⟩
    rw [← hW8]
    have hC78 : Ch [be] w7 W8 := by rw [hW8]; exact (Ch.refl _ _).setCell (.inl (by simp)) _
    have hC68 : Ch [be] W6 W8 := (HV3.out.mono (by simp)).trans hC78 (fun z hz => .inl hz)
    have hgb6 : gb < W6.heap.size := (HQ6.out.lt gb rfl).2
    have hbe6 := HBE6.out.lt
    have hbq6 := HBQ6.out.lt
    have hs68 := hC68.size
    have hs6 := HC6.out.size
    have hbeT : be ∈ T := by rw [HT.out]; simp
    have hC8 : Ch (be :: bq :: (Value.slice qa k qc).ownBlock.toList) W W8 := (HC6.out.mono (fun z hz => .inl (List.mem_cons_of_mem _ hz))).trans hC68 (fun z hz => .inl (by simp at hz; simp [hz]))
    have hL8 : ∀ z ∈ be :: bq :: (Value.slice qa k qc).ownBlock.toList, z ∈ T := fun z hz => by
      rcases List.mem_cons.1 hz with rfl | hz
      · exact hbeT
      · exact HLT.out z hz
    have hrw8 := hve1.ch hC78 (fun z hz => by have := hv2' z hz; simp; omega)
    have hrw8l := fun z hz => (hrw8.lt z hz).2
    refine ⟨Books.of_ch hC8 hWl (fun z hz => by have := K6.out z (hL8 z hz); omega), trivial, W8, ⟨bq :: be :: ((Value.slice (some ⟨gb, 0, none⟩) (k + 1) gc).ownBlock.toList ++ (Value.slice va n vc).ownBlock.toList), ⟨.slice (some ⟨gb, 0, none⟩) (k + 1) gc, .slice va n vc, rfl, ?_, ?_, ?_, fun _ => ?_, fun z hz => ?_, fun z hz => ?_⟩, ?_, fun z hz => ?_⟩, Ch.refl _ _⟩
    · exact HBQ6.out.ch hC68 (by simpa using hne)
    · rw [hW8]; exact (HBE6.out.ch HV3.out (by simp)).set _
    · exact HQ6.out.ch hC68 (fun z hz => by cases hz; simpa using hgq.2)
    · show row W8 52 1 (.slice va n vc) n (refsCells ((divF d (G, 0) (x.reverse.take (k + 1))).2.2.take n))
      rw [K9.out]
      exact hrw8
    · cases hz
      exact ⟨hgq.1, hgq.2, fun hm => by have := hv2' gb hm; omega⟩
    · have := hv2' z hz
      omega
    · exact (K1.out.mono (fun z hz => .inl (by simp at hz; rcases hz with e | e <;> simp [e]))).trans hC8 (fun z hz => .inl (by simp only [List.mem_cons]; exact .inr (.inr (hL8 z hz))))
    · simp only [List.mem_cons, List.mem_append, Option.mem_toList] at hz
      rcases hz with rfl | rfl | hz | hz
      · exact ⟨.inl (HLT.out _ (by simp)), by omega⟩
      · exact ⟨.inl hbeT, by omega⟩
      · cases hz
        refine ⟨?_, by show gb < _; omega⟩
        rcases hgbn with e | e
        · exact .inl (HLT.out gb (List.mem_cons_of_mem _ e))
        · exact .inr (by show Wq.heap.size ≤ gb; omega)
      · exact ⟨.inr (by have := hv2' z hz; show Wq.heap.size ≤ z; omega), hrw8l z hz⟩
end
end Go.Proofs.YtehljgigebhddaaGreat
namespace Go.Aig
/-- what is left of a quotient and a rest -/
def bres (G : Gra) (n : Nat) (R : Mk × List Nat × List Nat) : Gra × (List Nat × List Nat) × Nat := if R.1.2 ≠ 0 then (G, ([], []), R.1.2) else (R.1.1, (R.2.1.reverse, R.2.2.take n), 0)
def bothG (G : Gra) (x y : List Int) : Gra × (List Nat × List Nat) × Nat := if chk24 G [x, y] ≠ 0 then (G, ([], []), chk24 G [x, y]) else bres G x.length (divF (nats y ++ [0]) (G, 0) (nats x).reverse)
end Go.Aig
namespace Go.Proofs.YtehljgigebhddaaGreat
open Go.RowKit Go.Mem Go.Aig
/-- what a function leaves of a graph, with two words of its own -/
def GVV (w : World) (g : Nat) (G : Gra) (F : List Nat) (v1 : Value) (l1 : List Nat) (v2 : Value) (l2 : List Nat) (w' : World) : Prop :=
  ∃ F', GIn w' g G F' ∧ Ch F w w' ∧ (∀ k ∈ F', k ∈ F ∨ w.heap.size ≤ k) ∧ F'[2]? = F[2]? ∧ row w' 52 1 v1 l1.length (refsCells l1) ∧ row w' 52 1 v2 l2.length (refsCells l2) ∧ (∀ k, v1.ownBlock = some k → w.heap.size ≤ k ∧ k ∉ F' ∧ v2.ownBlock ≠ some k) ∧ (∀ k, v2.ownBlock = some k → w.heap.size ≤ k ∧ k ∉ F')
theorem GVV.none {w w' : World} {g : Nat} {G : Gra} {F F' : List Nat} (h1 : GIn w' g G F') (h2 : Ch F w w') (h3 : ∀ k ∈ F', k ∈ F ∨ w.heap.size ≤ k) (h4 : F'[2]? = F[2]?) : GVV w g G F (.slice none 0 0) [] (.slice none 0 0) [] w' :=
  ⟨F', h1, h2, h3, h4, ⟨rfl, .inl ⟨rfl, rfl⟩⟩, ⟨rfl, .inl ⟨rfl, rfl⟩⟩, by simp [Value.ownBlock], by simp [Value.ownBlock]⟩
section
variable {w : World} {g : Nat} {G : Gra} {F : List Nat}
set_option maxRecDepth 100000 in
set_option maxHeartbeats 4000000 in
theorem mdBoth_is (h : GIn w g G F) {x y : WV} (hx : WVin w F x) (hy : WVin w F y) :
    Calls Tryz.prog 105 #[.pointer (some ⟨g, 0, none⟩), x.val, y.val] w fun e w' => ∃ v1 v2, e = .returned (.tuple #[v1, v2, .int .i64 (bothG G x.l y.l).2.2]) ∧ GVV w g (bothG G x.l y.l).1 F v1 (bothG G x.l y.l).2.1.1 v2 (bothG G x.l y.l).2.1.2 w' := by
  have hFl := h.lt
  obtain ⟨xa, xl, xc⟩ := x
  obtain ⟨ya, yl, yc⟩ := y
  simp only [WV.val] at *
  unfold bothG
  have hch := chk24_ok (G := G) (x := xl) (y := yl)
  have hcs := chk24_small G [xl, yl]
  have hmf : ∀ (fn : Fn) (first cap : Array Value) (w : World), (Instr.makeFunc fn first cap).run Tryz.prog w = .ok (.func fn first cap) w := fun _ _ _ _ => rfl
  generalize hc : chk24 G [xl, yl] = cc at *
  have hC : ∀ W, Ch [] w W → ∀ b, blk W b [.slice xa xl.length xc, .slice ya yl.length yc] → Calls Tryz.prog 207 #[.pointer (some ⟨g, 0, none⟩), .slice (some ⟨b, 0, none⟩) 2 2] W fun e w' => e = .returned (.int .i64 cc) ∧ Ch [] W w' := fun W hW b hb => by
    have := mdcheck_is (h.same hW (by simp)) (b := b) (ws := [⟨xa, xl, xc⟩, ⟨ya, yl, yc⟩]) 2 2 rfl (by omega) (fun i z hz => by
      match i, hz with
      | 0, hz => cases hz; exact hb.cell rfl
      | 1, hz => cases hz; exact hb.cell rfl) (fun z hz => by
      simp only [List.mem_cons, List.not_mem_nil, or_false] at hz
      rcases hz with rfl | rfl
      · exact (hx.ch hW).ok
      · exact (hy.ch hW).ok)
    rw [show ([⟨xa, xl, xc⟩, ⟨ya, yl, yc⟩] : List WV).map WV.l = [xl, yl] from rfl, hc] at this
    exact this
  have HC := Lib.hid hC; clear hC
  have HX := Lib.hid hx; clear hx
  have HY := Lib.hid hy; clear hy
  have H := Lib.hid h; clear h
  have HCH := Lib.hid hch; clear hch
  clear hc
  generalize hWW : (if cc ≠ 0 then (G, ([], []), cc) else bres G xl.length (divF (nats yl ++ [0]) (G, 0) (nats xl).reverse) : Gra × (List Nat × List Nat) × Nat) = WW
  have HWW := Lib.hid hWW; clear hWW
  go_enter Tryz.func105, Tryz.ntmps105
  go_wp2_with fail
  refine calls_named fun W0 hW0 => ?_
  have hc0 : Ch [] w W0 := by rw [hW0]; exact ((((Ch.refl _ _).alloc _).alloc _).alloc _).alloc _
  have hbg : blk W0 w.heap.size [.pointer (some ⟨g, 0, none⟩)] := by rw [hW0]; exact (((blk.new w _ _).alloc _).alloc _).alloc _
  have hbx : blk W0 (w.heap.size + 1) [.slice xa xl.length xc] := by rw [hW0]; exact ((blk.new' _ _ (by simp)).alloc _).alloc _
  have hby : blk W0 (w.heap.size + 1 + 1) [.slice ya yl.length yc] := by rw [hW0]; exact (blk.new' _ _ (by simp)).alloc _
  have hbl : blk W0 (w.heap.size + 1 + 1 + 1) [.slice xa xl.length xc, .slice ya yl.length yc] := by rw [hW0]; exact blk.new' _ _ (by simp)
  clear hW0
  refine (HC.out W0 hc0 _ hbl).mono ?_
  rintro e w1 ⟨rfl, hc1⟩
  have hc01 := hc0.trans hc1 (by simp)
  have hbg := hbg.ch hc1 (by simp)
  have hbx := hbx.ch hc1 (by simp)
  have hby := hby.ch hc1 (by simp)
  clear hbl hc0 hc1
  by_cases hcc : cc = 0
  · subst hcc
    obtain ⟨k1, k2, k3, k4, k5, k6, k7⟩ := HCH.out rfl
    have d0 := ((hbg.alloc (.cells #[.slice none 0 0] 45)).alloc (.cells #[.slice none 0 0] 45)).cell (i := 0) rfl
    have hc2 : Ch [] w ((w1.alloc (.cells #[.slice none 0 0] 45)).alloc (.cells #[.slice none 0 0] 45)) := (hc01.alloc _).alloc _
    have hbq : blk ((w1.alloc (.cells #[.slice none 0 0] 45)).alloc (.cells #[.slice none 0 0] 45)) w1.heap.size [.slice none 0 0] := (blk.new _ _ _).alloc _
    have hbe : blk ((w1.alloc (.cells #[.slice none 0 0] 45)).alloc (.cells #[.slice none 0 0] 45)) (w1.heap.size + 1) [.slice none 0 0] := blk.new' _ _ (by simp)
    have hz1 := hc01.size
    have hxap : ∀ q, w.heap.size ≤ q → q ∉ ablk xa ∧ q ∉ ablk ya := fun q hq => ⟨fun hm => by have := (HX.out.apart q hm).2; omega, fun hm => by have := (HY.out.apart q hm).2; omega⟩
    have hbxl := hbx.lt
    have hB := mdbuild_is (H.out.same hc2 (by simp)) 214 #[.pointer (some ⟨w.heap.size, 0, none⟩), .pointer (some ⟨w.heap.size + 1, 0, none⟩), .pointer (some ⟨w.heap.size + 1 + 1, 0, none⟩), .pointer (some ⟨w1.heap.size, 0, none⟩), .pointer (some ⟨w1.heap.size + 1, 0, none⟩)] fnvmdBoth1 [w1.heap.size, w1.heap.size + 1] (fun k hk => by simp at hk ⊢; omega) (divF (nats yl ++ [0]) (G, 0) (nats xl).reverse).1.2 (BothD g xl.length F (divF (nats yl ++ [0]) (G, 0) (nats xl).reverse) w1.heap.size (w1.heap.size + 1)) (fun a b hd => by
      obtain ⟨_, _, _, _, _, q, _⟩ := hd
      exact q) (fun W hW hG => by
      have := mdBoth1_is hG (x := nats xl) (y := nats yl) (xa := xa) (ya := ya) (xc := xc) (yc := yc) xl.length (by simp) (by simp [k1]) k2 k3
        (by rw [k4]; exact HX.out.ch (hc2.trans hW (by simp))) (by rw [k5]; exact HY.out.ch (hc2.trans hW (by simp))) k6 k7 (((hbg.alloc _).alloc _).ch hW (by simp)) (((hbx.alloc _).alloc _).ch hW (by simp)) (by rw [← k1]; exact ((hby.alloc _).alloc _).ch hW (by simp)) (hbq.ch hW (by simp)) (hbe.ch hW (by simp)) (by omega) ⟨fun hm => by have := hFl _ hm; omega, fun hm => by have := hFl _ hm; omega⟩ (fun q hq => by
          simp only [List.mem_cons, List.not_mem_nil, or_false] at hq
          exact ⟨by omega, hxap q (by omega)⟩) (fun hm => by have := hFl _ hm; omega)
      exact this)
    have HB := Lib.hid hB; clear hB
    have hww := HWW.out
    rw [if_neg (by simp)] at hww
    clear HWW
    generalize divF (nats yl ++ [0]) (G, 0) (nats xl).reverse = R at *
    unfold bres at hww
    have HC01 := Lib.hid hc01; clear hc01
    have HBQ := Lib.hid hbq; clear hbq
    have HBE := Lib.hid hbe; clear hbe
    have HC2 := Lib.hid hc2; clear hc2
    clear hbg hbx hby HX HY HCH HC k1 k4 k5 k6 k7 hxap
    go_wp2_with fail
    refine HB.out.mono ?_
    rintro e w2 ⟨rfl, ⟨h0, bk, W1, W2, hb1, hb2, hW1, ⟨_, F', qv, ev, p1, p2, p3, p4, p5, p6, p7, p8, p9, p10⟩, hc2⟩ | ⟨h0, F', q1, q2, q3, q4⟩⟩
    · rw [if_neg (by simpa using h0)] at hww
      subst hww
      have hzc := HC2.out.size
      have hz2 : ((w1.alloc (.cells #[.slice none 0 0] 45)).alloc (.cells #[.slice none 0 0] 45)).heap.size = w1.heap.size + 2 := by simp
      rw [hz2] at hb1
      have hzW := hW1.size
      rw [hz2] at hzW
      have hnk : ∀ q, q < w1.heap.size + 2 → q ∉ [bk] := fun q hq hm => by simp at hm; omega
      have r1 := p5.ch hc2 (hnk _ (by omega))
      have r2 := p6.ch hc2 (hnk _ (by omega))
      have r3 := p7.ch hc2 (fun q hq hm => by have := (p9 q hq).1; simp at hm; omega)
      have r4 := p8.ch hc2 (fun q hq hm => by have := (p10 q hq).1; simp at hm; omega)
      have hFk : ∀ q ∈ F', q ∉ [bk] := fun q hq hm => by
        simp at hm
        rcases p3 q hq with e | e
        · have := hFl q e; omega
        · omega
      have hG2 := p1.same hc2 hFk
      obtain ⟨qb, qc, rfl⟩ := row.parts r3 (by omega)
      obtain ⟨ea, ec, rfl⟩ := row.shape r4
      have hql : R.2.1.length = xl.length := by have := r3.1; simpa [refsCells] using this
      have hel : (R.2.2.take xl.length).length = xl.length := by have := r4.1; simpa [refsCells] using this
      have hrev := Revref_some r3 (by omega)
      have hqb := p9 qb rfl
      have d1 := r1.cell (i := 0) rfl
      have hqbn : qb ≠ w1.heap.size ∧ qb ≠ w1.heap.size + 1 := by have := hqb.1; constructor <;> omega
      have hc12 : Ch F w w2 := by
        have h1 := ((HC2.out.trans hW1 (by simp)).mono (F' := [w1.heap.size, w1.heap.size + 1] ++ F) (by simp)).trans p2 (fun q hq => .inl hq)
        have h2 := h1.trans hc2 (fun q hq => .inr (by simp at hq; omega))
        refine h2.mono (fun q hq => ?_)
        rcases List.mem_append.1 hq with e | e
        · right; simp at e; omega
        · exact .inl e
      have HREV := Lib.hid hrev; clear hrev
      have R1 := Lib.hid r1; clear r1
      have R2 := Lib.hid r2; clear r2
      have R4 := Lib.hid r4; clear r4 r3
      have HG2 := Lib.hid hG2; clear hG2
      have HC12 := Lib.hid hc12; clear hc12
      have P9 := Lib.hid p9; clear p9
      have P10 := Lib.hid p10; clear p10
      have P3 := Lib.hid p3; clear p3
      have P4 := Lib.hid p4; clear p4
      clear p1 p2 p5 p6 p7 p8 hc2 hFk
      rw [h0]
      go_wp2_with fail
      refine HREV.out.mono ?_
      rintro e w3 ⟨⟨v, rfl⟩, hr3, hc3⟩
      have e1 := (R1.out.ch hc3 (by simpa using fun e => hqbn.1 e.symm)).cell (i := 0) rfl
      have e2 := (R2.out.ch hc3 (by simpa using fun e => hqbn.2 e.symm)).cell (i := 0) rfl
      have hfin : GVV w g R.1.1 F (.slice (some ⟨qb, 0, none⟩) xl.length qc) R.2.1.reverse (.slice ea xl.length ec) (R.2.2.take xl.length) w3.drew := by
        have hcd : Ch [qb] w2 w3.drew := hc3.trans (Ch.refl [] _).drew (by simp)
        refine ⟨F', HG2.out.same hcd (fun q hq hm => hqb.2.1 (by simp at hm; rw [← hm]; exact hq)), HC12.out.trans hcd (fun q hq => .inr (by simp at hq; have := hqb.1; omega)), fun q hq => (P3.out q hq).imp id (fun e => by omega), P4.out, ?_, ?_, fun q hq => ?_, fun q hq => ?_⟩
        · rw [List.length_reverse, hql]
          exact hr3.ch (Ch.refl [] _).drew (by simp)
        · rw [hel]
          exact R4.out.ch hcd (fun q hq hm => by simp at hm; exact hqb.2.2 (by rw [← hm]; exact hq))
        · have := P9.out q hq
          exact ⟨by omega, this.2.1, this.2.2⟩
        · have := P10.out q hq
          exact ⟨by omega, this.2⟩
      have HFIN := Lib.hid hfin; clear hfin hr3 hc3
      go_wp2_with fail
      refine Ord.St.door (fun _ => True) [.rd, .rd, .fl, .fl, .fl] [0, 0, 1, 7, 15] [0, 1, 2, 3, 4] mixed (by kernel_rfl) rfl ?_
      refine Ord.St.rd2 (T' := ?_) 0 [1, 2, 3, 4] _ _ rfl (by kernel_rfl) rfl rfl rfl rfl (fun K hk => ?_) ?_
      rotate_left
      · go_step; exact hk
      refine Ord.St.rd2 (T' := ?_) 1 [2, 3, 4] _ _ rfl (by kernel_rfl) rfl rfl rfl rfl (fun K hk => ?_) ?_
      rotate_left
      · go_step; exact hk
      refine Ord.St.fl2 (T' := ?_) 2 [3, 4] _ _ rfl (by kernel_rfl) rfl rfl rfl rfl (fun K w' hk => ?_) ?_
      rotate_left
      · go_step; exact hk
      refine Ord.St.fl2 (T' := ?_) 3 [4] _ _ rfl (by kernel_rfl) rfl rfl rfl rfl (fun K w' hk => ?_) ?_
      rotate_left
      · go_step; exact hk
      refine Ord.St.fl2 (T' := ?_) 4 [] _ _ rfl (by kernel_rfl) rfl rfl rfl rfl (fun K w' hk => ?_) ?_
      rotate_left
      · go_step; exact hk
      refine Ord.St.nil ?_
      go_wp2_with fail
      go_ret3
      exact ⟨_, _, rfl, HFIN.out⟩
    · have he : ((R.1.2 : Int) != 0) = true := by simp; omega
      rw [if_pos h0] at hww
      subst hww
      have hzc := HC2.out.size
      have hgv : GVV w g G F (.slice none 0 0) [] (.slice none 0 0) [] w2 := by
        refine GVV.none q1 ((HC2.out.mono (by simp)).trans q2 (fun k hk => ?_)) (fun k hk => (q3 k hk).imp id (fun e => by omega)) q4
        rcases List.mem_append.1 hk with hk | hk
        · right; simp at hk; omega
        · exact .inl hk
      have HGV := Lib.hid hgv
      clear hgv q1 q2 q3 q4
      go_wp2_with fail
      go_ret3
      exact ⟨_, _, rfl, HGV.out⟩
  · have hq : ((cc : Int) != 0) = true := by simp; omega
    have hgv : GVV w g G F (.slice none 0 0) [] (.slice none 0 0) [] w1 := GVV.none (H.out.same hc01 (by simp)) (hc01.mono (by simp)) (fun k hk => .inl hk) rfl
    have HGV := Lib.hid hgv; clear hgv hc01 hbg hbx hby HX HY HCH HC
    have hww := HWW.out
    rw [if_pos hcc] at hww
    subst hww
    have HQ := Lib.hid hcc; clear hcc
    go_wp2_with fail
    go_ret3
    exact ⟨_, _, rfl, HGV.out⟩
end
end Go.Proofs.YtehljgigebhddaaGreat
namespace Go.Aig
/-- the product of a word and a constant -/
def timesG (G : Gra) (x : List Int) (n : Nat) : Gra × List Nat × Nat := if chk24 G [x] ≠ 0 then (G, [], chk24 G [x]) else mulG G x (natInts (constL n x.length))
theorem chk24_one {G : Gra} {x : List Int} (h : chk24 G [x] = 0) : 1 ≤ x.length ∧ x.length ≤ 16 ∧ natInts (nats x) = x ∧ ∀ r ∈ nats x, r < 2 * G.nodes.length := by
  unfold chk24 at h
  split at h
  · cases h
  · rename_i h1
    split at h
    · cases h
    · rename_i h2
      simp only [List.any_cons, List.any_nil, Bool.or_false, List.headD_cons, Bool.not_eq_true] at h1 h2
      have hx := badIn_no h2
      unfold bad24 at h1
      simp only [Bool.or_eq_false_iff, decide_eq_false_iff_not] at h1
      exact ⟨by omega, by omega, hx.1, hx.2⟩
end Go.Aig
namespace Go.Proofs.YtehljgigebhddaaGreat
open Go.RowKit Go.Mem Go.Aig
section
variable {w : World} {g : Nat} {G : Gra} {F : List Nat}
set_option maxRecDepth 100000 in
set_option maxHeartbeats 1000000 in
theorem mdDiv_is (h : GIn w g G F) {x y : WV} (hx : WVin w F x) (hy : WVin w F y) :
    Calls Tryz.prog 109 #[.pointer (some ⟨g, 0, none⟩), x.val, y.val] w fun e w' => ∃ v, e = .returned (.tuple #[v, .int .i64 (bothG G x.l y.l).2.2]) ∧ GVo w g (bothG G x.l y.l).1 [] F v (bothG G x.l y.l).2.1.1 w' := by
  have HB := mdBoth_is h hx hy
  generalize bothG G x.l y.l = R at *
  unfold WV.val at *
  clear h hx hy
  go_enter Tryz.func109, Tryz.ntmps109
  go_wp2_with fail
  refine HB.mono ?_
  rintro e w' ⟨v1, v2, rfl, F', g1, g2, g3, g4, g5, g6, g7, g8⟩
  have hgv : GVo w g R.1 [] F v1 R.2.1.1 w' := ⟨F', g1, by simpa using g2, g3, g4, g5, fun k hk => ⟨(g7 k hk).1, (g7 k hk).2.1⟩⟩
  obtain ⟨a1, c1, rfl⟩ := row.shape g5
  obtain ⟨a2, c2, rfl⟩ := row.shape g6
  have HV := Lib.hid hgv; clear hgv g1 g2 g3 g4 g5 g6 g7 g8
  go_wp2_with fail
  go_ret2
  exact ⟨_, rfl, HV.out⟩
set_option maxRecDepth 100000 in
set_option maxHeartbeats 1000000 in
theorem mdRem_is (h : GIn w g G F) {x y : WV} (hx : WVin w F x) (hy : WVin w F y) :
    Calls Tryz.prog 110 #[.pointer (some ⟨g, 0, none⟩), x.val, y.val] w fun e w' => ∃ v, e = .returned (.tuple #[v, .int .i64 (bothG G x.l y.l).2.2]) ∧ GVo w g (bothG G x.l y.l).1 [] F v (bothG G x.l y.l).2.1.2 w' := by
  have HB := mdBoth_is h hx hy
  generalize bothG G x.l y.l = R at *
  unfold WV.val at *
  clear h hx hy
  go_enter Tryz.func110, Tryz.ntmps110
  go_wp2_with fail
  refine HB.mono ?_
  rintro e w' ⟨v1, v2, rfl, F', g1, g2, g3, g4, g5, g6, g7, g8⟩
  have hgv : GVo w g R.1 [] F v2 R.2.1.2 w' := ⟨F', g1, by simpa using g2, g3, g4, g6, fun k hk => g8 k hk⟩
  obtain ⟨a1, c1, rfl⟩ := row.shape g5
  obtain ⟨a2, c2, rfl⟩ := row.shape g6
  have HV := Lib.hid hgv; clear hgv g1 g2 g3 g4 g5 g6 g7 g8
  go_wp2_with fail
  go_ret2
  exact ⟨_, rfl, HV.out⟩
set_option maxRecDepth 100000 in
set_option maxHeartbeats 1000000 in
theorem mdSquare_is (h : GIn w g G F) {x : WV} (hx : WVin w F x) (hxc : x.l.length ≤ x.c) :
    Calls Tryz.prog 111 #[.pointer (some ⟨g, 0, none⟩), x.val] w fun e w' => ∃ v, e = .returned (.tuple #[v, .int .i64 (mulG G x.l x.l).2.2]) ∧ GVo w g (mulG G x.l x.l).1 [] F v (mulG G x.l x.l).2.1 w' := by
  have HB := mdMul_is h hx hx hxc
  generalize mulG G x.l x.l = R at *
  unfold WV.val at *
  clear h hx
  go_enter Tryz.func111, Tryz.ntmps111
  go_wp2_with fail
  refine HB.mono ?_
  rintro e w' ⟨v, rfl, hgv⟩
  obtain ⟨va, vc, rfl⟩ : ∃ va vc, v = .slice va R.2.1.length vc := by
    obtain ⟨_, _, _, _, _, hr, _⟩ := hgv
    exact row.shape hr
  have HV := Lib.hid hgv; clear hgv
  go_wp2_with fail
  go_ret2
  exact ⟨_, rfl, HV.out⟩
set_option maxRecDepth 100000 in
set_option maxHeartbeats 2000000 in
theorem mdTimes_is (h : GIn w g G F) {x : WV} (hx : WVin w F x) (hxc : x.l.length ≤ x.c) (n : Nat) (hn : n < 4294967296) :
    Calls Tryz.prog 104 #[.pointer (some ⟨g, 0, none⟩), x.val, .int .u32 n] w fun e w' => ∃ v, e = .returned (.tuple #[v, .int .i64 (timesG G x.l n).2.2]) ∧ GVo w g (timesG G x.l n).1 [] F v (timesG G x.l n).2.1 w' := by
  have hFl := h.lt
  obtain ⟨xa, xl, xc⟩ := x
  simp only [WV.val] at *
  unfold timesG
  have hch := chk24_one (G := G) (x := xl)
  have hcs := chk24_small G [xl]
  generalize hc : chk24 G [xl] = cc at *
  have hC : ∀ W, Ch [] w W → ∀ b, blk W b [.slice xa xl.length xc] → Calls Tryz.prog 207 #[.pointer (some ⟨g, 0, none⟩), .slice (some ⟨b, 0, none⟩) 1 1] W fun e w' => e = .returned (.int .i64 cc) ∧ Ch [] W w' := fun W hW b hb => by
    have := mdcheck_is (h.same hW (by simp)) (b := b) (ws := [⟨xa, xl, xc⟩]) 1 1 rfl (by omega) (fun i z hz => by
      match i, hz with
      | 0, hz => cases hz; exact hb.cell rfl) (fun z hz => by
      simp only [List.mem_cons, List.not_mem_nil, or_false] at hz
      rcases hz with rfl
      exact (hx.ch hW).ok)
    rw [show ([⟨xa, xl, xc⟩] : List WV).map WV.l = [xl] from rfl, hc] at this
    exact this
  have HC := Lib.hid hC; clear hC
  have HX := Lib.hid hx; clear hx
  have H := Lib.hid h; clear h
  have HCH := Lib.hid hch; clear hch
  clear hc
  generalize hWW : (if cc ≠ 0 then (G, [], cc) else mulG G xl (natInts (constL n xl.length)) : Gra × List Nat × Nat) = WW
  have HWW := Lib.hid hWW; clear hWW
  go_enter Tryz.func104, Tryz.ntmps104
  go_wp2_with fail
  refine calls_named fun W0 hW0 => ?_
  have hc0 : Ch [] w W0 := by rw [hW0]; exact (Ch.refl _ _).alloc _
  have hbl : blk W0 w.heap.size [.slice xa xl.length xc] := by rw [hW0]; exact blk.new' _ _ (by simp)
  clear hW0
  refine (HC.out W0 hc0 _ hbl).mono ?_
  rintro e w1 ⟨rfl, hc1⟩
  have hc01 := hc0.trans hc1 (by simp)
  clear hbl hc0 hc1
  by_cases hcc : cc = 0
  · subst hcc
    obtain ⟨k1, k2, k3, k4⟩ := HCH.out rfl
    have hww := HWW.out
    rw [if_neg (by simp)] at hww
    have hrw : rightW (xl.length : Int) = true := by unfold rightW; simp; omega
    have hco := sConst_is (w := w1) n hn (xl.length : Int)
    rw [hrw] at hco
    simp only [if_true, Int.toNat_natCast] at hco
    have HCO := Lib.hid hco; clear hco
    have HC01 := Lib.hid hc01; clear hc01
    clear HC HCH HWW
    go_wp2_with fail
    refine HCO.out.mono ?_
    rintro e w2 ⟨v, rfl, hv1, hv2, hv3⟩
    have hcl : (refsCells (constL n xl.length)).length = xl.length := by simp [refsCells, constL]
    rw [hcl] at hv1
    obtain ⟨va, vc, rfl⟩ := row.shape hv1
    have hc02 := HC01.out.trans hv3 (by simp)
    have hz := HC01.out.size
    have hcnl : (constL n xl.length).length = xl.length := by simp [constL]
    have hyin : WVin w2 F ⟨va, natInts (constL n xl.length), vc⟩ := wv_of_row (by rw [hcnl]; exact hv1) hcnl (fun k hk hm => by have := hv2 k (by simp [hk]); have := hFl k hm; omega) (by omega) (fun r hr => by have := constL_le n xl.length r hr; omega)
    have hmul := mdMul_is (H.out.same hc02 (by simp)) (HX.out.ch hc02) hyin hxc
    simp only [WV.val, natInts_len, hcnl] at hmul
    rw [hww] at hmul
    have HMUL := Lib.hid hmul; clear hmul
    have HC02 := Lib.hid hc02; clear hc02 hv1 hv2 hv3 hyin
    go_wp2_with fail
    refine HMUL.out.mono ?_
    rintro e w3 ⟨v, rfl, hgv⟩
    obtain ⟨ua, uc, rfl⟩ : ∃ ua uc, v = .slice ua WW.2.1.length uc := by
      obtain ⟨_, _, _, _, _, hr, _⟩ := hgv
      exact row.shape hr
    have HV := Lib.hid (GVo.since HC02.out hgv); clear hgv
    go_wp2_with fail
    go_ret2
    exact ⟨_, rfl, HV.out⟩
  · have hq : ((cc : Int) != 0) = true := by simp; omega
    have hgv : GVo w g G [] F (.slice none 0 0) [] w1 := GVo.none H.out hc01
    have HGV := Lib.hid hgv; clear hgv hc01 HX HCH HC
    have hww := HWW.out
    rw [if_pos hcc] at hww
    subst hww
    have HQ := Lib.hid hcc; clear hcc
    go_wp2_with fail
    go_ret2
    exact ⟨_, rfl, HGV.out⟩
end
end Go.Proofs.YtehljgigebhddaaGreat
