/-
  Walks over the reference's states: step, And, Or, Xor, Mux, Any. Conditions: a graph that can be read, references of it.
  The reference's state functions between two steps (RSt), and what a step leaves (TS); no walk. Conditions: none beyond the hypotheses.
  Walks over the reference's functions of states that make words and references: Each, Lt, Input, Sum. Conditions: a graph that can be read, words of its references.
  Walks over the reference's Not, Check and Input of chapter 23. Conditions: a graph that can be read, words that can be read.
  Walks over the reference's Add, Sub, Neg, Ne, Eq, Le of chapter 23. Conditions: a graph that can be read, words of its references.
  What the acts of sums are, by the program and by the reference; walk over the laws' program. Conditions: a graph in memory, words of any integers.
  Walks over Same and Begin of chapter 23's laws: two graphs that are the same, and such ones that are made. Conditions: none beyond the hypotheses.
  Walk over Begin of chapter 23's laws: a graph, and the same one of the reference. Conditions: numbers in range.
  What do leaves; an act. Conditions: none beyond the hypotheses.
  Walk over the laws' act of chapter 23: the program and the reference do the same. Conditions: both graphs the same, an act that can be read.
  From a law's argument to what the walks say: a beginning (a struct by value), and acts of sums. Conditions: those of the given row.
  Walks over check and must of muldiv. Conditions: a graph in memory, words of any integers.
  Walks over build of muldiv: something is made as a whole, or it stops and the graph is as it was.
  Walk over made of chapter 23's law: what each operation makes of two words. Conditions: a graph in memory, words that are held.
  New words that are changed, or grown, before they are held. Conditions: none beyond the hypotheses.
  Walks over shifted of shifts: a word shifted by a number up to its width. Conditions: a word that can be read.
  Plain: one bit of a shift (a choice, bit by bit), shifts by a word; and append at a row inside a round of a range over a function. Conditions: none beyond the hypotheses.
  Products and quotients, plainly: one step after the other, until one fails. No program in sight. Conditions: none beyond the hypotheses.
  Walk over product of muldiv. Conditions: a graph in memory, two words of its references, of the same width.
  Walk over choose of muxes' maker: word by guard. Conditions: a maker in memory, a guard and two words of its graph.
  Walks over fit and is of muxes. Conditions: a maker in memory, a word of its graph.
  Sums, differences and comparisons of two words of one width, as parts of a product and of a quotient. Conditions: a graph in memory, words of its references.
  Walk over product of muldiv. Conditions: a graph in memory, two words of its references, of the same width.
  Walks over Mul of muldiv. Conditions: a graph in memory, two words of any integers.
  A range over a function whose iterator works on memory between its yields, and may panic there: the caller's law. The body goes on always.
  A range over a function whose BODY may panic, and so the iterator: the law for a function that is known (its frames' function has an entry in the program). The iterator works on memory.
  Walks over fitting of muxes: the iterator that makes whether a word is a number, number by number. Conditions: a maker in memory, a word of its graph.
  Walk over Read's closure of muxes. Conditions: a maker in memory, an array of words of its graph, an index.
  Walk over slices.Backward of references. Conditions: a slice that can be read.
  A list that is turned round by swaps, plainly. No program in sight. Conditions: none.
  Slices of references: the other way round, in memory, and backward by a function that yields, where what is yielded to works on memory. Conditions: a slice that can be read.
  The quotient and the rest of two words, plainly: one bit after the other, until a step fails. No program in sight. Conditions: none beyond the hypotheses.
  What is known while the quotient is made: the graph, one's own words, and what the loop outside keeps. Conditions: none beyond the hypotheses.
  Drawn regions in a round of a range over a function, where an effect may panic. Conditions: no defer in the region.
  A region in the text's order, in a round of a range over a function, under the widest fence: from the plain walk. Conditions: no defer in it.
-/
import Derived.Test.YtehljgigebhddaaGreatQC
import Derived.Deep.DeepCutAuto
import Derived.Deep.CutBlock
import Derived.Lib.SmallJoins
import Derived.Recover
import Derived.OwnWalkIn
import Derived.RangeFuncLeaves
import Derived.TacticsIn
namespace Go.Proofs.YtehljgigebhddaaGreat
open Go.RowKit Go.Mem Go.Aig
/-- what a function of the reference's states leaves: a state, and a reference -/
def STo (w : World) (rb : Nat) (R : Mk × Nat) (e : Ending) (w' : World) : Prop := ∃ rb' cap', e = .returned (.tuple #[.agg #[.int .i64 R.1.1.most, .slice (some ⟨rb', 0, none⟩) R.1.1.nodes.length cap', .int .i64 R.1.2], .int .i64 R.2]) ∧ RG w' rb' cap' R.1.1 ∧ Ch [] w w' ∧ (rb' = rb ∨ w.heap.size ≤ rb')
theorem set3_ch {w W : World} {b : Nat} {u v x : Value} (h : W = ((w.setCell ⟨b, 0, none⟩ u).setCell ⟨b, 1, none⟩ v).setCell ⟨b, 2, none⟩ x) : Ch [b] w W := by rw [h]; exact (((Ch.refl [b] _).setCell (by simp) _).setCell (by simp) _).setCell (by simp) _
section
set_option maxRecDepth 100000 in
set_option maxHeartbeats 2000000 in
theorem r23step_is {w : World} {rb cap q : Nat} {G : Gra} (h : RG w rb cap G) {rb2 cap2 : Nat} {G2 : Gra} (h2 : RG w rb2 cap2 G2) (r e : Nat) :
    Calls Tryz.prog 347 #[.agg #[.int .i64 G.most, .slice (some ⟨rb, 0, none⟩) G.nodes.length cap, .int .i64 q], .agg #[.int .i64 G2.most, .slice (some ⟨rb2, 0, none⟩) G2.nodes.length cap2], .int .i64 r, .int .i64 e] w fun en w' => ∃ rb' cap', en = .returned (.tuple #[.agg #[.int .i64 (rstep (G, q) (G2, r, e)).1.1.most, .slice (some ⟨rb', 0, none⟩) (rstep (G, q) (G2, r, e)).1.1.nodes.length cap', .int .i64 (rstep (G, q) (G2, r, e)).1.2], .int .i64 (rstep (G, q) (G2, r, e)).2]) ∧ RG w' rb' cap' (rstep (G, q) (G2, r, e)).1.1 ∧ Ch [] w w' ∧ (rb' = rb ∨ rb' = rb2) := by
  have HH := Lib.hid h
  have HH2 := Lib.hid h2
  by_cases hq : q = 0
  · subst hq
    by_cases he : e = 0
    · subst he
      rw [rstep_ok (s := (G, 0)) (R := (G2, r, 0)) rfl rfl]
      clear h h2
      go_enter Tryz.func347, Tryz.ntmps347
      go_wp2_with fail
      refine bodyPost_ret (v := .tuple #[.agg #[.int .i64 G2.most, .slice (some ⟨rb2, 0, none⟩) G2.nodes.length cap2, .int .i64 0], .int .i64 r]) (by simp [results, Tryz.results347, go_sem]) rfl ?_
      refine (fun hc : Ch [] w _ => ⟨rb2, cap2, rfl, HH2.out.ch hc (by simp), hc, .inr rfl⟩) ?_
      repeat (first | exact Ch.refl _ _ | refine Ch.alloc ?_ _ | refine Ch.setCell ?_ (.inr (by simp <;> omega)) _)
    · have d : ((e : Int) != 0) = true := by simp [he]
      rw [rstep_no (s := (G, 0)) (R := (G2, r, e)) rfl he]
      clear h h2 he
      go_enter Tryz.func347, Tryz.ntmps347
      go_wp2_with fail
      refine bodyPost_ret (v := .tuple #[.agg #[.int .i64 G.most, .slice (some ⟨rb, 0, none⟩) G.nodes.length cap, .int .i64 e], .int .i64 0]) (by simp [results, Tryz.results347, go_sem]) rfl ?_
      refine (fun hc : Ch [] w _ => ⟨rb, cap, rfl, HH.out.ch hc (by simp), hc, .inl rfl⟩) ?_
      repeat (first | exact Ch.refl _ _ | refine Ch.alloc ?_ _ | refine Ch.setCell ?_ (.inr (by simp <;> omega)) _)
  · have d : ((q : Int) != 0) = true := by simp [hq]
    have d2 : ((q : Int) == 0) = false := by simp [hq]
    rw [rstep_bad (s := (G, q)) hq]
    clear h h2 hq
    go_enter Tryz.func347, Tryz.ntmps347
    go_wp2_with fail
    refine bodyPost_ret (v := .tuple #[.agg #[.int .i64 G.most, .slice (some ⟨rb, 0, none⟩) G.nodes.length cap, .int .i64 q], .int .i64 0]) (by simp [results, Tryz.results347, go_sem]) rfl ?_
    refine (fun hc : Ch [] w _ => ⟨rb, cap, rfl, HH.out.ch hc (by simp), hc, .inl rfl⟩) ?_
    repeat (first | exact Ch.refl _ _ | refine Ch.alloc ?_ _ | refine Ch.setCell ?_ (.inr (by simp <;> omega)) _)
set_option maxRecDepth 100000 in
set_option maxHeartbeats 2000000 in
theorem r23And_is {w : World} {rb cap q : Nat} {G : Gra} (h : RG w rb cap G) {a b : Nat} (ha : a < 2 * G.nodes.length) (hb : b < 2 * G.nodes.length) :
    Calls Tryz.prog 333 #[.agg #[.int .i64 G.most, .slice (some ⟨rb, 0, none⟩) G.nodes.length cap, .int .i64 q], .int .i64 a, .int .i64 b] w (STo w rb (rstep (G, q) (and G a b))) := by
  have hrb := h.lt
  have hA := fun (W : World) (hc : Ch [] w W) => rAnd_is (h.ch hc (by simp)) ha hb
  generalize and G a b = X at *
  obtain ⟨G1, r1, e1⟩ := X
  have HA := Lib.hid hA; clear hA
  have H := Lib.hid h; clear h ha hb
  go_enter Tryz.func333, Tryz.ntmps333
  go_wp2_with fail
  refine calls_named fun W hW => ?_
  have b3 : blk W w.heap.size [.int .i64 G.most, .slice (some ⟨rb, 0, none⟩) G.nodes.length cap, .int .i64 q] := by rw [hW]; exact (blk.new' _ _ (by simp)).alloc _
  have b6 : blk W (w.heap.size + 1) [.int .i64 0, .slice none 0 0, .int .i64 0] := by rw [hW]; exact blk.new' _ _ (by simp)
  have hc : Ch [] w W := by rw [hW]; exact ((Ch.refl _ _).alloc _).alloc _
  clear hW
  refine (HA.out W hc).mono ?_
  rintro e w1 ⟨rb1, cap1, rfl, hrg1, hch1, hfr1⟩
  have hz := b6.lt
  have b3 := b3.ch hch1 (by simp)
  have b6 := b6.ch hch1 (by simp)
  have hz1 := b6.lt
  have hz0 := b3.lt
  have x0 := b3.cell (i := 0) rfl
  have x1 := b3.cell (i := 1) rfl
  have x2 := b3.cell (i := 2) rfl
  have hc1 := hc.trans hch1 (by simp)
  have B6 := Lib.hid b6; clear b6 b3
  have HC1 := Lib.hid hc1; clear hc1
  have HRG1 := Lib.hid hrg1; clear hrg1
  have hne : rb1 ≠ w.heap.size + 1 := by rcases hfr1 with e | e <;> omega
  have hfr2 : rb1 = rb ∨ w.heap.size ≤ rb1 := by have := hc.size; rcases hfr1 with e | e <;> omega
  clear hch1 hc HA hfr1
  go_wp2_with fail
  refine calls_named fun W2 hW2 => ?_
  have hc2 : Ch [] w1 W2 := by rw [hW2]; exact (Ch.refl _ _).alloc _
  clear hW2
  have hS := r23step_is (q := q) (H.out.ch (HC1.out.trans hc2 (by simp)) (by simp)) (HRG1.out.ch hc2 (by simp)) r1 e1
  refine hS.mono ?_
  rintro e w2 ⟨rb', cap', rfl, hrg', hch', hfr'⟩
  generalize rstep (G, q) (G1, r1, e1) = R at *
  have b6 := (B6.out.ch hc2 (by simp)).ch hch' (by simp)
  have z0 := b6.cell (i := 0) rfl
  have z1 := b6.cell (i := 1) rfl
  have z2 := b6.cell (i := 2) rfl
  have f0 := b6.frozen (i := 0)
  have f1 := b6.frozen (i := 1)
  have f2 := b6.frozen (i := 2)
  have HC2 := Lib.hid ((HC1.out.trans hc2 (by simp)).trans hch' (by simp))
  have HRG' := Lib.hid hrg'; clear hrg' hch' hc2 hS b6 B6 HC1 HRG1 x0 x1 x2
  go_wp2_with fail
  have hcc := set3_ch (w := w2) (b := w.heap.size + 1) (u := .int .i64 R.1.1.most) (v := .slice (some ⟨rb', 0, none⟩) R.1.1.nodes.length cap') (x := .int .i64 R.1.2) rfl
  refine bodyPost_ret (v := .tuple #[.agg #[.int .i64 R.1.1.most, .slice (some ⟨rb', 0, none⟩) R.1.1.nodes.length cap', .int .i64 R.1.2], .int .i64 R.2]) (by simp [results, Tryz.results333, go_sem, z0, z1, z2]) rfl ?_
  exact ⟨rb', cap', rfl, HRG'.out.ch hcc (by simp; rcases hfr' with e | e <;> omega), HC2.out.trans hcc (fun k hk => .inr (by simp at hk; omega)), by rcases hfr' with e | e <;> omega⟩
set_option maxRecDepth 100000 in
set_option maxHeartbeats 2000000 in
theorem r23Or_is {w : World} {rb cap q : Nat} {G : Gra} (h : RG w rb cap G) {a b : Nat} (ha : a < 2 * G.nodes.length) (hb : b < 2 * G.nodes.length) :
    Calls Tryz.prog 356 #[.agg #[.int .i64 G.most, .slice (some ⟨rb, 0, none⟩) G.nodes.length cap, .int .i64 q], .int .i64 a, .int .i64 b] w (STo w rb (rstep (G, q) (rOr G a b))) := by
  have hrb := h.lt
  have hA := fun (W : World) (hc : Ch [] w W) => rOr_is (h.ch hc (by simp)) ha hb
  generalize rOr G a b = X at *
  obtain ⟨G1, r1, e1⟩ := X
  have HA := Lib.hid hA; clear hA
  have H := Lib.hid h; clear h ha hb
  go_enter Tryz.func356, Tryz.ntmps356
  go_wp2_with fail
  refine calls_named fun W hW => ?_
  have b3 : blk W w.heap.size [.int .i64 G.most, .slice (some ⟨rb, 0, none⟩) G.nodes.length cap, .int .i64 q] := by rw [hW]; exact (blk.new' _ _ (by simp)).alloc _
  have b6 : blk W (w.heap.size + 1) [.int .i64 0, .slice none 0 0, .int .i64 0] := by rw [hW]; exact blk.new' _ _ (by simp)
  have hc : Ch [] w W := by rw [hW]; exact ((Ch.refl _ _).alloc _).alloc _
  clear hW
  refine (HA.out W hc).mono ?_
  rintro e w1 ⟨rb1, cap1, rfl, hrg1, hch1, hfr1⟩
  have hz := b6.lt
  have b3 := b3.ch hch1 (by simp)
  have b6 := b6.ch hch1 (by simp)
  have hz1 := b6.lt
  have hz0 := b3.lt
  have x0 := b3.cell (i := 0) rfl
  have x1 := b3.cell (i := 1) rfl
  have x2 := b3.cell (i := 2) rfl
  have hc1 := hc.trans hch1 (by simp)
  have B6 := Lib.hid b6; clear b6 b3
  have HC1 := Lib.hid hc1; clear hc1
  have HRG1 := Lib.hid hrg1; clear hrg1
  have hne : rb1 ≠ w.heap.size + 1 := by rcases hfr1 with e | e <;> omega
  have hfr2 : rb1 = rb ∨ w.heap.size ≤ rb1 := by have := hc.size; rcases hfr1 with e | e <;> omega
  clear hch1 hc HA hfr1
  go_wp2_with fail
  refine calls_named fun W2 hW2 => ?_
  have hc2 : Ch [] w1 W2 := by rw [hW2]; exact (Ch.refl _ _).alloc _
  clear hW2
  have hS := r23step_is (q := q) (H.out.ch (HC1.out.trans hc2 (by simp)) (by simp)) (HRG1.out.ch hc2 (by simp)) r1 e1
  refine hS.mono ?_
  rintro e w2 ⟨rb', cap', rfl, hrg', hch', hfr'⟩
  generalize rstep (G, q) (G1, r1, e1) = R at *
  have b6 := (B6.out.ch hc2 (by simp)).ch hch' (by simp)
  have z0 := b6.cell (i := 0) rfl
  have z1 := b6.cell (i := 1) rfl
  have z2 := b6.cell (i := 2) rfl
  have f0 := b6.frozen (i := 0)
  have f1 := b6.frozen (i := 1)
  have f2 := b6.frozen (i := 2)
  have HC2 := Lib.hid ((HC1.out.trans hc2 (by simp)).trans hch' (by simp))
  have HRG' := Lib.hid hrg'; clear hrg' hch' hc2 hS b6 B6 HC1 HRG1 x0 x1 x2
  go_wp2_with fail
  have hcc := set3_ch (w := w2) (b := w.heap.size + 1) (u := .int .i64 R.1.1.most) (v := .slice (some ⟨rb', 0, none⟩) R.1.1.nodes.length cap') (x := .int .i64 R.1.2) rfl
  refine bodyPost_ret (v := .tuple #[.agg #[.int .i64 R.1.1.most, .slice (some ⟨rb', 0, none⟩) R.1.1.nodes.length cap', .int .i64 R.1.2], .int .i64 R.2]) (by simp [results, Tryz.results356, go_sem, z0, z1, z2]) rfl ?_
  exact ⟨rb', cap', rfl, HRG'.out.ch hcc (by simp; rcases hfr' with e | e <;> omega), HC2.out.trans hcc (fun k hk => .inr (by simp at hk; omega)), by rcases hfr' with e | e <;> omega⟩
set_option maxRecDepth 100000 in
set_option maxHeartbeats 2000000 in
theorem r23Xor_is {w : World} {rb cap q : Nat} {G : Gra} (h : RG w rb cap G) {a b : Nat} (ha : a < 2 * G.nodes.length) (hb : b < 2 * G.nodes.length) :
    Calls Tryz.prog 343 #[.agg #[.int .i64 G.most, .slice (some ⟨rb, 0, none⟩) G.nodes.length cap, .int .i64 q], .int .i64 a, .int .i64 b] w (STo w rb (rstep (G, q) (rXor G a b))) := by
  have hrb := h.lt
  have hA := fun (W : World) (hc : Ch [] w W) => rXor_is (h.ch hc (by simp)) ha hb
  generalize rXor G a b = X at *
  obtain ⟨G1, r1, e1⟩ := X
  have HA := Lib.hid hA; clear hA
  have H := Lib.hid h; clear h ha hb
  go_enter Tryz.func343, Tryz.ntmps343
  go_wp2_with fail
  refine calls_named fun W hW => ?_
  have b3 : blk W w.heap.size [.int .i64 G.most, .slice (some ⟨rb, 0, none⟩) G.nodes.length cap, .int .i64 q] := by rw [hW]; exact (blk.new' _ _ (by simp)).alloc _
  have b6 : blk W (w.heap.size + 1) [.int .i64 0, .slice none 0 0, .int .i64 0] := by rw [hW]; exact blk.new' _ _ (by simp)
  have hc : Ch [] w W := by rw [hW]; exact ((Ch.refl _ _).alloc _).alloc _
  clear hW
  refine (HA.out W hc).mono ?_
  rintro e w1 ⟨rb1, cap1, rfl, hrg1, hch1, hfr1⟩
  have hz := b6.lt
  have b3 := b3.ch hch1 (by simp)
  have b6 := b6.ch hch1 (by simp)
  have hz1 := b6.lt
  have hz0 := b3.lt
  have x0 := b3.cell (i := 0) rfl
  have x1 := b3.cell (i := 1) rfl
  have x2 := b3.cell (i := 2) rfl
  have hc1 := hc.trans hch1 (by simp)
  have B6 := Lib.hid b6; clear b6 b3
  have HC1 := Lib.hid hc1; clear hc1
  have HRG1 := Lib.hid hrg1; clear hrg1
  have hne : rb1 ≠ w.heap.size + 1 := by rcases hfr1 with e | e <;> omega
  have hfr2 : rb1 = rb ∨ w.heap.size ≤ rb1 := by have := hc.size; rcases hfr1 with e | e <;> omega
  clear hch1 hc HA hfr1
  go_wp2_with fail
  refine calls_named fun W2 hW2 => ?_
  have hc2 : Ch [] w1 W2 := by rw [hW2]; exact (Ch.refl _ _).alloc _
  clear hW2
  have hS := r23step_is (q := q) (H.out.ch (HC1.out.trans hc2 (by simp)) (by simp)) (HRG1.out.ch hc2 (by simp)) r1 e1
  refine hS.mono ?_
  rintro e w2 ⟨rb', cap', rfl, hrg', hch', hfr'⟩
  generalize rstep (G, q) (G1, r1, e1) = R at *
  have b6 := (B6.out.ch hc2 (by simp)).ch hch' (by simp)
  have z0 := b6.cell (i := 0) rfl
  have z1 := b6.cell (i := 1) rfl
  have z2 := b6.cell (i := 2) rfl
  have f0 := b6.frozen (i := 0)
  have f1 := b6.frozen (i := 1)
  have f2 := b6.frozen (i := 2)
  have HC2 := Lib.hid ((HC1.out.trans hc2 (by simp)).trans hch' (by simp))
  have HRG' := Lib.hid hrg'; clear hrg' hch' hc2 hS b6 B6 HC1 HRG1 x0 x1 x2
  go_wp2_with fail
  have hcc := set3_ch (w := w2) (b := w.heap.size + 1) (u := .int .i64 R.1.1.most) (v := .slice (some ⟨rb', 0, none⟩) R.1.1.nodes.length cap') (x := .int .i64 R.1.2) rfl
  refine bodyPost_ret (v := .tuple #[.agg #[.int .i64 R.1.1.most, .slice (some ⟨rb', 0, none⟩) R.1.1.nodes.length cap', .int .i64 R.1.2], .int .i64 R.2]) (by simp [results, Tryz.results343, go_sem, z0, z1, z2]) rfl ?_
  exact ⟨rb', cap', rfl, HRG'.out.ch hcc (by simp; rcases hfr' with e | e <;> omega), HC2.out.trans hcc (fun k hk => .inr (by simp at hk; omega)), by rcases hfr' with e | e <;> omega⟩
set_option maxRecDepth 100000 in
set_option maxHeartbeats 2000000 in
theorem r23Mux_is {w : World} {rb cap q : Nat} {G : Gra} (h : RG w rb cap G) {c a b : Nat} (hc : c < 2 * G.nodes.length) (ha : a < 2 * G.nodes.length) (hb : b < 2 * G.nodes.length) :
    Calls Tryz.prog 332 #[.agg #[.int .i64 G.most, .slice (some ⟨rb, 0, none⟩) G.nodes.length cap, .int .i64 q], .int .i64 c, .int .i64 a, .int .i64 b] w (STo w rb (rstep (G, q) (rMux G c a b))) := by
  have hrb := h.lt
  have hA := fun (W : World) (h0 : Ch [] w W) => rMux_is (h.ch h0 (by simp)) hc ha hb
  generalize rMux G c a b = X at *
  obtain ⟨G1, r1, e1⟩ := X
  have HA := Lib.hid hA; clear hA
  have H := Lib.hid h; clear h hc ha hb
  go_enter Tryz.func332, Tryz.ntmps332
  go_wp2_with fail
  refine calls_named fun W hW => ?_
  have b3 : blk W w.heap.size [.int .i64 G.most, .slice (some ⟨rb, 0, none⟩) G.nodes.length cap, .int .i64 q] := by rw [hW]; exact (blk.new' _ _ (by simp)).alloc _
  have b6 : blk W (w.heap.size + 1) [.int .i64 0, .slice none 0 0, .int .i64 0] := by rw [hW]; exact blk.new' _ _ (by simp)
  have hc : Ch [] w W := by rw [hW]; exact ((Ch.refl _ _).alloc _).alloc _
  clear hW
  refine (HA.out W hc).mono ?_
  rintro e w1 ⟨rb1, cap1, rfl, hrg1, hch1, hfr1⟩
  have hz := b6.lt
  have b3 := b3.ch hch1 (by simp)
  have b6 := b6.ch hch1 (by simp)
  have hz1 := b6.lt
  have hz0 := b3.lt
  have x0 := b3.cell (i := 0) rfl
  have x1 := b3.cell (i := 1) rfl
  have x2 := b3.cell (i := 2) rfl
  have hc1 := hc.trans hch1 (by simp)
  have B6 := Lib.hid b6; clear b6 b3
  have HC1 := Lib.hid hc1; clear hc1
  have HRG1 := Lib.hid hrg1; clear hrg1
  have hne : rb1 ≠ w.heap.size + 1 := by rcases hfr1 with e | e <;> omega
  have hfr2 : rb1 = rb ∨ w.heap.size ≤ rb1 := by have := hc.size; rcases hfr1 with e | e <;> omega
  clear hch1 hc HA hfr1
  go_wp2_with fail
  refine calls_named fun W2 hW2 => ?_
  have hc2 : Ch [] w1 W2 := by rw [hW2]; exact (Ch.refl _ _).alloc _
  clear hW2
  have hS := r23step_is (q := q) (H.out.ch (HC1.out.trans hc2 (by simp)) (by simp)) (HRG1.out.ch hc2 (by simp)) r1 e1
  refine hS.mono ?_
  rintro e w2 ⟨rb', cap', rfl, hrg', hch', hfr'⟩
  generalize rstep (G, q) (G1, r1, e1) = R at *
  have b6 := (B6.out.ch hc2 (by simp)).ch hch' (by simp)
  have z0 := b6.cell (i := 0) rfl
  have z1 := b6.cell (i := 1) rfl
  have z2 := b6.cell (i := 2) rfl
  have f0 := b6.frozen (i := 0)
  have f1 := b6.frozen (i := 1)
  have f2 := b6.frozen (i := 2)
  have HC2 := Lib.hid ((HC1.out.trans hc2 (by simp)).trans hch' (by simp))
  have HRG' := Lib.hid hrg'; clear hrg' hch' hc2 hS b6 B6 HC1 HRG1 x0 x1 x2
  go_wp2_with fail
  have hcc := set3_ch (w := w2) (b := w.heap.size + 1) (u := .int .i64 R.1.1.most) (v := .slice (some ⟨rb', 0, none⟩) R.1.1.nodes.length cap') (x := .int .i64 R.1.2) rfl
  refine bodyPost_ret (v := .tuple #[.agg #[.int .i64 R.1.1.most, .slice (some ⟨rb', 0, none⟩) R.1.1.nodes.length cap', .int .i64 R.1.2], .int .i64 R.2]) (by simp [results, Tryz.results332, go_sem, z0, z1, z2]) rfl ?_
  exact ⟨rb', cap', rfl, HRG'.out.ch hcc (by simp; rcases hfr' with e | e <;> omega), HC2.out.trans hcc (fun k hk => .inr (by simp at hk; omega)), by rcases hfr' with e | e <;> omega⟩
end
end Go.Proofs.YtehljgigebhddaaGreat
namespace Go.Aig
theorem eachF_sok' {G : Gra} {s : Mk} (hs : SOk G s) {f : Gra → Nat → Nat → Res} (hf : Full2 f) (l : List (Nat × Nat)) (hl : ∀ p ∈ l, p.1 < 2 * s.1.nodes.length ∧ p.2 < 2 * s.1.nodes.length) : LOk s.1 (eachF (rop f) s l) := by
  have : ∀ (l : List (Nat × Nat)) (q : Mk × List Nat), LOk s.1 q → (∀ p ∈ l, p.1 < 2 * s.1.nodes.length ∧ p.2 < 2 * s.1.nodes.length) → LOk s.1 (l.foldl (eachS (rop f)) q) := by
    intro l
    induction l with
    | nil => intro q h _; exact h
    | cons p l ih =>
      intro q h hl
      obtain ⟨h1, h2⟩ := hl p (List.mem_cons_self ..)
      obtain ⟨k1, k2, k3⟩ := rstep_sok h.s (Y := f q.1.1 p.1 p.2) (fun _ => hf q.1.1 h.s.ok p.1 p.2 (h.s.ext.lt h1) (h.s.ext.lt h2))
      exact ih _ (LOk.snoc h k1 k3 k2) (fun p hp => hl p (List.mem_cons_of_mem _ hp))
  exact this l _ ⟨⟨hs.ok, .refl _, hs.err⟩, by simp⟩ hl
theorem eachF_len' (op : Mk → Nat → Nat → Mk × Nat) (s : Mk) (l : List (Nat × Nat)) : (eachF op s l).2.length = l.length := by
  have : ∀ (l : List (Nat × Nat)) (q : Mk × List Nat), (l.foldl (eachS op) q).2.length = q.2.length + l.length := by
    intro l
    induction l with
    | nil => intro q; rfl
    | cons p l ih => intro q; rw [List.foldl_cons, ih]; simp [eachS]; omega
  have h := this l (s, [])
  rw [List.length_nil, Nat.zero_add] at h
  exact h
end Go.Aig
namespace Go.Proofs.YtehljgigebhddaaGreat
open Go.RowKit Go.Mem Go.Aig
theorem natInts_snoc' (l : List Nat) (r : Nat) : intCells (natInts (l ++ [r])) = intCells (natInts l) ++ [.int .i64 r] := by simp [intCells, natInts]
theorem sl_lt' {w : World} {a : Option Addr} {l : List Int} (h : Sl w a l) (h0 : 0 < l.length) : ∀ p, a = some p → p.block < w.heap.size := fun p hp => by
  obtain ⟨b, o, e, hc⟩ := h.cells 0 _ (List.getElem?_eq_getElem h0)
  rw [hp] at e; cases e
  exact cell_lt hc
theorem set3_blk {w W : World} {b : Nat} {c0 c1 c2 u v x : Value} (h : blk w b [c0, c1, c2]) (hW : W = ((w.setCell ⟨b, 0, none⟩ u).setCell ⟨b, 1, none⟩ v).setCell ⟨b, 2, none⟩ x) : blk W b [u, v, x] := by
  rw [hW]; exact ((h.set (i := 0) _).set (i := 1) _).set (i := 2) _
/-- a function of the reference's states between two steps: its state lies in the block of its parameter; the word that it makes -/
structure RSt (w W : World) (rb0 rb cap : Nat) (s : Mk) (v : Value) (l : List Nat) : Prop where
  ch : Ch [] w W
  rg : RG W rb cap s.1
  fr : rb = rb0 ∨ w.heap.size + 2 ≤ rb
  b4 : blk W w.heap.size [.int .i64 s.1.most, .slice (some ⟨rb, 0, none⟩) s.1.nodes.length cap, .int .i64 s.2]
  b8 : blk W (w.heap.size + 1) [.int .i64 0, .slice none 0 0, .int .i64 0]
  rw : row W 3 1 v l.length (intCells (natInts l))
  own : ∀ q, v.ownBlock = some q → w.heap.size + 2 ≤ q ∧ q ≠ rb
  low : rb0 < w.heap.size
theorem RSt.start {w W : World} {rb cap : Nat} {G : Gra} {q : Nat} (h : RG w rb cap G) {o : Obj} (hW : W = (w.alloc o).alloc (.cells #[.int .i64 0, .slice none 0 0, .int .i64 0] 214)) (ho : o = .cells #[.int .i64 G.most, .slice (some ⟨rb, 0, none⟩) G.nodes.length cap, .int .i64 q] 214) : RSt w W rb rb cap (G, q) (.slice none 0 0) [] := by
  subst ho
  have hc : Ch [] w W := by rw [hW]; exact ((Ch.refl _ _).alloc _).alloc _
  refine ⟨hc, h.ch hc (by simp), .inl rfl, by rw [hW]; exact (blk.new' _ _ rfl).alloc _, by rw [hW]; exact blk.new' _ _ (by simp), ⟨rfl, .inl ⟨rfl, rfl⟩⟩, by simp [Value.ownBlock], h.lt⟩
section
variable {w W W' : World} {rb0 rb cap : Nat} {s : Mk} {v : Value} {l : List Nat}
theorem RSt.same (h : RSt w W rb0 rb cap s v l) (hc : Ch [] W W') : RSt w W' rb0 rb cap s v l :=
  ⟨h.ch.trans hc (by simp), h.rg.ch hc (by simp), h.fr, h.b4.ch hc (by simp), h.b8.ch hc (by simp), h.rw.ch hc (by simp), h.own, h.low⟩
theorem RSt.lt (h : RSt w W rb0 rb cap s v l) : w.heap.size + 2 ≤ W.heap.size := h.b8.lt
theorem RSt.put {Wb : World} {rb' cap' q' : Nat} {G' : Gra} (h : RSt w Wb rb0 rb cap s v l) (hc : Ch [] Wb W) (hr : RG W rb' cap' G') (hf : rb' = rb ∨ Wb.heap.size ≤ rb')
    (hW : W' = ((W.setCell ⟨w.heap.size, 0, none⟩ (.int .i64 G'.most)).setCell ⟨w.heap.size, 1, none⟩ (.slice (some ⟨rb', 0, none⟩) G'.nodes.length cap')).setCell ⟨w.heap.size, 2, none⟩ (.int .i64 q')) : RSt w W' rb0 rb' cap' (G', q') v l := by
  have hcs := set3_ch hW
  have hlo := h.lt
  have hfr := h.fr
  have hl0 := h.low
  refine ⟨(h.ch.trans hc (by simp)).trans hcs (fun k hk => .inr (by simp at hk; omega)), hr.ch hcs (by simp; rcases hf with e | e <;> omega), by rcases hf with e | e <;> omega, set3_blk (h.b4.ch hc (by simp)) hW, (h.b8.ch hc (by simp)).ch hcs (by simp), (h.rw.ch hc (by simp)).ch hcs (fun k hk => by have := (h.own k hk).1; simp; omega), fun q hq => ⟨(h.own q hq).1, ?_⟩, hl0⟩
  have h1 := (h.own q hq).2
  have h2 := (h.rw.lt q hq).2
  rcases hf with e | e <;> omega
theorem RSt.app {na : Option Addr} {nc r : Nat} {o : Obj} {wz : World} {v' : Value} (h : RSt w W rb0 rb cap s (.slice na l.length nc) l) (hrow : row wz 3 1 v' (l.length + 1) (intCells (natInts l) ++ [.int .i64 r]))
    (hc : Ch (Value.slice na l.length nc).ownBlock.toList (W.alloc o) wz) (hf : ∀ k, v'.ownBlock = some k → (Value.slice na l.length nc).ownBlock = some k ∨ (W.alloc o).heap.size ≤ k) : RSt w wz rb0 rb cap s v' (l ++ [r]) := by
  have hcA : Ch [] W (W.alloc o) := (Ch.refl _ _).alloc _
  have hA := h.same hcA
  have hlo := h.lt
  have hown : ∀ k ∈ (Value.slice na l.length nc).ownBlock.toList, w.heap.size + 2 ≤ k ∧ k ≠ rb := fun k hk => h.own k (by simpa using hk)
  have hz := hcA.size
  have hzz := hc.size
  have hrl := h.rg.lt
  refine ⟨hA.ch.trans hc (fun k hk => .inr (by have := hown k hk; omega)), hA.rg.ch hc (fun hk => (hown _ hk).2 rfl), h.fr, hA.b4.ch hc (fun hk => by have := hown _ hk; omega), hA.b8.ch hc (fun hk => by have := hown _ hk; omega), ?_, fun q hq => ?_, h.low⟩
  · rw [natInts_snoc', List.length_append]; exact hrow
  · rcases hf q hq with e | e
    · exact h.own q e
    · exact ⟨by omega, by omega⟩
end
/-- what a call and a store behind it leave: a state in a block of its own, and a reference -/
def TS (wr wd : World) (rbk : Nat) (R : Mk × Nat) (p q : Value) : Prop := ∃ rb' cap' b9, p = .pointer (some ⟨b9, 0, none⟩) ∧ q = .int .i64 R.2 ∧ Ch [] wr wd ∧ RG wd rb' cap' R.1.1 ∧ (rb' = rbk ∨ wr.heap.size ≤ rb') ∧
  blk wd b9 [.int .i64 R.1.1.most, .slice (some ⟨rb', 0, none⟩) R.1.1.nodes.length cap', .int .i64 R.1.2] ∧ wr.heap.size ≤ b9
theorem TS.mk {wr W W8 : World} {rbk : Nat} {R : Mk × Nat} {rb' cap' b9 : Nat} {c0 c1 c2 : Value} (hc : Ch [] wr W) (hr : RG W rb' cap' R.1.1) (hf : rb' = rbk ∨ wr.heap.size ≤ rb') (hb : blk W b9 [c0, c1, c2]) (hlo : wr.heap.size ≤ b9) (hne : rb' ≠ b9)
    (hW : W8 = ((W.setCell ⟨b9, 0, none⟩ (.int .i64 R.1.1.most)).setCell ⟨b9, 1, none⟩ (.slice (some ⟨rb', 0, none⟩) R.1.1.nodes.length cap')).setCell ⟨b9, 2, none⟩ (.int .i64 R.1.2)) :
    TS wr W8 rbk R (.pointer (some ⟨b9, 0, none⟩)) (.int .i64 R.2) := by
  have hcs := set3_ch hW
  exact ⟨rb', cap', b9, rfl, rfl, hc.trans hcs (fun k hk => .inr (by simp at hk; omega)), hr.ch hcs (by simpa using hne), hf, set3_blk hb hW, hlo⟩
theorem TS.new {wr w7 W8 : World} {rbk : Nat} {R : Mk × Nat} {rb' cap' : Nat} (hc : Ch [] wr w7) (hr : RG w7 rb' cap' R.1.1) (hf : rb' = rbk ∨ wr.heap.size ≤ rb')
    (hW : W8 = w7.alloc (.cells #[.int .i64 R.1.1.most, .slice (some ⟨rb', 0, none⟩) R.1.1.nodes.length cap', .int .i64 R.1.2] 214)) :
    TS wr W8 rbk R (.pointer (some ⟨w7.heap.size, 0, none⟩)) (.int .i64 R.2) := by
  have hcA : Ch [] w7 W8 := by rw [hW]; exact (Ch.refl _ _).alloc _
  exact ⟨rb', cap', _, rfl, rfl, hc.trans hcA (by simp), hr.ch hcA (by simp), hf, by rw [hW]; exact blk.new' _ _ rfl, hc.size⟩
/-- what a function of the reference's states leaves: a state, and a word of its own -/
def LTo (w : World) (rb : Nat) (R : Mk × List Nat) (e : Ending) (w' : World) : Prop := ∃ rb' cap' a c, e = .returned (.tuple #[.agg #[.int .i64 R.1.1.most, .slice (some ⟨rb', 0, none⟩) R.1.1.nodes.length cap', .int .i64 R.1.2], .slice a R.2.length c]) ∧ RG w' rb' cap' R.1.1 ∧ Ch [] w w' ∧ (rb' = rb ∨ w.heap.size ≤ rb') ∧ row w' 3 1 (.slice a R.2.length c) R.2.length (intCells (natInts R.2)) ∧ ∀ q, (Value.slice a R.2.length c).ownBlock = some q → w.heap.size ≤ q ∧ q ≠ rb'
section
variable {w W W' : World} {rb0 rb cap : Nat} {s : Mk} {v : Value} {l : List Nat}
theorem RSt.fin {na : Option Addr} {nc : Nat} (h : RSt w W rb0 rb cap s (.slice na l.length nc) l) (hW : W' = ((W.setCell ⟨w.heap.size + 1, 0, none⟩ (.int .i64 s.1.most)).setCell ⟨w.heap.size + 1, 1, none⟩ (.slice (some ⟨rb, 0, none⟩) s.1.nodes.length cap)).setCell ⟨w.heap.size + 1, 2, none⟩ (.int .i64 s.2)) :
    LTo w rb0 (s, l) (.returned (.tuple #[.agg #[.int .i64 s.1.most, .slice (some ⟨rb, 0, none⟩) s.1.nodes.length cap, .int .i64 s.2], .slice na l.length nc])) W' := by
  have hcs := set3_ch hW
  have hfr := h.fr
  have hl0 := h.low
  exact ⟨rb, cap, na, nc, rfl, h.rg.ch hcs (by simp; omega), h.ch.trans hcs (fun k hk => .inr (by simp at hk; omega)), by omega, h.rw.ch hcs (fun k hk => by have := (h.own k hk).1; simp; omega), fun q hq => ⟨by have := (h.own q hq).1; omega, (h.own q hq).2⟩⟩
theorem RSt.finS (h : RSt w W rb0 rb cap s v l) {r : Nat} (hW : W' = ((W.setCell ⟨w.heap.size + 1, 0, none⟩ (.int .i64 s.1.most)).setCell ⟨w.heap.size + 1, 1, none⟩ (.slice (some ⟨rb, 0, none⟩) s.1.nodes.length cap)).setCell ⟨w.heap.size + 1, 2, none⟩ (.int .i64 s.2)) :
    STo w rb0 (s, r) (.returned (.tuple #[.agg #[.int .i64 s.1.most, .slice (some ⟨rb, 0, none⟩) s.1.nodes.length cap, .int .i64 s.2], .int .i64 r])) W' := by
  have hcs := set3_ch hW
  have hfr := h.fr
  have hl0 := h.low
  exact ⟨rb, cap, rfl, h.rg.ch hcs (by simp; omega), h.ch.trans hcs (fun k hk => .inr (by simp at hk; omega)), by omega⟩
end
end Go.Proofs.YtehljgigebhddaaGreat
namespace Go.Aig
/-- the steps of a sum are right -/
theorem sum_chain {G : Gra} {R1 R2 R3 R4 R5 : Mk × Nat} {s0 : Mk} (h : SOk G s0) {a b c : Nat} (ha : a < 2 * G.nodes.length) (hb : b < 2 * G.nodes.length) (hc : c < 2 * s0.1.nodes.length)
    (h1 : R1 = rstep s0 (rXor s0.1 a b)) (h2 : R2 = rstep R1.1 (rXor R1.1.1 R1.2 c)) (h3 : R3 = rstep R2.1 (and R2.1.1 a b)) (h4 : R4 = rstep R3.1 (and R3.1.1 R1.2 c)) (h5 : R5 = rstep R4.1 (rOr R4.1.1 R3.2 R4.2)) :
    (a < 2 * s0.1.nodes.length ∧ b < 2 * s0.1.nodes.length) ∧ (R1.2 < 2 * R1.1.1.nodes.length ∧ c < 2 * R1.1.1.nodes.length) ∧ (SOk G R2.1 ∧ c < 2 * R2.1.1.nodes.length ∧ a < 2 * R2.1.1.nodes.length ∧ b < 2 * R2.1.1.nodes.length) ∧ (R1.2 < 2 * R3.1.1.nodes.length ∧ c < 2 * R3.1.1.nodes.length) ∧ (R3.2 < 2 * R4.1.1.nodes.length ∧ R4.2 < 2 * R4.1.1.nodes.length) ∧ (SOk G R5.1 ∧ R5.2 < 2 * R5.1.1.nodes.length) := by
  have ha0 := h.ext.lt ha
  have hb0 := h.ext.lt hb
  obtain ⟨a1, a2, a3⟩ := rstep_sok h (Y := rXor s0.1 a b) (fun _ => rXor_full h.ok ha0 hb0)
  rw [← h1] at a1 a2 a3
  obtain ⟨b1, b2, b3⟩ := rstep_sok a1 (Y := rXor R1.1.1 R1.2 c) (fun _ => rXor_full a1.ok a2 (a3.lt hc))
  rw [← h2] at b1 b2 b3
  have ha2 := b1.ext.lt ha
  have hb2 := b1.ext.lt hb
  obtain ⟨c1, c2, c3⟩ := rstep_sok b1 (Y := and R2.1.1 a b) (fun _ => and_full b1.ok ha2 hb2)
  rw [← h3] at c1 c2 c3
  obtain ⟨d1, d2, d3⟩ := rstep_sok c1 (Y := and R3.1.1 R1.2 c) (fun _ => and_full c1.ok (c3.lt (b3.lt a2)) (c3.lt (b3.lt (a3.lt hc))))
  rw [← h4] at d1 d2 d3
  obtain ⟨e1, e2, e3⟩ := rstep_sok d1 (Y := rOr R4.1.1 R3.2 R4.2) (fun _ => rOr_full d1.ok (d3.lt c2) d2)
  rw [← h5] at e1 e2 e3
  exact ⟨⟨ha0, hb0⟩, ⟨a2, a3.lt hc⟩, ⟨b1, b3.lt (a3.lt hc), ha2, hb2⟩, ⟨c3.lt (b3.lt a2), c3.lt (b3.lt (a3.lt hc))⟩, ⟨d3.lt c2, d2⟩, ⟨e1, e2⟩⟩
end Go.Aig
namespace Go.Proofs.YtehljgigebhddaaGreat
open Go.RowKit Go.Mem Go.Aig
section
variable {w : World}
end
end Go.Proofs.YtehljgigebhddaaGreat
namespace Go.Aig
end Go.Aig
namespace Go.Proofs.YtehljgigebhddaaGreat
open Go.RowKit Go.Mem Go.Aig
section
variable {w : World}
set_option maxRecDepth 100000 in
set_option maxHeartbeats 2000000 in
theorem r23Not_is {a : Option Addr} {l : List Nat} (n cap : Nat) (hn : l.length = n) (hm : n ≤ 1000000) (h : Sl w a (natInts l)) (hs : ∀ r ∈ l, r ≤ 1000000) : Calls Tryz.prog 350 #[.slice a n cap] w fun e w' => ∃ v, e = .returned v ∧ row w' 3 1 v n (intCells (natInts (l.map neg))) ∧ (∀ q ∈ v.ownBlock.toList, w.heap.size ≤ q) ∧ Ch [] w w' := by
  subst hn
  have H := Lib.hid h; clear h
  go_enter Tryz.func350, Tryz.ntmps350
  go_wp2_with fail
  go_loopw [3, 4] (fun o i wr => ∃ k : Nat, k ≤ l.length ∧ i = .int .i64 k ∧ Ch [] w wr ∧ row wr 3 1 o k (intCells (natInts ((l.take k).map neg))) ∧ ∀ q ∈ o.ownBlock.toList, w.heap.size ≤ q) (fun _ i _ => l.length - (intOf i).toNat)
  case atStart => exact ⟨0, by omega, rfl, Ch.refl _ _, ⟨rfl, .inl ⟨rfl, rfl⟩⟩, by simp⟩
  case round =>
    obtain ⟨k, hk, rfl, hc, hrow, hlo⟩ := hrel
    obtain ⟨oa, oc, rfl⟩ := row.shape hrow
    by_cases hlt : k < l.length
    · obtain ⟨x, hx⟩ : ∃ x, l[k]? = some x := ⟨_, List.getElem?_eq_getElem hlt⟩
      have hsu : intCells (natInts ((l.take (k + 1)).map neg)) = intCells (natInts ((l.take k).map neg)) ++ [.int .i64 (neg x)] := by rw [List.take_add_one, hx]; simp [intCells, natInts]
      obtain ⟨xb, xo, rfl, hcl⟩ := H.out.cells k x (by simp [natInts, hx])
      have c0 := (hc.cell (cell_lt hcl) (by simp)).trans hcl
      have HN := rNot_is wr x (by have := hs x (List.mem_of_getElem? hx); omega)
      have HSU := Lib.hid hsu; clear hsu hx hcl
      have hcA : Ch [] wr (wr.alloc (.cells #[.int .i64 (neg x)] 3)) := (Ch.refl _ _).alloc _
      have hrA := hrow.ch hcA (by simp)
      have hbA : blk (wr.alloc (.cells #[.int .i64 (neg x)] 3)) wr.heap.size [.int .i64 (neg x)] := blk.new' _ _ rfl
      have HRA := Lib.hid hrA; clear hrA hrow
      have HBA := Lib.hid hbA; clear hbA
      have HCA := Lib.hid hcA; clear hcA
      have HC := Lib.hid hc; clear hc
      have HLO := Lib.hid hlo; clear hlo
      go_wp2_with fail
      refine HN.mono ?_
      rintro e w2 ⟨rfl, rfl⟩
      go_wp2_with (at_builtin; go_loud (refine wpList_append_row slInts rfl _ _ rfl (v := .slice oa k oc) (n := k) (xs := intCells (natInts ((l.take k).map neg))) rfl HRA.out (ad := ⟨wr.heap.size, 0, none⟩) (m := 1) (c := 1) (news := [.int .i64 (neg x)]) rfl rfl (news_blk HBA.out) (by simp [Value.oneCell']) (by omega) (by omega) ?_; intro v' w4 hown4 hC4 hf4; have HO4 := Lib.hid hown4; clear hown4; have HC4 := Lib.hid hC4; clear hC4; have HF4 := Lib.hid hf4; clear hf4))
      go_roundw
      case rel =>
        obtain ⟨q1, q2⟩ := app_step HC.out HCA.out HLO.out HC4.out HF4.out
        refine ⟨k + 1, by omega, by go_num, q1, ?_, q2⟩
        rw [HSU.out]; exact HO4.out
      case measure => simp [intOf]; omega
    · have hkn : k = l.length := by omega
      rw [hkn, List.take_of_length_le (Nat.le_refl _)] at hrow
      rw [hkn] at hlo
      rw [hkn]
      have HROW := Lib.hid hrow; clear hrow
      have HLO := Lib.hid hlo; clear hlo
      have HC := Lib.hid hc; clear hc hkn
      go_wp2_with fail
      go_ret
      exact ⟨.slice oa l.length oc, rfl, HROW.out, HLO.out, HC.out⟩
end
end Go.Proofs.YtehljgigebhddaaGreat
namespace Go.Aig
/-- the other way round -/
def negS (R : Mk × Nat) : Mk × Nat := (R.1, neg R.2)
/-- the difference, of words that are right -/
def subW (n : Nat) (s : Mk) (x y : List Nat) : Mk × List Nat := sumW n s (x.zip (y.map neg)) 1
end Go.Aig
namespace Go.Proofs.YtehljgigebhddaaGreat
open Go.RowKit Go.Mem Go.Aig
section
variable {w W w1 W' : World} {rb0 rb cap : Nat} {s : Mk} {v : Value} {l : List Nat}
theorem RSt.outL (h : RSt w W rb0 rb cap s v l) {R : Mk × List Nat} {rb' cap' : Nat} {a : Option Addr} {c : Nat} (hr : RG w1 rb' cap' R.1.1) (hc : Ch [] W w1) (hf : rb' = rb ∨ W.heap.size ≤ rb') (hrow : row w1 3 1 (.slice a R.2.length c) R.2.length (intCells (natInts R.2))) (hown : ∀ q, (Value.slice a R.2.length c).ownBlock = some q → W.heap.size ≤ q ∧ q ≠ rb')
    (hW : W' = ((w1.setCell ⟨w.heap.size + 1, 0, none⟩ (.int .i64 R.1.1.most)).setCell ⟨w.heap.size + 1, 1, none⟩ (.slice (some ⟨rb', 0, none⟩) R.1.1.nodes.length cap')).setCell ⟨w.heap.size + 1, 2, none⟩ (.int .i64 R.1.2)) :
    LTo w rb0 R (.returned (.tuple #[.agg #[.int .i64 R.1.1.most, .slice (some ⟨rb', 0, none⟩) R.1.1.nodes.length cap', .int .i64 R.1.2], .slice a R.2.length c])) W' := by
  have hcs := set3_ch hW
  have hfr := h.fr
  have hl0 := h.low
  have hlt := h.lt
  refine ⟨rb', cap', a, c, rfl, hr.ch hcs (by simp; omega), (h.ch.trans hc (by simp)).trans hcs (fun k hk => .inr (by simp at hk; omega)), by omega, hrow.ch hcs (fun k hk => ?_), fun q hq => ?_⟩
  · have := (hown k hk).1; simp; omega
  · have := hown q hq; omega
theorem RSt.outS (h : RSt w W rb0 rb cap s v l) {R : Mk × Nat} {rb' cap' : Nat} (hr : RG w1 rb' cap' R.1.1) (hc : Ch [] W w1) (hf : rb' = rb ∨ W.heap.size ≤ rb')
    (hW : W' = ((w1.setCell ⟨w.heap.size + 1, 0, none⟩ (.int .i64 R.1.1.most)).setCell ⟨w.heap.size + 1, 1, none⟩ (.slice (some ⟨rb', 0, none⟩) R.1.1.nodes.length cap')).setCell ⟨w.heap.size + 1, 2, none⟩ (.int .i64 R.1.2)) :
    STo w rb0 R (.returned (.tuple #[.agg #[.int .i64 R.1.1.most, .slice (some ⟨rb', 0, none⟩) R.1.1.nodes.length cap', .int .i64 R.1.2], .int .i64 R.2])) W' := by
  have hcs := set3_ch hW
  have hfr := h.fr
  have hl0 := h.low
  have hlt := h.lt
  exact ⟨rb', cap', rfl, hr.ch hcs (by simp; omega), (h.ch.trans hc (by simp)).trans hcs (fun k hk => .inr (by simp at hk; omega)), by omega⟩
end
section
variable {w : World} {rb cap : Nat} {G : Gra}
end
end Go.Proofs.YtehljgigebhddaaGreat
namespace Go.Aig
/-- what the reference makes, of words that are right: a state, a word, a reference -/
def RF (k : Nat) (G : Gra) (X Y : List Nat) (n : Nat) : Mk × List Nat × Nat :=
  match k with
  | 0 => ((G, 0), X.map neg, 0)
  | 1 => ((subW X.length (G, 0) (List.replicate X.length 0) X).1, (subW X.length (G, 0) (List.replicate X.length 0) X).2, 0)
  | 2 => ((eachF (rop and) (G, 0) (X.zip Y)).1, (eachF (rop and) (G, 0) (X.zip Y)).2, 0)
  | 3 => ((eachF (rop rOr) (G, 0) (X.zip Y)).1, (eachF (rop rOr) (G, 0) (X.zip Y)).2, 0)
  | 4 => ((eachF (rop rXor) (G, 0) (X.zip Y)).1, (eachF (rop rXor) (G, 0) (X.zip Y)).2, 0)
  | 5 => ((sumW X.length (G, 0) (X.zip Y) 0).1, (sumW X.length (G, 0) (X.zip Y) 0).2, 0)
  | 6 => ((subW X.length (G, 0) X Y).1, (subW X.length (G, 0) X Y).2, 0)
  | 7 => ((negS (neF (G, 0) (X.zip Y))).1, [], (negS (neF (G, 0) (X.zip Y))).2)
  | 8 => ((neF (G, 0) (X.zip Y)).1, [], (neF (G, 0) (X.zip Y)).2)
  | 9 => ((ltF (G, 0) (X.zip Y)).1, [], (ltF (G, 0) (X.zip Y)).2)
  | 10 => ((negS (ltF (G, 0) (Y.zip X))).1, [], (negS (ltF (G, 0) (Y.zip X))).2)
  | 11 => ((Go.Aig.sAny (G, 0) X).1, [], (Go.Aig.sAny (G, 0) X).2)
  | _ => ((inF (G, 0) n).1, (inF (G, 0) n).2, 0)
end Go.Aig
namespace Go.Proofs.YtehljgigebhddaaGreat
open Go.RowKit Go.Mem Go.Aig
section
variable {w : World} {g : Nat} {G : Gra} {F : List Nat}
end
end Go.Proofs.YtehljgigebhddaaGreat
namespace Go.Aig
/-- what the program tells of a node -/
theorem node_tells {G : Gra} (h : Ok G) {n : Nat} {x : Nd} (hx : G.nodes[n]? = some x) : kindOf G.nodes ((2 * n : Nat) : Int) = x.k ∧ lOf G.nodes ((2 * n : Nat) : Int) = x.l ∧ rOf G.nodes ((2 * n : Nat) : Int) = x.r ∧ x.k ≤ 3 := by
  have hn : nodeAt G.nodes ((2 * n : Nat) : Int) = some x := by
    unfold nodeAt
    rw [if_pos (by omega), Int.toNat_natCast, show 2 * n / 2 = n by omega, hx]
  unfold kindOf lOf rOf
  rw [hn]
  refine ⟨rfl, ?_, ?_, ?_⟩
  · show (if x.k = 3 then x.l else 0) = x.l
    by_cases h0 : n = 0
    · subst h0; rw [h.wf.const] at hx; cases hx; rfl
    · rcases h.wf.other n x hx (by omega) with e | e
      · rw [e]; rfl
      · rw [if_pos e.1]
  · show (if x.k = 3 then x.r else 0) = x.r
    by_cases h0 : n = 0
    · subst h0; rw [h.wf.const] at hx; cases hx; rfl
    · rcases h.wf.other n x hx (by omega) with e | e
      · rw [e]; rfl
      · rw [if_pos e.1]
  · by_cases h0 : n = 0
    · subst h0; rw [h.wf.const] at hx; cases hx; decide
    · rcases h.wf.other n x hx (by omega) with e | e
      · rw [e]; decide
      · omega
end Go.Aig
namespace Go.Proofs.YtehljgigebhddaaGreat
open Go.RowKit Go.Mem Go.Aig
section
variable {w : World} {g : Nat} {G : Gra} {F : List Nat}
theorem Room_j (h : GIn w g G F) : Calls Tryz.prog 202 #[.pointer (some ⟨g, 0, none⟩)] w fun e w' => e = .returned (.int .i64 ((G.most : Int) - G.nodes.length)) ∧ Ch [] w w' := by
  have hr := h.ok.room
  have hc := Room_g h
  rw [show ((G.most - G.nodes.length : Nat) : Int) = (G.most : Int) - G.nodes.length by omega] at hc
  exact hc
set_option maxRecDepth 100000 in
set_option maxHeartbeats 4000000 in
theorem Same23_is (h : GIn w g G F) {rb cap : Nat} (hr : RG w rb cap G) :
    Calls Tryz.prog 75 #[.pointer (some ⟨g, 0, none⟩), .agg #[.int .i64 G.most, .slice (some ⟨rb, 0, none⟩) G.nodes.length cap]] w fun e w' => e = .returned (.bool true) ∧ Ch [] w w' := by
  obtain ⟨hl, hp, hmo⟩ := hr.len
  have hle := hr.le
  have hmx := hr.mx
  have hml : (G.nodes.length : Int) ≤ G.most := by have := hr.ok.room; omega
  have htl := fun n x (hx : G.nodes[n]? = some x) => node_tells hr.ok hx
  have HTL := Lib.hid htl; clear htl
  have H := Lib.hid h; clear h
  have HR := Lib.hid hr; clear hr
  go_enter Tryz.func75, Tryz.ntmps75
  go_upto_region 1 with fail
  refine wp_alw ?_
  intro W0 hW0
  have hc0 : Ch [] w W0 := by rw [hW0]; exact (Ch.refl _ _).alloc _
  have b3 : blk W0 w.heap.size [.int .i64 G.most, .slice (some ⟨rb, 0, none⟩) G.nodes.length cap] := by rw [hW0]; exact blk.new' (w := w) [.int .i64 G.most, .slice (some ⟨rb, 0, none⟩) G.nodes.length cap] 123 rfl
  clear hW0
  have hg0 := H.out.same hc0 (by simp)
  have hLen := Len_g (hg0.same (Ch.refl [] W0).drew (by simp))
  have hRoom := Room_j (hg0.same (Ch.refl [] W0).drew (by simp))
  have HLEN := Lib.hid hLen; clear hLen
  have HROOM := Lib.hid hRoom; clear hRoom hg0
  have y0 := b3.cell (i := 0) rfl
  have y1 := b3.cell (i := 1) rfl
  have BB3 := Lib.hid b3; clear b3
  have HC0 := Lib.hid hc0; clear hc0
  go_wp2_with fail
  have hcurd : Ch [] W0 W0.drew := (Ch.refl [] W0).drew
  refine Ord.St.door (fun w' => Ch [] W0 w') [.fl, .rd, .fl, .rd, .fl, .fl, .fl, .fl, .ef, .fl, .ho, .fl, .ho, .fl, .fl, .fl, .fl] [0, 1, 0, 4, 12, 31, 63, 127, 255, 127, 639, 127, 2175, 6271, 15999, 32767, 65535] [0, 1, 2, 3, 4, 5, 6, 7, 8, 9, 10, 11, 12, 13, 14, 15, 16] mixed (by kernel_rfl) rfl ?_
  refine Ord.St.fl2 (T' := ?_) 0 [1, 2, 3, 4, 5, 6, 7, 8, 9, 10, 11, 12, 13, 14, 15, 16] _ _ rfl (by kernel_rfl) rfl rfl rfl rfl (fun K w' hk => ?_) ?_
  rotate_left
  · go_step; exact hk
  refine Ord.St.rd2 (T' := ?_) 1 [2, 3, 4, 5, 6, 7, 8, 9, 10, 11, 12, 13, 14, 15, 16] _ _ rfl (by kernel_rfl) rfl rfl rfl rfl (fun K hk => ?_) ?_
  rotate_left
  · go_step; refine HLEN.out.mono ?_; rintro e w'' ⟨rfl, rfl⟩; exact hk
  refine Ord.St.fl2 (T' := ?_) 2 [3, 4, 5, 6, 7, 8, 9, 10, 11, 12, 13, 14, 15, 16] _ _ rfl (by kernel_rfl) rfl rfl rfl rfl (fun K w' hk => ?_) ?_
  rotate_left
  · go_step; exact hk
  refine Ord.St.rd2 (T' := ?_) 3 [4, 5, 6, 7, 8, 9, 10, 11, 12, 13, 14, 15, 16] _ _ rfl (by kernel_rfl) rfl rfl rfl rfl (fun K hk => ?_) ?_
  rotate_left
  · go_step; exact hk
  refine Ord.St.fl2 (T' := ?_) 4 [5, 6, 7, 8, 9, 10, 11, 12, 13, 14, 15, 16] _ _ rfl (by kernel_rfl) rfl rfl rfl rfl (fun K w' hk => ?_) ?_
  rotate_left
  · go_step; exact hk
  refine Ord.St.fl2 (T' := ?_) 5 [6, 7, 8, 9, 10, 11, 12, 13, 14, 15, 16] _ _ rfl (by kernel_rfl) rfl rfl rfl rfl (fun K w' hk => ?_) ?_
  rotate_left
  · go_step; exact hk
  refine Ord.St.fl2 (T' := ?_) 6 [7, 8, 9, 10, 11, 12, 13, 14, 15, 16] _ _ rfl (by kernel_rfl) rfl rfl rfl rfl (fun K w' hk => ?_) ?_
  rotate_left
  · go_step; exact hk
  first | (refine Ord.St.fl2 (T' := ?_) 7 [8, 9, 10, 11, 12, 13, 14, 15, 16] _ _ rfl (by kernel_rfl) ?_ rfl rfl rfl (fun K w' hk => ?_) ?_; rotate_left; (first | rfl | (simp [Region.wanted, yielded, *]; done)); focus (go_step; exact hk)) | (refine Ord.St.skip 7 [8, 9, 10, 11, 12, 13, 14, 15, 16] _ rfl (by kernel_rfl) ?_ (fun K hK => ?_); (first | rfl | (simp [Region.wanted, yielded, *]; done)); go_simp; refine hK _ ?_; clear hK K)
  first | (refine Ord.St.fl2 (T' := ?_) 9 [8, 10, 11, 12, 13, 14, 15, 16] _ _ rfl (by kernel_rfl) ?_ rfl rfl rfl (fun K w' hk => ?_) ?_; rotate_left; (first | rfl | (simp [Region.wanted, yielded, *]; done)); focus (go_step; exact hk)) | (refine Ord.St.skip 9 [8, 10, 11, 12, 13, 14, 15, 16] _ rfl (by kernel_rfl) ?_ (fun K hK => ?_); (first | rfl | (simp [Region.wanted, yielded, *]; done)); go_simp; refine hK _ ?_; clear hK K)
  refine Ord.St.ho2 (T' := ?_) 10 [8, 11, 12, 13, 14, 15, 16] _ _ rfl (by kernel_rfl) (by first | rfl | simp [Region.wanted, yielded, *]) rfl rfl rfl ?_ (fun K w' hw' hk => ?_) ?_
  rotate_left
  · trivial
  · have z0 := (BB3.out.ch hw' (by simp)).cell (i := 0) rfl; have z1 := (BB3.out.ch hw' (by simp)).cell (i := 1) rfl; go_step; exact hk
  first | (refine Ord.St.fl2 (T' := ?_) 11 [8, 12, 13, 14, 15, 16] _ _ rfl (by kernel_rfl) ?_ rfl rfl rfl (fun K w' hk => ?_) ?_; rotate_left; (first | rfl | (simp [Region.wanted, yielded, *]; done)); focus (go_step; exact hk)) | (refine Ord.St.skip 11 [8, 12, 13, 14, 15, 16] _ rfl (by kernel_rfl) ?_ (fun K hK => ?_); (first | rfl | (simp [Region.wanted, yielded, *]; done)); go_simp; refine hK _ ?_; clear hK K)
  refine Ord.St.ho2 (T' := ?_) 12 [8, 13, 14, 15, 16] _ _ rfl (by kernel_rfl) (by first | rfl | simp [Region.wanted, yielded, *]) rfl rfl rfl ?_ (fun K w' hw' hk => ?_) ?_
  rotate_left
  · trivial
  · have z0 := (BB3.out.ch hw' (by simp)).cell (i := 0) rfl; have z1 := (BB3.out.ch hw' (by simp)).cell (i := 1) rfl; go_step; exact hk
  first | (refine Ord.St.fl2 (T' := ?_) 13 [8, 14, 15, 16] _ _ rfl (by kernel_rfl) ?_ rfl rfl rfl (fun K w' hk => ?_) ?_; rotate_left; (first | rfl | (simp [Region.wanted, yielded, *]; done)); focus (go_step; exact hk)) | (refine Ord.St.skip 13 [8, 14, 15, 16] _ rfl (by kernel_rfl) ?_ (fun K hK => ?_); (first | rfl | (simp [Region.wanted, yielded, *]; done)); go_simp; refine hK _ ?_; clear hK K)
  first | (refine Ord.St.fl2 (T' := ?_) 14 [8, 15, 16] _ _ rfl (by kernel_rfl) ?_ rfl rfl rfl (fun K w' hk => ?_) ?_; rotate_left; (first | rfl | (simp [Region.wanted, yielded, *]; done)); focus (go_step; exact hk)) | (refine Ord.St.skip 14 [8, 15, 16] _ rfl (by kernel_rfl) ?_ (fun K hK => ?_); (first | rfl | (simp [Region.wanted, yielded, *]; done)); go_simp; refine hK _ ?_; clear hK K)
  refine Ord.St.efC 8 [15, 16] _ rfl (by kernel_rfl) (fun K hK => ?_)
  go_wp2_with fail
  refine HROOM.out.mono ?_
  rintro e w2 ⟨rfl, hc2⟩
  have hcur : Ch [] W0 w2 := (Ch.refl [] W0).drew.trans hc2 (by simp)
  have b3 := BB3.out.ch hcur (by simp)
  have x0 := b3.cell (i := 0) rfl
  have x1 := b3.cell (i := 1) rfl
  clear hcurd b3 y0 y1 hc2 HROOM HLEN
  go_wp2_with fail
  refine ⟨rfl, hK _ _ ?_ ?_⟩
  · exact hcur
  clear hK K
  first | (refine Ord.St.fl2 (T' := ?_) 15 [16] _ _ rfl (by kernel_rfl) ?_ rfl rfl rfl (fun K w' hk => ?_) ?_; rotate_left; (first | rfl | (simp [Region.wanted, yielded, *]; done)); focus (go_step; exact hk)) | (refine Ord.St.skip 15 [16] _ rfl (by kernel_rfl) ?_ (fun K hK => ?_); (first | rfl | (simp [Region.wanted, yielded, *]; done)); go_simp; refine hK _ ?_; clear hK K)
  refine Ord.St.fl2 (T' := ?_) 16 [] _ _ rfl (by kernel_rfl) rfl rfl rfl rfl (fun K w' hk => ?_) ?_
  rotate_left
  · go_step; exact hk
  refine Ord.St.nil ?_
  go_wp2_with fail
  have HC2 := Lib.hid hcur; clear hcur x0 x1
  go_loopw [30] (fun i wr => ∃ k : Nat, k ≤ G.nodes.length ∧ i = .int .i64 k ∧ Ch [] w wr) (fun i _ => G.nodes.length - (intOf i).toNat)
  case atStart => exact ⟨0, by omega, rfl, HC0.out.trans HC2.out (by simp)⟩
  case round =>
    obtain ⟨k, hk, rfl, hc⟩ := hrel
    by_cases hlt : k < G.nodes.length
    · obtain ⟨x, hx⟩ : ∃ x, G.nodes[k]? = some x := ⟨_, List.getElem?_eq_getElem hlt⟩
      obtain ⟨t1, t2, t3, t4⟩ := HTL.out k x hx
      have hrr := HR.out.ch hc (by simp)
      obtain ⟨d0, d1, d2⟩ := hrr.node hx
      have hcA : Ch [] w (wr.alloc (.cells #[.int .i64 x.k, .int .i64 x.l, .int .i64 x.r] 247)) := hc.alloc _
      have hg1 := H.out.same hcA (by simp)
      have hS := Sides_g hg1 ((2 * k : Nat) : Int) (by omega)
      rw [t2, t3, show ((2 * k : Nat) : Int) = 2 * (k : Int) by omega] at hS
      generalize isAndAt G.nodes (2 * (k : Int)) = ia at hS
      have hK := fun (W : World) (hW : Ch [] w W) => Kind_g (H.out.same hW (by simp)) ((2 * k : Nat) : Int) (by omega)
      rw [t1, show ((2 * k : Nat) : Int) = 2 * (k : Int) by omega] at hK
      have HS := Lib.hid hS; clear hS
      have HK := Lib.hid hK; clear hK
      have HCA := Lib.hid hcA; clear hcA hc hg1 hrr t1 t2 t3 hx
      go_wp2_with fail
      refine HS.out.mono ?_
      rintro e w3 ⟨rfl, hc3⟩
      have b6 : blk w3 wr.heap.size [.int .i64 x.k, .int .i64 x.l, .int .i64 x.r] := (blk.new' (w := wr) [.int .i64 x.k, .int .i64 x.l, .int .i64 x.r] 247 (by simp)).ch hc3 (by simp)
      have hc13 := HCA.out.trans hc3 (by simp)
      have HKK := Lib.hid (HK.out _ hc13.drew)
      have z0 := b6.cell (i := 0) rfl
      have z1 := b6.cell (i := 1) rfl
      have z2 := b6.cell (i := 2) rfl
      have HC13 := Lib.hid hc13; clear hc13 hc3 b6 HS HK d0 d1 d2
      go_wp2_with fail
      refine Ord.St.door (fun _ => True) [.fl, .fl, .fl, .rd, .fl, .fl, .rd, .fl, .fl, .fl, .fl, .rd, .fl, .fl, .fl, .fl, .fl, .rd, .fl, .fl] [0, 0, 2, 7, 15, 0, 32, 127, 255, 511, 511, 1535, 4095, 8191, 16383, 32767, 32767, 98303, 262143, 524287] [0, 1, 2, 3, 4, 5, 6, 7, 8, 9, 10, 11, 12, 13, 14, 15, 16, 17, 18, 19] mixed (by kernel_rfl) rfl ?_
      refine Ord.St.fl2 (T' := ?_) 0 [1, 2, 3, 4, 5, 6, 7, 8, 9, 10, 11, 12, 13, 14, 15, 16, 17, 18, 19] _ _ rfl (by kernel_rfl) rfl rfl rfl rfl (fun K w' hk => ?_) ?_
      rotate_left
      · go_step; exact hk
      refine Ord.St.fl2 (T' := ?_) 1 [2, 3, 4, 5, 6, 7, 8, 9, 10, 11, 12, 13, 14, 15, 16, 17, 18, 19] _ _ rfl (by kernel_rfl) rfl rfl rfl rfl (fun K w' hk => ?_) ?_
      rotate_left
      · go_step; exact hk
      refine Ord.St.fl2 (T' := ?_) 2 [3, 4, 5, 6, 7, 8, 9, 10, 11, 12, 13, 14, 15, 16, 17, 18, 19] _ _ rfl (by kernel_rfl) rfl rfl rfl rfl (fun K w' hk => ?_) ?_
      rotate_left
      · go_step; exact hk
      refine Ord.St.rd2 (T' := ?_) 3 [4, 5, 6, 7, 8, 9, 10, 11, 12, 13, 14, 15, 16, 17, 18, 19] _ _ rfl (by kernel_rfl) rfl rfl rfl rfl (fun K hk => ?_) ?_
      rotate_left
      · go_step; refine HKK.out.mono ?_; rintro e w'' ⟨rfl, rfl⟩; exact hk
      refine Ord.St.fl2 (T' := ?_) 4 [5, 6, 7, 8, 9, 10, 11, 12, 13, 14, 15, 16, 17, 18, 19] _ _ rfl (by kernel_rfl) rfl rfl rfl rfl (fun K w' hk => ?_) ?_
      rotate_left
      · go_step; exact hk
      refine Ord.St.fl2 (T' := ?_) 5 [6, 7, 8, 9, 10, 11, 12, 13, 14, 15, 16, 17, 18, 19] _ _ rfl (by kernel_rfl) rfl rfl rfl rfl (fun K w' hk => ?_) ?_
      rotate_left
      · go_step; exact hk
      refine Ord.St.rd2 (T' := ?_) 6 [7, 8, 9, 10, 11, 12, 13, 14, 15, 16, 17, 18, 19] _ _ rfl (by kernel_rfl) rfl rfl rfl rfl (fun K hk => ?_) ?_
      rotate_left
      · go_step; exact hk
      refine Ord.St.fl2 (T' := ?_) 7 [8, 9, 10, 11, 12, 13, 14, 15, 16, 17, 18, 19] _ _ rfl (by kernel_rfl) rfl rfl rfl rfl (fun K w' hk => ?_) ?_
      rotate_left
      · go_step; exact hk
      refine Ord.St.fl2 (T' := ?_) 8 [9, 10, 11, 12, 13, 14, 15, 16, 17, 18, 19] _ _ rfl (by kernel_rfl) rfl rfl rfl rfl (fun K w' hk => ?_) ?_
      rotate_left
      · go_step; exact hk
      first | (refine Ord.St.fl2 (T' := ?_) 9 [10, 11, 12, 13, 14, 15, 16, 17, 18, 19] _ _ rfl (by kernel_rfl) ?_ rfl rfl rfl (fun K w' hk => ?_) ?_; rotate_left; (first | rfl | (simp [Region.wanted, yielded, *]; done)); focus (go_step; exact hk)) | (refine Ord.St.skip 9 [10, 11, 12, 13, 14, 15, 16, 17, 18, 19] _ rfl (by kernel_rfl) ?_ (fun K hK => ?_); (first | rfl | (simp [Region.wanted, yielded, *]; done)); go_simp; refine hK _ ?_; clear hK K)
      first | (refine Ord.St.fl2 (T' := ?_) 10 [11, 12, 13, 14, 15, 16, 17, 18, 19] _ _ rfl (by kernel_rfl) ?_ rfl rfl rfl (fun K w' hk => ?_) ?_; rotate_left; (first | rfl | (simp [Region.wanted, yielded, *]; done)); focus (go_step; exact hk)) | (refine Ord.St.skip 10 [11, 12, 13, 14, 15, 16, 17, 18, 19] _ rfl (by kernel_rfl) ?_ (fun K hK => ?_); (first | rfl | (simp [Region.wanted, yielded, *]; done)); go_simp; refine hK _ ?_; clear hK K)
      first | (refine Ord.St.rd2 (T' := ?_) 11 [12, 13, 14, 15, 16, 17, 18, 19] _ _ rfl (by kernel_rfl) ?_ rfl rfl rfl (fun K hk => ?_) ?_; rotate_left; (first | rfl | (simp [Region.wanted, yielded, *]; done)); focus (go_step; exact hk)) | (refine Ord.St.skipr 11 [12, 13, 14, 15, 16, 17, 18, 19] _ rfl (by kernel_rfl) ?_ (fun K hK => ?_); (first | rfl | (simp [Region.wanted, yielded, *]; done)); go_simp; refine hK _ ?_; clear hK K)
      first | (refine Ord.St.fl2 (T' := ?_) 12 [13, 14, 15, 16, 17, 18, 19] _ _ rfl (by kernel_rfl) ?_ rfl rfl rfl (fun K w' hk => ?_) ?_; rotate_left; (first | rfl | (simp [Region.wanted, yielded, *]; done)); focus (go_step; exact hk)) | (refine Ord.St.skip 12 [13, 14, 15, 16, 17, 18, 19] _ rfl (by kernel_rfl) ?_ (fun K hK => ?_); (first | rfl | (simp [Region.wanted, yielded, *]; done)); go_simp; refine hK _ ?_; clear hK K)
      refine Ord.St.fl2 (T' := ?_) 13 [14, 15, 16, 17, 18, 19] _ _ rfl (by kernel_rfl) rfl rfl rfl rfl (fun K w' hk => ?_) ?_
      rotate_left
      · go_step; exact hk
      refine Ord.St.fl2 (T' := ?_) 14 [15, 16, 17, 18, 19] _ _ rfl (by kernel_rfl) rfl rfl rfl rfl (fun K w' hk => ?_) ?_
      rotate_left
      · go_step; exact hk
      first | (refine Ord.St.fl2 (T' := ?_) 15 [16, 17, 18, 19] _ _ rfl (by kernel_rfl) ?_ rfl rfl rfl (fun K w' hk => ?_) ?_; rotate_left; (first | rfl | (simp [Region.wanted, yielded, *]; done)); focus (go_step; exact hk)) | (refine Ord.St.skip 15 [16, 17, 18, 19] _ rfl (by kernel_rfl) ?_ (fun K hK => ?_); (first | rfl | (simp [Region.wanted, yielded, *]; done)); go_simp; refine hK _ ?_; clear hK K)
      first | (refine Ord.St.fl2 (T' := ?_) 16 [17, 18, 19] _ _ rfl (by kernel_rfl) ?_ rfl rfl rfl (fun K w' hk => ?_) ?_; rotate_left; (first | rfl | (simp [Region.wanted, yielded, *]; done)); focus (go_step; exact hk)) | (refine Ord.St.skip 16 [17, 18, 19] _ rfl (by kernel_rfl) ?_ (fun K hK => ?_); (first | rfl | (simp [Region.wanted, yielded, *]; done)); go_simp; refine hK _ ?_; clear hK K)
      first | (refine Ord.St.rd2 (T' := ?_) 17 [18, 19] _ _ rfl (by kernel_rfl) ?_ rfl rfl rfl (fun K hk => ?_) ?_; rotate_left; (first | rfl | (simp [Region.wanted, yielded, *]; done)); focus (go_step; exact hk)) | (refine Ord.St.skipr 17 [18, 19] _ rfl (by kernel_rfl) ?_ (fun K hK => ?_); (first | rfl | (simp [Region.wanted, yielded, *]; done)); go_simp; refine hK _ ?_; clear hK K)
      first | (refine Ord.St.fl2 (T' := ?_) 18 [19] _ _ rfl (by kernel_rfl) ?_ rfl rfl rfl (fun K w' hk => ?_) ?_; rotate_left; (first | rfl | (simp [Region.wanted, yielded, *]; done)); focus (go_step; exact hk)) | (refine Ord.St.skip 18 [19] _ rfl (by kernel_rfl) ?_ (fun K hK => ?_); (first | rfl | (simp [Region.wanted, yielded, *]; done)); go_simp; refine hK _ ?_; clear hK K)
      refine Ord.St.fl2 (T' := ?_) 19 [] _ _ rfl (by kernel_rfl) rfl rfl rfl rfl (fun K w' hk => ?_) ?_
      rotate_left
      · go_step; exact hk
      refine Ord.St.nil ?_
      go_wp2_with fail
      go_roundw
      case rel => exact ⟨k + 1, by omega, by go_num, HC13.out.drew⟩
      case measure => simp [intOf]; omega
    · have HC := Lib.hid hc; clear hc
      go_wp2_with fail
      go_ret
      exact ⟨rfl, HC.out⟩
end
end Go.Proofs.YtehljgigebhddaaGreat
namespace Go.Proofs.YtehljgigebhddaaGreat
open Go.RowKit Go.Mem Go.Aig
/-- a graph, and the same one of the reference, apart from each other, made since a world -/
structure Both (w0 w : World) (g rb cap : Nat) (G : Gra) (F : List Nat) : Prop where
  gin : GIn w g G F
  rg : RG w rb cap G
  ap : rb ∉ F
  own : ∀ k ∈ F, w0.heap.size ≤ k
  rlo : w0.heap.size ≤ rb
  ch : Ch [] w0 w
theorem Both.same {w0 w w' : World} {g rb cap : Nat} {G : Gra} {F : List Nat} (h : Both w0 w g rb cap G F) (hc : Ch [] w w') : Both w0 w' g rb cap G F :=
  ⟨h.gin.same hc (by simp), h.rg.ch hc (by simp), h.ap, h.own, h.rlo, h.ch.trans hc (by simp)⟩
/-- both graphs are changed in the same way -/
theorem Both.next {w0 w w1 w2 : World} {g rb cap : Nat} {G G' : Gra} {F F' : List Nat} (h : Both w0 w g rb cap G F) (hg : GIn w1 g G' F') (hc1 : Ch F w w1) (hF : ∀ k ∈ F', k ∈ F ∨ w.heap.size ≤ k) {rb' cap' : Nat} (hr : RG w2 rb' cap' G') (hc2 : Ch [] w1 w2) (hb : rb' = rb ∨ w1.heap.size ≤ rb') : Both w0 w2 g rb' cap' G' F' := by
  have hrl := h.rg.lt
  have hz := hc1.size
  refine ⟨hg.same hc2 (by simp), hr, fun hin => ?_, fun k hk => (hF k hk).elim (h.own k) (fun e => Nat.le_trans h.ch.size e), ?_, (h.ch.trans hc1 (fun k hk => .inr (h.own k hk))).trans hc2 (by simp)⟩
  · have hlt := hg.lt _ hin
    rcases hb with rfl | e
    · rcases hF _ hin with e | e
      · exact h.ap e
      · omega
    · omega
  · rcases hb with rfl | e
    · exact h.rlo
    · have := h.ch.size; omega
theorem Both.set {w0 w w' : World} {g rb cap b : Nat} {G : Gra} {F : List Nat} (h : Both w0 w g rb cap G F) (hc : Ch [b] w w') (hb : b ∉ F) (hr : rb ≠ b) (hlo : w0.heap.size ≤ b) : Both w0 w' g rb cap G F :=
  ⟨h.gin.same hc (fun k hk hk2 => hb (by rw [List.mem_singleton.1 hk2] at hk; exact hk)), h.rg.ch hc (by simpa using hr), h.ap, h.own, h.rlo, h.ch.trans hc (fun k hk => .inr (by rw [List.mem_singleton.1 hk]; exact hlo))⟩
section
set_option maxRecDepth 100000 in
set_option maxHeartbeats 4000000 in
theorem Begin23_no (w : World) (M : Int) (N : Nat) (hM : M < 1 ∨ 65536 < M) : Calls Tryz.prog 73 #[.agg #[.int .i64 M, .int .u8 N]] w fun e w' => e = .returned (.tuple #[.pointer none, .agg #[.int .i64 0, .slice none 0 0]]) ∧ Ch [] w w' := by
  have hN := fun W => New_no (w := W) M hM
  have hR := fun W => rNew_no W M hM
  clear hM
  go_enter Tryz.func73, Tryz.ntmps73
  go_wp2_with fail
  refine (hN _).mono ?_
  rintro e w' ⟨rfl, rfl⟩
  go_wp2_with fail
  refine calls_named fun W hW => ?_
  have b1 : blk W w.heap.size [.int .i64 M, .int .u8 N] := by rw [hW]; exact (blk.new' _ _ (by simp)).alloc _
  have b3 : blk W (w.heap.size + 1) [.int .i64 0, .slice none 0 0] := by rw [hW]; exact blk.new' _ _ (by simp)
  have hc : Ch [] w W := by rw [hW]; exact ((Ch.refl _ _).alloc _).alloc _
  clear hW
  refine (hR W).mono ?_
  rintro e w1 ⟨rfl, hc1⟩
  have b3 := b3.ch hc1 (by simp)
  have z0 := b3.cell (i := 0) rfl
  have z1 := b3.cell (i := 1) rfl
  have f0 := b3.frozen (i := 0)
  have f1 := b3.frozen (i := 1)
  have hz1 := b3.lt
  have HC := Lib.hid (hc.trans hc1 (by simp)); clear hc hc1 b3 b1
  go_wp2_with fail
  refine bodyPost_ret (v := .tuple #[.pointer none, .agg #[.int .i64 0, .slice none 0 0]]) (by simp [results, Tryz.results73, go_sem, z0, z1, hz1]) rfl ?_
  refine ⟨rfl, ?_⟩
  refine Ch.trans HC.out (F' := [w.heap.size + 1]) ?_ (fun k hk => .inr (by simp at hk; omega))
  repeat (first | exact Ch.refl _ _ | refine Ch.alloc ?_ _ | refine Ch.setCell ?_ (.inl (by simp)) _)
set_option maxRecDepth 100000 in
set_option maxHeartbeats 8000000 in
theorem Begin23_yes (w : World) (M N : Nat) (h1 : 1 ≤ M) (h2 : M ≤ 65536) (_hN : N ≤ 255) : Calls Tryz.prog 73 #[.agg #[.int .i64 M, .int .u8 N]] w fun e w' => ∃ g F rb cap G, e = .returned (.tuple #[.pointer (some ⟨g, 0, none⟩), .agg #[.int .i64 G.most, .slice (some ⟨rb, 0, none⟩) G.nodes.length cap]]) ∧ Both w w' g rb cap G F := by
  have hN := fun W => New_yes (w := W) M h1 h2
  have hR := fun W => rNew_yes W M h1 h2
  obtain ⟨n, hn, hn40⟩ : ∃ n, N % 40 = n ∧ n < 40 := ⟨_, rfl, by omega⟩
  have hni : (N : Int) % 40 = n := by omega
  clear hn
  have HN := Lib.hid hN; clear hN
  have HR := Lib.hid hR; clear hR
  go_enter Tryz.func73, Tryz.ntmps73
  go_wp2_with fail
  refine calls_named fun W hW => ?_
  have b1 : blk W w.heap.size [.int .i64 M, .int .u8 N] := by rw [hW]; exact (blk.new' _ _ (by simp)).alloc _
  have b3 : blk W (w.heap.size + 1) [.int .i64 0, .slice none 0 0] := by rw [hW]; exact blk.new' _ _ (by simp)
  have hc : Ch [] w W := by rw [hW]; exact ((Ch.refl _ _).alloc _).alloc _
  have hz : W.heap.size = w.heap.size + 2 := by rw [hW]; simp
  clear hW
  refine (HN.out W).mono ?_
  rintro e w1 ⟨g, F1, rfl, hg1, hF1, hc1⟩
  have b1 := b1.ch hc1 (by simp)
  have b3 := b3.ch hc1 (by simp)
  have hc := hc.trans hc1 (by simp)
  have x0 := b1.cell (i := 0) rfl
  have x1 := b1.cell (i := 1) rfl
  have hF2 : ∀ k ∈ F1, w.heap.size + 2 ≤ k ∧ k < w1.heap.size := fun k hk => ⟨by have := hF1 k hk; omega, hg1.lt k hk⟩
  have HF2 := Lib.hid hF2; clear hF2 hF1 hc1
  have HC := Lib.hid hc; clear hc
  have HG1 := Lib.hid hg1; clear hg1
  have B1 := Lib.hid b1; clear b1
  have B3 := Lib.hid b3; clear b3
  go_wp2_with fail
  refine (HR.out _).mono ?_
  rintro e w2 ⟨rb, cap, rfl, hrg, hc2, hlo⟩
  have hz2 := hc2.size
  have hz3 := B3.out.lt
  have hbt : Both w w2 g rb cap (newG M) F1 := ⟨HG1.out.same hc2 (by simp), hrg, fun hin => by have := HF2.out _ hin; omega, fun k hk => by have := HF2.out k hk; omega, by omega, HC.out.trans hc2 (by simp)⟩
  have b1 := B1.out.ch hc2 (by simp)
  have b3 := B3.out.ch hc2 (by simp)
  generalize newG M = G0 at *
  have HBT := Lib.hid hbt; clear hbt hrg hc2 HC HG1 x0 x1
  clear B1 B3
  have B1 := Lib.hid b1; clear b1
  have B3 := Lib.hid b3; clear b3
  go_upto_region 3 with fail
  refine wp_alw ?_
  intro W3 hW3
  have hb6 := alw_blk (xs := [.int .i64 G0.most, .slice (some ⟨rb, 0, none⟩) G0.nodes.length cap]) hW3
  have hc3 := alw_ch hW3
  have hbt := HBT.out.same hc3
  have b1 := B1.out.ch hc3 (by simp)
  have b3 := B3.out.ch hc3 (by simp)
  have hrb6 : rb ≠ w2.heap.size := rg_ne HBT.out.rg
  have hlo2 : w.heap.size + 2 ≤ rb := by omega
  have h6F : w2.heap.size ∉ F1 := fun hin => by have := HF2.out _ hin; omega
  have h3F : w.heap.size + 1 ∉ F1 := fun hin => by have := HF2.out _ hin; omega
  have h6lo : w.heap.size + 2 ≤ w2.heap.size := by omega
  clear hW3 hc3 HBT B1 B3 hlo
  generalize w2.heap.size = b6 at *
  have x0 := b1.cell (i := 0) rfl
  have x1 := b1.cell (i := 1) rfl
  have HBT := Lib.hid hbt; clear hbt
  have B6 := Lib.hid hb6; clear hb6
  have B3 := Lib.hid b3; clear b3 b1
  go_wp2_with fail
  clear hni
  go_loopw [39] (fun i wr => ∃ (k : Nat) (G : Gra) (F : List Nat) (rb cap : Nat), k ≤ n ∧ i = .int .i64 k ∧ Both w wr g rb cap G F ∧ b6 ∉ F ∧ w.heap.size + 1 ∉ F ∧ rb ≠ b6 ∧ w.heap.size + 2 ≤ rb ∧ blk wr b6 [.int .i64 G.most, .slice (some ⟨rb, 0, none⟩) G.nodes.length cap] ∧ blk wr (w.heap.size + 1) [.int .i64 0, .slice none 0 0]) (fun i _ => n - (intOf i).toNat)
  case atStart => exact ⟨0, G0, F1, rb, cap, by omega, rfl, HBT.out, h6F, h3F, hrb6, hlo2, B6.out, B3.out⟩
  case round =>
    clear HBT B6 B3 h6F h3F hrb6 hlo2 x0 x1 HN HR
    obtain ⟨k, G, F, rb, cap, hk, rfl, hbt, h6F, h3F, hrb6, hlo2, b6c, b3⟩ := hrel
    have hwr6 := b6c.lt
    by_cases hlt : k < n
    · have hI := Input_g hbt.gin
      have HI := Lib.hid hI; clear hI
      have HBT := Lib.hid hbt; clear hbt
      have B6 := Lib.hid b6c; clear b6c
      have B3 := Lib.hid b3; clear b3
      go_wp2_with fail
      refine HI.out.mono ?_
      rintro e w4 ⟨rfl, F', hg4, hc4, hF4, _⟩
      have hp := rPut_is (HBT.out.rg.ch hc4 HBT.out.ap) ⟨2, 0, 0, 0⟩ (fun hm => by
        have hok := hg4.ok
        unfold doInput put at hok
        rw [if_neg (by omega)] at hok
        exact hok)
      have b6c := B6.out.ch hc4 h6F
      have b3 := B3.out.ch hc4 h3F
      have y0 := b6c.cell (i := 0) rfl
      have y1 := b6c.cell (i := 1) rfl
      have h6F' : b6 ∉ F' := fun hin => by rcases hF4 _ hin with e | e; exact h6F e; omega
      have h3F' : w.heap.size + 1 ∉ F' := fun hin => by rcases hF4 _ hin with e | e; exact h3F e; have := B3.out.lt; omega
      have hz4 := b6c.lt
      have HP := Lib.hid hp; clear hp
      have HG4 := Lib.hid hg4; clear hg4
      have HC4 := Lib.hid hc4; clear hc4
      have HF4 := Lib.hid hF4; clear hF4
      have BB6 := Lib.hid b6c; clear b6c
      have BB3 := Lib.hid b3; clear b3
      go_wp2_with fail
      refine HP.out.mono ?_
      rintro e w5 ⟨rb', cap', rfl, hrg5, hc5, hfr⟩
      have hbt5 := HBT.out.next (G' := (put G ⟨2, 0, 0, 0⟩).1) HG4.out HC4.out HF4.out hrg5 hc5 hfr
      have hrb' : rb' ≠ b6 := by rcases hfr with e | e <;> omega
      have hlo' : w.heap.size + 2 ≤ rb' := by rcases hfr with e | e <;> omega
      generalize (put G ⟨2, 0, 0, 0⟩).1 = G1 at *
      have b6c := BB6.out.ch hc5 (by simp)
      have b3 := BB3.out.ch hc5 (by simp)
      have f0 := b6c.frozen (i := 0)
      have f1 := b6c.frozen (i := 1)
      have y0 := b6c.cell (i := 0) rfl
      have y1 := b6c.cell (i := 1) rfl
      have HBT5 := Lib.hid hbt5; clear hbt5
      have BC6 := Lib.hid b6c; clear b6c
      have BC3 := Lib.hid b3; clear b3
      clear HP HG4 HC4 HF4 BB6 BB3 hrg5 hc5 hfr HI
      go_wp2_with fail
      go_roundw
      case rel =>
        have hcs := set2_ch (w := w5) (b := b6) (u := .int .i64 G1.most) (v := .slice (some ⟨rb', 0, none⟩) G1.nodes.length cap') rfl
        exact ⟨k + 1, G1, F', rb', cap', by omega, by go_num, HBT5.out.set hcs h6F' hrb' (by omega), h6F', h3F', hrb', hlo', (BC6.out.set (i := 0) _).set (i := 1) _, BC3.out.ch hcs (by simp; omega)⟩
      case measure => simp [intOf]; omega
    · have HBT := Lib.hid hbt; clear hbt
      have B6 := Lib.hid b6c; clear b6c
      have B3 := Lib.hid b3; clear b3
      go_wp2_with fail
      go_loopw [9] (fun i wr => ∃ (k : Nat) (G : Gra) (F : List Nat) (rb cap : Nat), 1 ≤ k ∧ k ≤ n + 1 ∧ i = .int .i64 k ∧ Both w wr g rb cap G F ∧ b6 ∉ F ∧ w.heap.size + 1 ∉ F ∧ rb ≠ b6 ∧ w.heap.size + 2 ≤ rb ∧ blk wr b6 [.int .i64 G.most, .slice (some ⟨rb, 0, none⟩) G.nodes.length cap] ∧ blk wr (w.heap.size + 1) [.int .i64 0, .slice none 0 0]) (fun i _ => n - (intOf i).toNat)
      case atStart => exact ⟨1, G, F, rb, cap, by omega, by omega, rfl, HBT.out, h6F, h3F, hrb6, hlo2, B6.out, B3.out⟩
      case round =>
        clear HBT B6 B3 h6F h3F hrb6 hlo2 hwr6
        obtain ⟨k, G, F, rb, cap, hk1, hk, rfl, hbt, h6F, h3F, hrb6, hlo2, b6c, b3⟩ := hrel
        have hwr6 := b6c.lt
        have y0 := b6c.cell (i := 0) rfl
        have y1 := b6c.cell (i := 1) rfl
        by_cases hlt : k < n
        · have hRt := rRight_is hbt.rg (2 * (k : Int) + 2)
          have hrt : right G.nodes (2 * (k : Int) + 2) = true → 2 * k + 3 < 2 * G.nodes.length := fun e => by
            unfold right at e
            have := of_decide_eq_true e
            omega
          cases hq : right G.nodes (2 * (k : Int) + 2)
          · rw [hq] at hRt
            have HRT := Lib.hid hRt; clear hRt hrt hq
            have HBT := Lib.hid hbt; clear hbt
            have B6 := Lib.hid b6c; clear b6c
            have B3 := Lib.hid b3; clear b3
            go_wp2_with fail
            refine HRT.out.mono ?_
            rintro e w4 ⟨rfl, hc4⟩
            have HC4 := Lib.hid hc4; clear hc4 HRT
            go_wp2_with fail
            go_roundw
            case rel => exact ⟨k + 1, G, F, rb, cap, by omega, by omega, by go_num, HBT.out.same HC4.out, h6F, h3F, hrb6, hlo2, B6.out.ch HC4.out (by simp), B3.out.ch HC4.out (by simp)⟩
            case measure => simp [intOf]; omega
          · rw [hq] at hRt
            have hv := hrt hq
            have HRT := Lib.hid hRt; clear hRt hrt hq
            have HBT := Lib.hid hbt; clear hbt
            have B6 := Lib.hid b6c; clear b6c
            have B3 := Lib.hid b3; clear b3
            have hA := fun (W : World) (hW : Ch [] wr W) => And_r (HBT.out.same hW).gin (a := 2 * k) (b := 2 * k + 3) (by omega) hv
            have hB := fun (W : World) (F9 : List Nat) (hW : Ch F9 wr W) (hF : rb ∉ F9) => rAnd_is (HBT.out.rg.ch hW hF) (a := 2 * k) (b := 2 * k + 3) (by omega) hv
            rw [show ((2 * k : Nat) : Int) = 2 * (k : Int) by omega, show ((2 * k + 3 : Nat) : Int) = 2 * (k : Int) + 3 by omega] at hA hB
            generalize and G (2 * k) (2 * k + 3) = X at hA hB
            have HA := Lib.hid hA; clear hA
            have HB := Lib.hid hB; clear hB
            go_wp2_with fail
            refine HRT.out.mono ?_
            rintro e w4 ⟨rfl, hc4⟩
            have hA := HA.out w4 hc4
            have HA4 := Lib.hid hA; clear hA HA
            have HC4 := Lib.hid hc4; clear hc4 HRT
            go_wp2_with fail
            refine HA4.out.mono ?_
            rintro e w5 ⟨rfl, F', hg5, hc5, hF5, _⟩
            have hB5 := HB.out w5 F (HC4.out.mono (by simp) |>.trans hc5 (fun k hk => .inl hk)) HBT.out.ap
            have hwb := HBT.out.same HC4.out
            have b6c := (B6.out.ch HC4.out (by simp)).ch hc5 h6F
            have b3 := (B3.out.ch HC4.out (by simp)).ch hc5 h3F
            have y0 := b6c.cell (i := 0) rfl
            have y1 := b6c.cell (i := 1) rfl
            have hz4 := HC4.out.size
            have h6F' : b6 ∉ F' := fun hin => by rcases hF5 _ hin with e | e; exact h6F e; omega
            have h3F' : w.heap.size + 1 ∉ F' := fun hin => by rcases hF5 _ hin with e | e; exact h3F e; have := B3.out.lt; omega
            have hz5 := b6c.lt
            have HB5 := Lib.hid hB5; clear hB5 HB
            have HWB := Lib.hid hwb; clear hwb
            have HG5 := Lib.hid hg5; clear hg5
            have HC5 := Lib.hid hc5; clear hc5
            have HF5 := Lib.hid hF5; clear hF5
            have BB6 := Lib.hid b6c; clear b6c
            have BB3 := Lib.hid b3; clear b3
            go_wp2_with fail
            refine HB5.out.mono ?_
            rintro e w6 ⟨rb', cap', rfl, hrg6, hc6, hfr⟩
            have hbt6 := HWB.out.next (G' := X.1) HG5.out HC5.out HF5.out hrg6 hc6 hfr
            have hrb' : rb' ≠ b6 := by rcases hfr with e | e <;> omega
            have hlo' : w.heap.size + 2 ≤ rb' := by rcases hfr with e | e <;> omega
            obtain ⟨G1, r1, e1⟩ := X
            simp only at hbt6 hrg6
            have b6c := BB6.out.ch hc6 (by simp)
            have b3 := BB3.out.ch hc6 (by simp)
            have f0 := b6c.frozen (i := 0)
            have f1 := b6c.frozen (i := 1)
            have y0 := b6c.cell (i := 0) rfl
            have y1 := b6c.cell (i := 1) rfl
            have HBT6 := Lib.hid hbt6; clear hbt6
            have BC6 := Lib.hid b6c; clear b6c
            have BC3 := Lib.hid b3; clear b3
            clear HB5 HG5 HC5 HF5 BB6 BB3 hrg6 hc6 hfr HA4 HWB
            go_wp2_with fail
            go_roundw
            case rel =>
              have hcs := set2_ch (w := w6) (b := b6) (u := .int .i64 G1.most) (v := .slice (some ⟨rb', 0, none⟩) G1.nodes.length cap') rfl
              exact ⟨k + 1, G1, F', rb', cap', by omega, by omega, by go_num, HBT6.out.set hcs h6F' hrb' (by omega), h6F', h3F', hrb', hlo', (BC6.out.set (i := 0) _).set (i := 1) _, BC3.out.ch hcs (by simp; omega)⟩
            case measure => simp [intOf]; omega
        · have HBT := Lib.hid hbt; clear hbt
          have z0 := b3.cell (i := 0) rfl
          have z1 := b3.cell (i := 1) rfl
          have g0 := b3.frozen (i := 0)
          have g1 := b3.frozen (i := 1)
          clear b6c b3
          go_wp2_with fail
          refine Ord.St.door (fun _ => True) [.fl, .rd, .fl, .ef] [0, 0, 1, 7] [0, 1, 2, 3] mixed (by kernel_rfl) rfl ?_
          refine Ord.St.fl2 (T' := ?_) 0 [1, 2, 3] _ _ rfl (by kernel_rfl) rfl rfl rfl rfl (fun K w' hk => ?_) ?_
          rotate_left
          · go_step; exact hk
          refine Ord.St.rd2 (T' := ?_) 1 [2, 3] _ _ rfl (by kernel_rfl) rfl rfl rfl rfl (fun K hk => ?_) ?_
          rotate_left
          · go_step; exact hk
          refine Ord.St.fl2 (T' := ?_) 2 [3] _ _ rfl (by kernel_rfl) rfl rfl rfl rfl (fun K w' hk => ?_) ?_
          rotate_left
          · go_step; exact hk
          refine Ord.St.ef 3 [] _ rfl (by kernel_rfl) (fun K hK => ?_)
          go_wp2_with fail
          refine ⟨rfl, hK _ _ ?_⟩; clear hK K
          refine Ord.St.nil ?_
          go_wp2_with fail
          have hcs : Ch [w.heap.size + 1] wr ((wr.setCell ⟨w.heap.size + 1, 0, none⟩ (.int .i64 G.most)).setCell ⟨w.heap.size + 1, 1, none⟩ (.slice (some ⟨rb, 0, none⟩) G.nodes.length cap)).drew := (((Ch.refl _ _).setCell (by simp) _).setCell (by simp) _).drew
          refine bodyPost_ret (v := .tuple #[.pointer (some ⟨g, 0, none⟩), .agg #[.int .i64 G.most, .slice (some ⟨rb, 0, none⟩) G.nodes.length cap]]) (by simp [results, Tryz.results73, go_sem, z0, z1]) rfl ?_
          exact ⟨g, F, rb, cap, G, rfl, HBT.out.set hcs h3F (by omega) (by omega)⟩
end
end Go.Proofs.YtehljgigebhddaaGreat
namespace Go.Proofs.YtehljgigebhddaaGreat
open Go.RowKit Go.Mem Go.Aig
theorem Sl.ch2 {F : List Nat} {w w' : World} {a : Option Addr} {xs : List Int} (h : Sl w a xs) (hc : Ch F w w') (hF : 0 < xs.length → ∀ p, a = some p → p.block ∉ F) : Sl w' a xs :=
  ⟨fun i x hx => by
    obtain ⟨b, o, rfl, hcell⟩ := h.cells i x hx
    have hlt := (List.getElem?_eq_some_iff.1 hx).1
    exact ⟨b, o, rfl, (hc.cell (p := ⟨b, o + i, none⟩) (cell_lt hcell) (hF (by omega) ⟨b, o, none⟩ rfl)).trans hcell⟩, h.bd⟩
end Go.Proofs.YtehljgigebhddaaGreat
namespace Go.Proofs.YtehljgigebhddaaGreat
open Go.RowKit Go.Mem Go.Aig
/-- blocks keep their length -/
def ShqB (w w' : World) : Prop := ∀ b ys, blk w b ys → ∃ ys', blk w' b ys' ∧ ys'.length = ys.length
theorem ShqB.refl (w : World) : ShqB w w := fun _ ys h => ⟨ys, h, rfl⟩
theorem ShqB.set {w w' : World} (h : ShqB w w') (b k : Nat) (v : Value) : ShqB w (w'.setCell ⟨b, k, none⟩ v) := fun c ys hc => by
  obtain ⟨zs, h1, h2⟩ := h c ys hc
  by_cases e : c = b
  · subst e; exact ⟨_, h1.set (i := k) v, by simpa using h2⟩
  · exact ⟨zs, h1.other e v, h2⟩
theorem ShqB.cell {w w' : World} {e : TypeId} {a : Option Addr} {n c k : Nat} {xs : List Value} (h : ShqB w w') (hr : row w e 1 (.slice a n c) n xs) (hk : k < n) : ∃ (b : Nat) (old : Value), a = some ⟨b, 0, none⟩ ∧ w'.cell? ⟨b, k, none⟩ = some old ∧ w'.frozen? ⟨b, k, none⟩ = false := by
  obtain ⟨b, ys, e1, hb, hl⟩ := rowBlk hr k hk
  obtain ⟨zs, h1, h2⟩ := h b ys hb
  exact ⟨b, _, e1, h1.cell (List.getElem?_eq_getElem (show k < zs.length by omega)), h1.frozen⟩
theorem natInts_len' (l : List Nat) : (natInts l).length = l.length := by simp [natInts]
/-- what an act leaves: both graphs, changed in the same way -/
def ATo (W w : World) (g rb : Nat) (F : List Nat) (e : Ending) (w' : World) : Prop := ∃ G' F' rb' cap', e = .returned (.tuple #[.agg #[.int .i64 G'.most, .slice (some ⟨rb', 0, none⟩) G'.nodes.length cap'], .bool true]) ∧ Both W w' g rb' cap' G' F' ∧ (∀ q ∈ F', q ∈ F ∨ w.heap.size ≤ q) ∧ (rb' = rb ∨ w.heap.size ≤ rb') ∧ Ch F w w'
theorem ATo.of {W w w' : World} {g rb cap : Nat} {G : Gra} {F : List Nat} (hb : Both W w g rb cap G F) {G' : Gra} {F' : List Nat} {rb' cap' : Nat} (hg : GIn w' g G' F') (hr : RG w' rb' cap' G') (hap : rb' ∉ F') (hfn : ∀ q ∈ F', q ∈ F ∨ w.heap.size ≤ q) (hfr : rb' = rb ∨ w.heap.size ≤ rb') (hc : Ch F w w') :
    ATo W w g rb F (.returned (.tuple #[.agg #[.int .i64 G'.most, .slice (some ⟨rb', 0, none⟩) G'.nodes.length cap'], .bool true])) w' := by
  have hz := hb.ch.size
  have hlo := hb.rlo
  refine ⟨G', F', rb', cap', rfl, ⟨hg, hr, hap, fun q hq => ?_, by omega, hb.ch.trans hc (fun q hq => .inr (hb.own q hq))⟩, hfn, hfr, hc⟩
  rcases hfn q hq with e | e
  · exact hb.own q e
  · omega
section
end
end Go.Proofs.YtehljgigebhddaaGreat
namespace Go.Proofs.YtehljgigebhddaaGreat
open Go.ChangeShapes Go.WideShapes Go.ChangeAt Go.RowKit Go.Mem Go.Aig Go.Deep
section
variable {H : Type} {enc : TypeId × Value → H} {W : World}
set_option maxRecDepth 100000 in
theorem start_open23 {r : Reach} {b0 : Nat} {v : Value} {d : DataW H} {p : List MemPlace} (hv : Value.okWide Tryz.prog W r b0 23 v) (h : DataW.Trod enc Tryz.prog W 0 (fun _ => true) true 23 v d p) :
    ∃ (M : Int) (N : Nat), v = .agg #[.int .i64 M, .int .u8 N] ∧ (Lit.int .i64 M).wf = true ∧ N ≤ 255 := by
  obtain ⟨c0, c1, y0, y1, m, rfl, _, _, hy0, hy1⟩ := Joins.open_agg2 Tryz.underlying23 (by kernel_rfl) (by kernel_rfl) hv h
  obtain ⟨a, e0, _, wa⟩ := DataW.trod_int Tryz.underlying3 hy0
  obtain ⟨b, e1, _, wb⟩ := DataW.trod_int Tryz.underlying5 hy1
  simp at e0 e1
  subst e0 e1
  obtain ⟨k, rfl, hk⟩ := wf_u8 wb
  exact ⟨a, k, rfl, wa, hk⟩
end
end Go.Proofs.YtehljgigebhddaaGreat
namespace Go.Aig
def bad24 (n0 : Nat) (x : List Int) : Bool := decide (x.length < 1) || (decide (16 < x.length) || decide (x.length ≠ n0))
/-- what check of muldiv finds wrong -/
def chk24 (G : Gra) (ws : List (List Int)) : Nat :=
  if ws.any (bad24 (ws.headD []).length) then 240 else if ws.any (badIn G) then 200 else 0
end Go.Aig
namespace Go.Proofs.YtehljgigebhddaaGreat
open Go.RowKit Go.Mem Go.Aig
/-- the value with which muldiv stops -/
def stopV (er : Nat) : Value := .iface 348 (.agg #[.int .i64 er])
section
variable {w : World} {g : Nat} {G : Gra} {F : List Nat}
theorem fnvmdcheck1 : Fnv 289 := fnv_of Tryz.func289 (by simp [Tryz.f289]) (by simp [Tryz.f289])
set_option maxRecDepth 100000 in
set_option maxHeartbeats 1000000 in
theorem mdcheck1_is (h : GIn w g G F) {bx : Nat} (hb : w.cell? ⟨bx, 0, none⟩ = some (.pointer (some ⟨g, 0, none⟩))) (r : Int) (hr : r ≤ 9223372036854775807) :
    Calls Tryz.prog 289 (#[.int .i64 r] ++ #[.pointer (some ⟨bx, 0, none⟩)]) w fun e w' => e = .returned (.bool (!right G.nodes r)) ∧ w = w' := by
  show Calls Tryz.prog 289 #[.int .i64 r, .pointer (some ⟨bx, 0, none⟩)] w _
  have HR := Right_g h r hr
  clear h
  generalize right G.nodes r = q at *
  go_enter Tryz.func289, Tryz.ntmps289
  go_wp2_with fail
  refine HR.mono ?_
  rintro e w' ⟨rfl, rfl⟩
  go_wp2_with fail
  go_ret
  exact ⟨ret_bool rfl, rfl⟩
set_option maxRecDepth 100000 in
set_option maxHeartbeats 4000000 in
theorem mdcheck_is (h : GIn w g G F) {b : Nat} {ws : List WV} (n c : Nat) (hn : ws.length = n) (hn0 : n ≤ 2) (hc : ∀ i x, ws[i]? = some x → w.cell? ⟨b, i, none⟩ = some x.val) (hS : ∀ x ∈ ws, WVok w x) :
    Calls Tryz.prog 207 #[.pointer (some ⟨g, 0, none⟩), .slice (some ⟨b, 0, none⟩) n c] w fun e w' => e = .returned (.int .i64 (chk24 G (ws.map WV.l))) ∧ Ch [] w w' := by
  subst hn
  have hW1 : Ch [] w (w.alloc (.cells #[.pointer (some ⟨g, 0, none⟩)] 42)) := (Ch.refl _ _).alloc _
  have H1 := h.same hW1 (by simp)
  have HL := Len_g H1
  have b1 : (w.alloc (.cells #[.pointer (some ⟨g, 0, none⟩)] 42)).cell? ⟨w.heap.size, 0, none⟩ = some (.pointer (some ⟨g, 0, none⟩)) := by go_simp
  have hpos := h.ok.wf.pos
  have HCF : ∀ x ∈ ws, Calls Tryz.prog 40 #[.slice x.a x.l.length x.c, .func (.func 289) #[] #[.pointer (some ⟨w.heap.size, 0, none⟩)]] (w.alloc (.cells #[.pointer (some ⟨g, 0, none⟩)] 42)) fun e w' => e = .returned (.bool (badIn G x.l)) ∧ (w.alloc (.cells #[.pointer (some ⟨g, 0, none⟩)] 42)) = w' := fun x hx =>
    CFref_is x.c 289 #[.pointer (some ⟨w.heap.size, 0, none⟩)] (fun r => !right G.nodes r) ((hS x hx).ch hW1 (by simp)).sl (fun r hr => mdcheck1_is H1 b1 r ((hS x hx).bd r hr).2) fnvmdcheck1
  have hcc : ∀ i x, ws[i]? = some x → (w.alloc (.cells #[.pointer (some ⟨g, 0, none⟩)] 42)).cell? ⟨b, i, none⟩ = some (.slice x.a x.l.length x.c) := fun i x hx => (hW1.cell (p := ⟨b, i, none⟩) (cell_lt (hc i x hx)) (by simp)).trans (hc i x hx)
  have hlen : ∀ x ∈ ws, x.l.length ≤ 1000000 := fun x hx => (hS x hx).len
  have hroom := h.ok.room
  have hmost := h.ok.most
  have hp0 : ((G.nodes.length : Int) == 0) = false := beqN (by omega)
  have HCC := Lib.hid hcc; clear hcc
  have HCF := Lib.hid HCF
  clear hc hS h H1 b1
  generalize hWC : chk24 G (ws.map WV.l) = WC
  have HWC := Lib.hid hWC; clear hWC
  have HW1 := Lib.hid hW1; clear hW1
  have HLEN := Lib.hid hlen; clear hlen
  go_enter Tryz.func207, Tryz.ntmps207
  go_wp2_with fail
  refine HL.mono ?_
  rintro e w' ⟨rfl, rfl⟩
  go_wp2_with fail
  go_loopw [14] (fun i wr => ∃ k : Nat, k ≤ ws.length ∧ i = .int .i64 k ∧ wr = w.alloc (.cells #[.pointer (some ⟨g, 0, none⟩)] 42) ∧ ((ws.map WV.l).take k).any (bad24 ((ws.map WV.l).headD []).length) = false) (fun i _ => ws.length - (intOf i).toNat)
  case atStart => exact ⟨0, by omega, rfl, rfl, rfl⟩
  case round =>
    obtain ⟨k, hk, rfl, rfl, hno⟩ := hrel
    by_cases hlt : k < ws.length
    · obtain ⟨x, hx⟩ : ∃ x, ws[k]? = some x := ⟨_, List.getElem?_eq_getElem hlt⟩
      obtain ⟨x0, hx0⟩ : ∃ x0, ws[0]? = some x0 := ⟨_, List.getElem?_eq_getElem (by omega)⟩
      have c0 := HCC.out 0 x0 hx0
      have c1 := HCC.out k x hx
      have hh0 : ((ws.map WV.l).headD []).length = x0.l.length := by
        cases ws with
        | nil => cases hx0
        | cons y ws => simp at hx0; subst hx0; rfl
      have hxm : (ws.map WV.l)[k]? = some x.l := by simp [hx]
      have hxl := HLEN.out x (List.mem_of_getElem? hx)
      have hx0l := HLEN.out x0 (List.mem_of_getElem? hx0)
      have hyes : (decide (x.l.length < 1) || (decide (16 < x.l.length) || decide (x.l.length ≠ x0.l.length))) = true → WC = 240 := fun hb0 => by
        have hb : bad24 x0.l.length x.l = true := hb0
        rw [← HWC.out]
        unfold chk24
        rw [hh0, if_pos (List.any_eq_true.2 ⟨x.l, List.mem_of_getElem? hxm, hb⟩)]
      have hnx : (decide (x.l.length < 1) || (decide (16 < x.l.length) || decide (x.l.length ≠ x0.l.length))) = false → ((ws.map WV.l).take (k + 1)).any (bad24 ((ws.map WV.l).headD []).length) = false := fun hb0 => by
        have hb : bad24 x0.l.length x.l = false := hb0
        rw [List.take_add_one, hxm, List.any_append, hno, hh0]; simp [hb]
      have HYES := Lib.hid hyes; clear hyes
      have HNX := Lib.hid hnx; clear hnx hno hh0 hxm hx hx0
      generalize x.l.length = n1 at *
      generalize x0.l.length = n0 at *
      by_cases h1 : n1 < 1
      · have hy := HYES.out (by rw [decide_eq_true h1]; rfl)
        have d1 : decide (n1 < 1) = true := decide_eq_true h1
        have d1b : decide ((n1 : Int) < 1) = true := decide_eq_true (by omega)
        subst hy
        go_wp2_with fail
        try simp only [Exit.noGoto]
        go_ret
        exact ⟨rfl, HW1.out⟩
      have d1 : decide (n1 < 1) = false := decide_eq_false h1
      have d1b : decide ((n1 : Int) < 1) = false := decide_eq_false (by omega)
      by_cases h2 : 16 < n1
      · have hy := HYES.out (by rw [decide_eq_true h2]; simp)
        have d2 : decide (16 < n1) = true := decide_eq_true h2
        subst hy
        go_wp2_with fail
        try simp only [Exit.noGoto]
        go_ret
        exact ⟨rfl, HW1.out⟩
      have d2 : decide (16 < n1) = false := decide_eq_false h2
      by_cases h3 : n1 = n0
      · have hy := HNX.out (by rw [d1, d2, decide_eq_false (by simpa using h3)]; rfl)
        have d3 : ((n1 : Int) != (n0 : Int)) = false := by rw [h3]; simp
        have HY := Lib.hid hy; clear hy h3
        go_wp2_with fail
        go_roundw
        case rel => exact ⟨k + 1, by omega, by go_num, by first | trivial | rfl, HY.out⟩
        case measure => simp [intOf]; omega
      · have hy := HYES.out (by rw [decide_eq_true (by simpa using h3 : n1 ≠ n0)]; simp)
        have d3 : ((n1 : Int) != (n0 : Int)) = true := by rw [bne_iff_ne]; omega
        subst hy
        go_wp2_with fail
        try simp only [Exit.noGoto]
        go_ret
        exact ⟨rfl, HW1.out⟩
    · rw [List.take_of_length_le (by simp; omega)] at hno
      have hWC : WC = if (ws.map WV.l).any (badIn G) then 200 else 0 := by
        rw [← HWC.out]; unfold chk24; rw [hno]; rfl
      have HWC2 := Lib.hid hWC; clear hWC hno HWC
      go_wp2_with fail
      go_loopw [38] (fun i wr => ∃ k : Nat, k ≤ ws.length ∧ i = .int .i64 k ∧ wr = w.alloc (.cells #[.pointer (some ⟨g, 0, none⟩)] 42) ∧ ((ws.map WV.l).take k).any (badIn G) = false) (fun i _ => ws.length - (intOf i).toNat)
      case atStart => exact ⟨0, by omega, rfl, rfl, rfl⟩
      case round =>
        obtain ⟨k, hk, rfl, rfl, hno⟩ := hrel
        by_cases hlt : k < ws.length
        · obtain ⟨x, hx⟩ : ∃ x, ws[k]? = some x := ⟨_, List.getElem?_eq_getElem hlt⟩
          have c1 := HCC.out k x hx
          have hxm : (ws.map WV.l)[k]? = some x.l := by simp [hx]
          have hxl := HLEN.out x (List.mem_of_getElem? hx)
          have HC := HCF.out x (List.mem_of_getElem? hx)
          have hnx : badIn G x.l = false → ((ws.map WV.l).take (k + 1)).any (badIn G) = false := fun hb => by
            rw [List.take_add_one, hxm, List.any_append, hno]; simp [hb]
          have hyes : badIn G x.l = true → WC = 200 := fun hb => by
            rw [HWC2.out, if_pos (List.any_eq_true.2 ⟨x.l, List.mem_of_getElem? hxm, hb⟩)]
          have HYES := Lib.hid hyes; clear hyes
          have HNX := Lib.hid hnx; clear hnx hno hxm hx
          generalize badIn G x.l = t at *
          have HX := Lib.hid HC; clear HC
          cases t
          · have hy := HNX.out rfl
            have HY := Lib.hid hy; clear hy
            go_wp2_with fail
            refine HX.out.mono ?_
            rintro e w' ⟨rfl, rfl⟩
            go_wp2_with fail
            go_roundw
            case rel => exact ⟨k + 1, by omega, by go_num, by first | trivial | rfl, HY.out⟩
            case measure => simp [intOf]; omega
          · have hy := HYES.out rfl
            subst hy
            go_wp2_with fail
            refine HX.out.mono ?_
            rintro e w' ⟨rfl, rfl⟩
            go_wp2_with fail
            try simp only [Exit.noGoto]
            go_ret
            exact ⟨rfl, HW1.out⟩
        · rw [List.take_of_length_le (by simp; omega)] at hno
          have hz : WC = 0 := by rw [HWC2.out, hno]; rfl
          subst hz
          go_wp2_with fail
          go_ret
          exact ⟨rfl, HW1.out⟩
end
/-- what must does with an error: it stops -/
def MustTo (v : Value) (er : Nat) (w : World) (e : Ending) (w' : World) : Prop := w = w' ∧ ((er = 0 ∧ e = .returned v) ∨ (er ≠ 0 ∧ e = .panicked [{ v := stopV er, recovered := false }]))
set_option maxRecDepth 100000 in
set_option maxHeartbeats 1000000 in
theorem mdmustR_is (w : World) (r : Int) (er : Nat) : Calls Tryz.prog 291 #[.int .i64 r, .int .i64 er] w (MustTo (.int .i64 r) er w) := by
  unfold MustTo
  by_cases h : er = 0
  · subst h
    go_enter Tryz.func291, Tryz.ntmps291
    go_wp2_with fail
    go_ret
    first | exact ⟨trivial, .inl ⟨rfl, rfl⟩⟩ | exact ⟨rfl, .inl ⟨rfl, rfl⟩⟩ | simp
  · have d : ((er : Int) != 0) = true := by rw [bne_iff_ne]; omega
    go_enter Tryz.func291, Tryz.ntmps291
    go_wp2_with fail
    exact ⟨rfl, rfl, .inr ⟨h, rfl⟩⟩
set_option maxRecDepth 100000 in
set_option maxHeartbeats 1000000 in
theorem mdmustW_is (w : World) (a : Option Addr) (n c : Nat) (er : Nat) : Calls Tryz.prog 292 #[.slice a n c, .int .i64 er] w (MustTo (.slice a n c) er w) := by
  unfold MustTo
  by_cases h : er = 0
  · subst h
    go_enter Tryz.func292, Tryz.ntmps292
    go_wp2_with fail
    go_ret
    first | exact ⟨trivial, .inl ⟨rfl, rfl⟩⟩ | exact ⟨rfl, .inl ⟨rfl, rfl⟩⟩ | simp
  · have d : ((er : Int) != 0) = true := by rw [bne_iff_ne]; omega
    go_enter Tryz.func292, Tryz.ntmps292
    go_wp2_with fail
    exact ⟨rfl, rfl, .inr ⟨h, rfl⟩⟩
end Go.Proofs.YtehljgigebhddaaGreat
namespace Go.Proofs.YtehljgigebhddaaGreat
open Go.RowKit Go.Mem Go.Aig
section
variable {w : World} {g : Nat} {G : Gra} {F : List Nat}
set_option maxRecDepth 100000 in
set_option maxHeartbeats 2000000 in
theorem mdbuild1_stop (h : GIn w g G F) {bg bn be : Nat} (n : Nat) (hn : n ≤ 1000000) (er : Nat) (older : List PanicEntry) (h1 : blk w bg [.pointer (some ⟨g, 0, none⟩)]) (h2 : blk w bn [.int .i64 n]) (h3 : blk w be [.int .i64 0]) (hb : be ∉ F) :
    CallsD Tryz.prog 290 #[.pointer (some ⟨bg, 0, none⟩), .pointer (some ⟨bn, 0, none⟩), .pointer (some ⟨be, 0, none⟩)] (.panicking ({ v := stopV er, recovered := false } :: older)) w fun e u' w' =>
      e = .returned (.tuple #[]) ∧ u' = .panicking ({ v := stopV er, recovered := true } :: older) ∧ ∃ F', GIn w' g (doCut G n).1 F' ∧ Ch (be :: F) w w' ∧ (∀ k ∈ F', k ∈ F ∨ w.heap.size ≤ k) ∧ F'[2]? = F[2]? ∧ blk w' be [.int .i64 er] := by
  have c1 := (h1.alloc (.cells #[.int .i64 er] 348)).cell (i := 0) rfl
  have c2 := (h2.alloc (.cells #[.int .i64 er] 348)).cell (i := 0) rfl
  have hbl := h3.lt
  have hta : ∀ w : World, (Instr.typeAssert (.iface 348 (.agg #[.int .i64 er])) 20 348 true).run Tryz.prog w = .ok (.tuple #[.agg #[.int .i64 er], .bool true]) w := fun _ => by kernel_rfl
  refine callsD_of_wpS Tryz.func290 rfl fun c₀ cs hu => ?_
  apply wpS_seq
  apply wpS_region
  unfold stopV at hu
  simp [wpOpsS, go_sem, recoverD, hu, Tryz.ntmps290, Exit.thenS]
  refine wpS_of_wp ?_
  have hlt := h.lt
  have hcut := Cut_g (h.same (F' := []) ((Ch.refl [] w).alloc (.cells #[.int .i64 er] 348)) (by simp)) n (by omega) (by omega)
  have s0 := blk.new w [.int .i64 er] 348
  have t0 := h3.alloc (.cells #[.int .i64 er] 348)
  clear h h1 h2 h3
  go_wp2_with fail
  refine hcut.mono ?_
  rintro e w1 ⟨rfl, F1, hg1, hc1, hn1, h21⟩
  have s1 := (s0.ch hc1 (fun hm => by have := hlt _ hm; omega)).cell (i := 0) rfl
  have b1 := t0.ch hc1 hb
  have z1 := b1.cell (i := 0) rfl
  have y1 := b1.frozen (i := 0)
  have hbF : be ∉ F1 := fun hm => (hn1 _ hm).elim hb (fun e => by simp at e; omega)
  go_wp2_with fail
  clear hcut s0 t0 c1 c2 hta
  simp [bodyPostS, results, Tryz.results290]
  refine ⟨rfl, F1, hg1.same (F' := [be]) ((Ch.refl _ _).setCell (.inl (by simp)) _) (fun k hk hm => hbF (by simp at hm; exact hm ▸ hk)), ?_, fun k hk => (hn1 k hk).imp id (fun e => by simp at e; omega), h21, b1.set _⟩
  exact ((((Ch.refl (be :: F) w).alloc (.cells #[.int .i64 er] 348))).trans hc1 (fun k hk => .inl (List.mem_cons_of_mem _ hk))).setCell (.inl (by simp)) _
set_option maxRecDepth 100000 in
set_option maxHeartbeats 2000000 in
theorem mdbuild1_idle (w : World) (a b c : Value) : CallsD Tryz.prog 290 #[a, b, c] .returning w fun e u' w' => e = .returned (.tuple #[]) ∧ u' = .returning ∧ w' = w := by
  refine callsD_of_wpS Tryz.func290 rfl fun c₀ cs hu => ?_
  apply wpS_seq
  apply wpS_region
  simp [wpOpsS, go_sem, recoverD, hu, Tryz.ntmps290, Exit.thenS]
  refine wpS_of_wp ?_
  go_wp2_with fail
  cases c₀
  simp_all [bodyPostS, results, Tryz.results290]
/-- what a closure that may stop does: it is done, or it stops and the graph has grown -/
def Stops (w : World) (g : Nat) (G : Gra) (X F : List Nat) (er : Nat) (D : World → World → Prop) (e : Ending) (w' : World) : Prop :=
  (er = 0 ∧ e = .returned (.tuple #[]) ∧ D w w') ∨ (er ≠ 0 ∧ e = .panicked [{ v := stopV er, recovered := false }] ∧ ∃ G' F', Ext G G' ∧ GIn w' g G' F' ∧ Ch (X ++ F) w w' ∧ (∀ k ∈ F', k ∈ F ∨ w.heap.size ≤ k) ∧ F'[2]? = F[2]?)
/-- what build leaves of it -/
def Builds (w : World) (g : Nat) (G : Gra) (X F : List Nat) (er : Nat) (D : World → World → Prop) (w' : World) : Prop :=
  (er = 0 ∧ ∃ be W1 W2, w.heap.size ≤ be ∧ be < W1.heap.size ∧ Ch [] w W1 ∧ D W1 W2 ∧ Ch [be] W2 w') ∨ (er ≠ 0 ∧ ∃ F', GIn w' g G F' ∧ Ch (X ++ F) w w' ∧ (∀ k ∈ F', k ∈ F ∨ w.heap.size ≤ k) ∧ F'[2]? = F[2]?)
set_option maxRecDepth 100000 in
set_option maxHeartbeats 2000000 in
theorem mdbuild_is (h : GIn w g G F) (fid : Nat) (caps : Array Value) (hfn : Fnv fid) (X : List Nat) (hX : ∀ k ∈ X, k < w.heap.size) (er : Nat) (D : World → World → Prop) (hD : ∀ a b, D a b → Ch (X ++ F) a b)
    (hf : ∀ W, Ch [] w W → GIn W g G F → Calls Tryz.prog fid caps W (Stops W g G X F er D)) :
    Calls Tryz.prog 208 #[.pointer (some ⟨g, 0, none⟩), .func (.func fid) #[] caps] w fun e w' => e = .returned (.int .i64 er) ∧ Builds w g G X F er D w' := by
  have hg := h.lt
  have hok := h.ok
  have hroom := h.ok.room
  have hmost := h.ok.most
  have hmf : ∀ (fn : Fn) (first cap : Array Value) (w : World), (Instr.makeFunc fn first cap).run Tryz.prog w = .ok (.func fn first cap) w := fun _ _ _ _ => rfl
  have hcf : ∀ args w, (callFunc fid args).run Tryz.prog w = .ok (.enter fid args) w := hfn
  have ch1 : Ch [] w ((w.alloc (.cells #[.pointer (some ⟨g, 0, none⟩)] 42)).alloc (.cells #[.int .i64 0] 49)) := ((Ch.refl _ _).alloc _).alloc _
  have ch2 : Ch [] w (((w.alloc (.cells #[.pointer (some ⟨g, 0, none⟩)] 42)).alloc (.cells #[.int .i64 0] 49)).alloc (.cells #[.int .i64 G.nodes.length] 3)) := ch1.alloc _
  have HL := Len_g (h.same ch1 (by simp))
  have hb1 : blk (((w.alloc (.cells #[.pointer (some ⟨g, 0, none⟩)] 42)).alloc (.cells #[.int .i64 0] 49)).alloc (.cells #[.int .i64 G.nodes.length] 3)) w.heap.size [.pointer (some ⟨g, 0, none⟩)] := ((blk.new w _ _).alloc _).alloc _
  have hb2 : blk (((w.alloc (.cells #[.pointer (some ⟨g, 0, none⟩)] 42)).alloc (.cells #[.int .i64 0] 49)).alloc (.cells #[.int .i64 G.nodes.length] 3)) (w.heap.size + 1) [.int .i64 0] := (blk.new' _ _ (by simp)).alloc _
  have hb3 : blk (((w.alloc (.cells #[.pointer (some ⟨g, 0, none⟩)] 42)).alloc (.cells #[.int .i64 0] 49)).alloc (.cells #[.int .i64 G.nodes.length] 3)) (w.heap.size + 1 + 1) [.int .i64 G.nodes.length] := blk.new' _ _ (by simp)
  have hXF : ∀ k ∈ X ++ F, k < w.heap.size := fun k hk => (List.mem_append.1 hk).elim (hX k) (hg k)
  have HF := hf _ ch2 (h.same ch2 (by simp))
  generalize hW1 : (((w.alloc (.cells #[.pointer (some ⟨g, 0, none⟩)] 42)).alloc (.cells #[.int .i64 0] 49)).alloc (.cells #[.int .i64 G.nodes.length] 3)) = W1 at HF ch2 hb1 hb2 hb3
  have H := Lib.hid h; clear h
  have HOK := Lib.hid hok; clear hok
  have HB1 := Lib.hid hb1; clear hb1
  have HB2 := Lib.hid hb2; clear hb2
  have HB3 := Lib.hid hb3; clear hb3
  have HXF := Lib.hid hXF; clear hXF
  have HHG := Lib.hid hg; clear hg hX
  have HHD := Lib.hid hD; clear hD
  have CH2 := Lib.hid ch2; clear ch2
  clear hf ch1
  go_enter_defers Tryz.func208, Tryz.ntmps208
  go_wp2_with fail
  refine HL.mono ?_
  rintro e w' ⟨rfl, rfl⟩
  go_wp2_with fail
  refine HF.mono ?_
  rintro e w2 (⟨rfl, rfl, hd⟩ | ⟨he, rfl, G', F', hext, hG', hC, hF', hF2⟩)
  · have hC := HHD.out _ _ hd
    have b2 := HB2.out.ch hC (fun hm => by have := HXF.out _ hm; omega)
    have z2 := b2.cell (i := 0) rfl
    have y2 := b2.frozen (i := 0)
    go_wp2_with fail
    have b3 := b2.set (i := 0) (.int .i64 0)
    have z3 := b3.cell (i := 0) rfl
    refine leaves_cons (f := 290) (args := #[.pointer (some ⟨w.heap.size, 0, none⟩), .pointer (some ⟨w.heap.size + 1 + 1, 0, none⟩), .pointer (some ⟨w.heap.size + 1, 0, none⟩)]) (by simp) (by simp [go_sem]) ?_
    refine (mdbuild1_idle _ _ _ _).mono ?_
    rintro e u' w'' ⟨rfl, rfl, rfl⟩
    simp [Leaves, settle, results, Tryz.results208, go_sem, z3]
    exact .inl ⟨rfl, w.heap.size + 1, W1, w2, by omega, HB2.out.lt, CH2.out, hd, (Ch.refl _ _).setCell (.inl (by simp)) _⟩
  · have hnf : ∀ k, w.heap.size ≤ k → k ∉ X ++ F := fun k hk hm => by have := HXF.out _ hm; omega
    have b1 := HB1.out.ch hC (hnf _ (by omega))
    have b2 := HB2.out.ch hC (hnf _ (by omega))
    have b3 := HB3.out.ch hC (hnf _ (by omega))
    have hz1 := CH2.out.size
    have l1 := HB1.out.lt
    have l2 := HB2.out.lt
    have hnF : w.heap.size + 1 ∉ F' := fun hm => by
      rcases hF' _ hm with hm | hm
      · have := HHG.out _ hm; omega
      · omega
    have hst := mdbuild1_stop hG' G.nodes.length (by omega) er [] b1 b3 b2 hnF
    go_wp2_with fail
    refine leaves_cons (f := 290) (args := #[.pointer (some ⟨w.heap.size, 0, none⟩), .pointer (some ⟨w.heap.size + 1 + 1, 0, none⟩), .pointer (some ⟨w.heap.size + 1, 0, none⟩)]) (by simp) (by simp [go_sem]) ?_
    refine hst.mono ?_
    rintro e u' w'' ⟨rfl, rfl, F2, hG2, hC2, hF2', hF22, hbe⟩
    have z3 := hbe.cell (i := 0) rfl
    simp [Leaves, settle, results, Tryz.results208, go_sem, z3]
    rw [doCut_back HOK.out hext] at hG2
    refine .inr ⟨he, F2, hG2, ?_, fun k hk => ?_, hF22.trans hF2⟩
    · refine ((CH2.out.mono (F' := X ++ F) (by simp)).trans hC (fun k hk => .inl hk)).trans hC2 (fun k hk => ?_)
      rcases List.mem_cons.1 hk with rfl | hk
      · right; omega
      · rcases hF' _ hk with hk | hk
        · exact .inl (List.mem_append_right _ hk)
        · right; omega
    · rcases hF2' _ hk with hk | hk
      · rcases hF' _ hk with hk | hk
        · exact .inl hk
        · right; omega
      · have := hC.size
        right; omega
end
end Go.Proofs.YtehljgigebhddaaGreat
namespace Go.Aig
end Go.Aig
namespace Go.Proofs.YtehljgigebhddaaGreat
open Go.RowKit Go.Mem Go.Aig
theorem run_storeFunc {P : Program} {w : World} {a : Addr} {m : Mode} (f : Fn) (b c : Array Value) : (store a (.func f b c) m).run P w = stored P w a (.func f b c) m := run_store P w a _ m rfl
attribute [local go_sem] run_storeFunc
section
variable {w0 w1 w : World} {F0 : List Nat} {g : Nat} {G : Gra} {F : List Nat} {L : List (Value × List Int)} {bok bout bfn : Nat} {ok : Bool} {oa : Option Addr} {m oc : Nat} {vs : List Value}
end
end Go.Proofs.YtehljgigebhddaaGreat
namespace Go.Proofs.YtehljgigebhddaaGreat
open Go.RowKit Go.Mem Go.Aig
theorem row_at2 {w : World} {e : TypeId} {b n c : Nat} {vs : List Value} (h : row w e 1 (.slice (some ⟨b, 0, none⟩) n c) n vs) {k : Nat} {v : Value} (hk : vs[k]? = some v) : w.cell? ⟨b, k, none⟩ = some v := by
  have := h.cells (g := b) rfl k v hk
  rw [Addr.add_lit] at this
  simpa using this
theorem row_fz {w : World} {e : TypeId} {b n c : Nat} {vs : List Value} (h : row w e 1 (.slice (some ⟨b, 0, none⟩) n c) n vs) (hn : 0 < n) (k : Nat) : w.frozen? ⟨b, k, none⟩ = false := by
  obtain ⟨b', ys, e1, hb, _⟩ := rowBlk h 0 hn
  cases e1
  exact hb.frozen
end Go.Proofs.YtehljgigebhddaaGreat
namespace Go.Aig
/-- a word shifted: to the left (1), or to the right -/
def shL (side : Nat) (x : List Int) (n : Nat) : List Int := (List.range x.length).map fun i => if side = 1 then (if n ≤ i then x.getD (i - n) 0 else 0) else x.getD (i + n) 0
@[simp] theorem shL_len (side : Nat) (x : List Int) (n : Nat) : (shL side x n).length = x.length := by simp [shL]
end Go.Aig
namespace Go.Proofs.YtehljgigebhddaaGreat
open Go.RowKit Go.Mem Go.Aig
theorem row_fresh {w W : World} {l : List Int} {n : Nat} (hW : W = w.alloc (.cells (intCells l).toArray 52)) (hn : l.length = n) (hl : n ≤ 1000000) : row W 52 1 (.slice (some ⟨w.heap.size, 0, none⟩) n n) n (intCells l) := by
  subst hn hW
  have hx : (w.alloc (.cells (intCells l).toArray 52)).heap[w.heap.size]? = some (.cells (intCells l).toArray 52 (0, 0)) := heap_alloc_new w _
  exact ⟨by simp [intCells], .inr ⟨w.heap.size, l.length, (intCells l).toArray, rfl, by simp, hx, Nat.le_refl _, by unfold maxLen; omega, by simp [intCells], by rw [Nat.mul_one]; exact List.take_of_length_le (by simp [intCells])⟩⟩
section
variable {w : World}
end
end Go.Proofs.YtehljgigebhddaaGreat
namespace Go.Aig
theorem eachF_app (op : Mk → Nat → Nat → Mk × Nat) (s : Mk) (l m : List (Nat × Nat)) : eachF op s (l ++ m) = m.foldl (eachS op) (eachF op s l) := by unfold eachF; rw [List.foldl_append]
theorem eachS_bad (f : Gra → Nat → Nat → Res) : ∀ (m : List (Nat × Nat)) (q : Mk × List Nat), q.1.2 ≠ 0 → (m.foldl (eachS (rop f)) q).1 = q.1
  | [], _, _ => rfl
  | p :: m, q, h => by
    rw [List.foldl_cons]
    have e : (eachS (rop f) q p).1 = q.1 := by unfold eachS rop; rw [rstep_bad h]
    rw [eachS_bad f m _ (by rw [e]; exact h), e]
theorem eachF_bad (f : Gra → Nat → Nat → Res) (s : Mk) (l m : List (Nat × Nat)) (h : (eachF (rop f) s l).1.2 ≠ 0) : (eachF (rop f) s (l ++ m)).1 = (eachF (rop f) s l).1 := by
  rw [eachF_app, eachS_bad f m _ h]
theorem eachF_lenT (op : Mk → Nat → Nat → Mk × Nat) (s : Mk) (l : List (Nat × Nat)) : (eachF op s l).2.length = l.length := by
  have : ∀ (l : List (Nat × Nat)) (q : Mk × List Nat), (l.foldl (eachS op) q).2.length = q.2.length + l.length := by
    intro l
    induction l with
    | nil => intro q; rfl
    | cons p l ih => intro q; rw [List.foldl_cons, ih]; simp [eachS]; omega
  rw [eachF, this]; simp
end Go.Aig
namespace Go.Mem
end Go.Mem
namespace Go.Aig
/-- a step that makes a word -/
def wstep (s : Mk) (R : Gra × List Nat × Nat) : Mk × List Nat := if s.2 ≠ 0 then (s, []) else if R.2.2 ≠ 0 then ((s.1, R.2.2), []) else ((R.1, 0), R.2.1)
theorem wstep_bad {s : Mk} (h : s.2 ≠ 0) (R : Gra × List Nat × Nat) : wstep s R = (s, []) := by unfold wstep; rw [if_pos h]
theorem wstep_no {s : Mk} (h : s.2 = 0) {R : Gra × List Nat × Nat} (hR : R.2.2 ≠ 0) : wstep s R = ((s.1, R.2.2), []) := by unfold wstep; rw [if_neg (by simp [h]), if_pos hR]
theorem wstep_ok {s : Mk} (h : s.2 = 0) {R : Gra × List Nat × Nat} (hR : R.2.2 = 0) : wstep s R = ((R.1, 0), R.2.1) := by unfold wstep; rw [if_neg (by simp [h]), if_neg (by simp [hR])]
def addR (G : Gra) (x y : List Nat) : Gra × List Nat × Nat := wres G (sumW x.length (G, 0) (x.zip y) 0)
def subR (G : Gra) (x y : List Nat) : Gra × List Nat × Nat := wres G (sumW x.length (G, 0) (x.zip (y.map neg)) 1)
def leR (G : Gra) (x y : List Nat) : Res := negG (rres G (ltF (G, 0) (y.zip x)))
/-- the lower bits of a word, each with one bit -/
def andsF (s : Mk) (b : Nat) (l : List Nat) : Mk × List Nat := eachF (rop and) s (l.map fun a => (a, b))
theorem andsF_snoc (s : Mk) (b : Nat) (l : List Nat) (a : Nat) : andsF s b (l ++ [a]) = eachS (rop and) (andsF s b l) (a, b) := by
  unfold andsF
  rw [List.map_append]
  exact eachF_snoc _ _ _ _
theorem andsF_bad (s : Mk) (b : Nat) (l m : List Nat) (h : (andsF s b l).1.2 ≠ 0) : (andsF s b (l ++ m)).1 = (andsF s b l).1 := by
  unfold andsF at h ⊢
  rw [List.map_append]
  exact eachF_bad and s _ _ h
/-- one more bit of the second word -/
def prodS (x : List Nat) (q : Mk × List Nat) (p : Nat × Nat) : Mk × List Nat :=
  if p.2 = 0 then ((andsF q.1 p.1 (x.take (x.length - p.2))).1, List.replicate p.2 0 ++ (andsF q.1 p.1 (x.take (x.length - p.2))).2)
  else wstep (andsF q.1 p.1 (x.take (x.length - p.2))).1 (addR (andsF q.1 p.1 (x.take (x.length - p.2))).1.1 q.2 (List.replicate p.2 0 ++ (andsF q.1 p.1 (x.take (x.length - p.2))).2))
def prodF (x : List Nat) (s : Mk) (y : List Nat) : Mk × List Nat := y.zipIdx.foldl (prodS x) (s, [])
theorem prodF_snoc (x : List Nat) (s : Mk) (y : List Nat) (b : Nat) : prodF x s (y ++ [b]) = prodS x (prodF x s y) (b, y.length) := by
  unfold prodF
  rw [List.zipIdx_append, List.foldl_append]
  simp
theorem andsF_keep {s : Mk} (h : s.2 ≠ 0) (b : Nat) (l : List Nat) : (andsF s b l).1 = s := by
  have := andsF_bad s b [] l (by simpa [andsF, eachF] using h)
  simpa [andsF, eachF] using this
theorem prodS_bad (x : List Nat) (q : Mk × List Nat) (p : Nat × Nat) (h : q.1.2 ≠ 0) : (prodS x q p).1 = q.1 := by
  unfold prodS
  split
  · exact andsF_keep h _ _
  · rw [wstep_bad (by rw [andsF_keep h]; exact h)]
    exact andsF_keep h _ _
theorem prodF_bad (x : List Nat) (s : Mk) (y z : List Nat) (h : (prodF x s y).1.2 ≠ 0) : (prodF x s (y ++ z)).1 = (prodF x s y).1 := by
  induction z generalizing y with
  | nil => rw [List.append_nil]
  | cons b z ih =>
    have e : (prodF x s (y ++ [b])).1 = (prodF x s y).1 := by rw [prodF_snoc]; exact prodS_bad _ _ _ h
    rw [show y ++ b :: z = (y ++ [b]) ++ z by simp, ih (y ++ [b]) (by rw [e]; exact h), e]
theorem full_andX : Full2 and := fun _ h _ _ ha hb => and_full h ha hb
theorem andsF_lok {G : Gra} (hG : Ok G) {b : Nat} {l : List Nat} (hb : b < 2 * G.nodes.length) (hl : ∀ r ∈ l, r < 2 * G.nodes.length) : LOk G (andsF (G, 0) b l) :=
  eachF_lok hG full_andX _ (fun p hp => by obtain ⟨r, hr, rfl⟩ := List.mem_map.1 hp; exact ⟨hl r hr, hb⟩)
theorem andsF_len (s : Mk) (b : Nat) (l : List Nat) : (andsF s b l).2.length = l.length := by
  unfold andsF
  rw [eachF_lenT, List.length_map]
section
variable {x y : List Nat} {s : Mk} {Gp : Gra} {ol : List Nat} {k b : Nat} (hst : prodF x s (y.take k) = ((Gp, 0), ol)) (hb : y[k]? = some b)
include hst hb
theorem prodF_next : prodF x s (y.take (k + 1)) = prodS x ((Gp, 0), ol) (b, k) := by
  have hl := (List.getElem?_eq_some_iff.1 hb).1
  rw [List.take_add_one, hb, Option.toList_some, prodF_snoc, hst, List.length_take, Nat.min_eq_left (by omega)]
theorem prodF_stop {e : Nat} (h0 : e ≠ 0) (h : (prodS x ((Gp, 0), ol) (b, k)).1.2 = e) : (prodF x s y).1.2 = e := by
  have h1 := prodF_next hst hb
  have h2 := prodF_bad x s (y.take (k + 1)) (y.drop (k + 1)) (by rw [h1, h]; exact h0)
  rw [List.take_append_drop] at h2
  rw [h2, h1, h]
theorem prodF_and_stop {e : Nat} (h0 : e ≠ 0) (h : (andsF (Gp, 0) b (x.take (x.length - k))).1.2 = e) : (prodF x s y).1.2 = e := by
  refine prodF_stop hst hb h0 ?_
  unfold prodS
  split
  · exact h
  · rw [wstep_bad (by rw [h]; exact h0)]
    exact h
theorem prodF_add_stop {Gq : Gra} {ml : List Nat} (hk : k ≠ 0) (hA : andsF (Gp, 0) b (x.take (x.length - k)) = ((Gq, 0), ml)) (h0 : (addR Gq ol (List.replicate k 0 ++ ml)).2.2 ≠ 0) : (prodF x s y).1.2 = (addR Gq ol (List.replicate k 0 ++ ml)).2.2 := by
  refine prodF_stop hst hb h0 ?_
  unfold prodS
  rw [if_neg hk]
  simp only [hA]
  rw [wstep_no rfl h0]
theorem prodF_zero {Gq : Gra} {ml : List Nat} (hk : k = 0) (hA : andsF (Gp, 0) b (x.take (x.length - k)) = ((Gq, 0), ml)) : prodF x s (y.take (k + 1)) = ((Gq, 0), List.replicate k 0 ++ ml) := by
  rw [prodF_next hst hb]
  unfold prodS
  rw [if_pos hk]
  simp only [hA]
theorem prodF_more {Gq : Gra} {ml : List Nat} (hk : k ≠ 0) (hA : andsF (Gp, 0) b (x.take (x.length - k)) = ((Gq, 0), ml)) (h0 : (addR Gq ol (List.replicate k 0 ++ ml)).2.2 = 0) : prodF x s (y.take (k + 1)) = (((addR Gq ol (List.replicate k 0 ++ ml)).1, 0), (addR Gq ol (List.replicate k 0 ++ ml)).2.1) := by
  rw [prodF_next hst hb]
  unfold prodS
  rw [if_neg hk]
  simp only [hA]
  rw [wstep_ok rfl h0]
end
end Go.Aig
namespace Go.Proofs.YtehljgigebhddaaGreat
open Go.RowKit Go.Mem Go.Aig
/-- the graph, and two words of one's own -/
structure P2 (w : World) (g : Nat) (F : List Nat) (W : World) (Gp : Gra) (F' : List Nat) (ov : Value) (ol : List Nat) (pv : Value) (pl : List Nat) : Prop where
  gin : GIn W g Gp F'
  ch : Ch F w W
  own : ∀ k ∈ F', k ∈ F ∨ w.heap.size ≤ k
  f2 : F'[2]? = F[2]?
  orow : row W 52 1 ov ol.length (refsCells ol)
  olo : ∀ k, ov.ownBlock = some k → w.heap.size ≤ k ∧ k ∉ F'
  prow : row W 52 1 pv pl.length (refsCells pl)
  plo : ∀ k, pv.ownBlock = some k → w.heap.size ≤ k ∧ k ∉ F'
  ne : ∀ k, pv.ownBlock = some k → ov.ownBlock ≠ some k
/-- how a part ends that may stop -/
def MakesW (w : World) (g : Nat) (G : Gra) (F : List Nat) (R : Mk × List Nat) (e : Ending) (w' : World) : Prop :=
  (R.1.2 = 0 ∧ ∃ v, e = .returned v ∧ GVo w g R.1.1 [] F v R.2 w') ∨ (R.1.2 ≠ 0 ∧ e = .panicked [{ v := stopV R.1.2, recovered := false }] ∧ ∃ G' F', Ext G G' ∧ GIn w' g G' F' ∧ Ch F w w' ∧ (∀ k ∈ F', k ∈ F ∨ w.heap.size ≤ k) ∧ F'[2]? = F[2]?)
theorem P2.start {w wr W : World} {g : Nat} {F : List Nat} {Gp : Gra} {ov : Value} {ol : List Nat} (h : GVo w g Gp [] F ov ol wr) (k : Nat) (hk : k ≤ 1000000) (hW : W = wr.alloc (.cells (refsCells (List.replicate k 0)).toArray 52)) :
    ∃ F', P2 w g F W Gp F' ov ol (.slice (some ⟨wr.heap.size, 0, none⟩) k k) (List.replicate k 0) := by
  obtain ⟨F', h1, h2, h3, h4, h5, h6⟩ := h
  have hc : Ch [] wr W := by rw [hW]; exact (Ch.refl _ _).alloc _
  have hz := h2.size
  have hrow : row W 52 1 (.slice (some ⟨wr.heap.size, 0, none⟩) k k) k (refsCells (List.replicate k 0)) := by
    have := row_fresh (w := wr) (W := W) (l := List.replicate k 0) (n := k) (by rw [hW]; simp [intCells, refsCells]) (by simp) hk
    simpa [intCells, refsCells] using this
  refine ⟨F', h1.same hc (by simp), h2.trans hc (by simp), h3, h4, h5.ch hc (by simp), h6, by simpa using hrow, fun q hq => ?_, fun q hq he => ?_⟩
  · cases hq
    exact ⟨by simpa using hz, fun hm => absurd (h1.lt _ hm) (Nat.lt_irrefl _)⟩
  · cases hq
    exact absurd (h5.lt _ he).2 (Nat.lt_irrefl _)
theorem P2.to {w W W' : World} {g : Nat} {F F' : List Nat} {Gp G' : Gra} {ov pv : Value} {ol pl : List Nat} (h : P2 w g F W Gp F' ov ol pv pl) (ht : GTo W g G' F' W') : ∃ F1, P2 w g F W' G' F1 ov ol pv pl := by
  obtain ⟨F1, a1, a2, a3, a4⟩ := ht
  have hs := h.ch.size
  refine ⟨F1, a1, h.ch.trans a2 (fun q hq => h.own q hq), fun q hq => (a3 q hq).elim (h.own q) (fun e => .inr (by omega)), a4.trans h.f2, h.orow.ch a2 (fun q hq => (h.olo q hq).2), fun q hq => ⟨(h.olo q hq).1, fun hm => (a3 q hm).elim (h.olo q hq).2 (fun e => by have := (h.orow.lt q hq).2; omega)⟩, h.prow.ch a2 (fun q hq => (h.plo q hq).2), fun q hq => ⟨(h.plo q hq).1, fun hm => (a3 q hm).elim (h.plo q hq).2 (fun e => by have := (h.prow.lt q hq).2; omega)⟩, h.ne⟩
/-- one more bit of the second word -/
theorem P2.app {w W W1 W4 : World} {g : Nat} {F F' : List Nat} {Gp : Gra} {ov pv pv' : Value} {ol pl : List Nat} {r : Nat} (h : P2 w g F W Gp F' ov ol pv pl) (h1 : Ch [] W W1) (hrow : row W4 52 1 pv' (pl.length + 1) (refsCells pl ++ [.int .i64 r])) (hC : Ch pv.ownBlock.toList W1 W4) (hf : ∀ k, pv'.ownBlock = some k → pv.ownBlock = some k ∨ W1.heap.size ≤ k) :
    P2 w g F W4 Gp F' ov ol pv' (pl ++ [r]) := by
  have hs := h.ch.size
  have hs1 := h1.size
  have hc : Ch pv.ownBlock.toList W W4 := (h1.mono (by simp)).trans hC (fun k hk => .inl hk)
  refine ⟨h.gin.same hc (fun k hk hm => (h.plo k (by simpa using hm)).2 hk), h.ch.trans hc (fun k hk => .inr (h.plo k (by simpa using hk)).1), h.own, h.f2, h.orow.ch hc (fun k hk hm => h.ne k (by simpa using hm) hk), h.olo, by rw [List.length_append, show refsCells (pl ++ [r]) = refsCells pl ++ [.int .i64 r] by simp [refsCells]]; exact hrow, fun k hk => ?_, fun k hk he => ?_⟩
  · rcases hf k hk with e | e
    · exact h.plo k e
    · exact ⟨by omega, fun hm => by have := h.gin.lt k hm; omega⟩
  · rcases hf k hk with e | e
    · exact h.ne k e he
    · have := (h.orow.lt k he).2; omega
theorem P2.second {w W : World} {g : Nat} {F F' : List Nat} {Gp : Gra} {ov pv : Value} {ol pl : List Nat} (h : P2 w g F W Gp F' ov ol pv pl) : GVo w g Gp [] F pv pl W := ⟨F', h.gin, h.ch, h.own, h.f2, h.prow, h.plo⟩
theorem GVo.next' {w w1 w2 : World} {g : Nat} {G1 : Gra} {F F' : List Nat} {v : Value} {l : List Nat} (hc : Ch F w w1) (hF : ∀ k ∈ F', k ∈ F ∨ w.heap.size ≤ k) (h2 : F'[2]? = F[2]?) (h : GVo w1 g G1 [] F' v l w2) : GVo w g G1 [] F v l w2 := by
  obtain ⟨F1, a1, a2, a3, a4, a5, a6⟩ := h
  refine ⟨F1, a1, hc.trans a2 (fun k hk => hF k hk), fun k hk => (a3 k hk).elim (hF k) (fun e => .inr (Nat.le_trans hc.size e)), a4.trans h2, a5, fun k hk => ⟨Nat.le_trans hc.size (a6 k hk).1, (a6 k hk).2⟩⟩
theorem natsOf_len (l : List Nat) : (natInts l).length = l.length := by simp [natInts]
theorem wv_of_row {w : World} {F : List Nat} {a : Option Addr} {n c : Nat} {l : List Nat} (h : row w 52 1 (.slice a n c) l.length (refsCells l)) (hn : l.length = n) (hlo : ∀ k, (Value.slice a n c).ownBlock = some k → k ∉ F) (hl : l.length ≤ 1000000) (hb : ∀ r ∈ l, r ≤ 1000000) : WVin w F ⟨a, natInts l, c⟩ := by
  subst hn
  refine ⟨⟨Sl.of_row' h rfl hl, fun r hr => ?_, by rw [natsOf_len]; exact hl⟩, fun k hk => ?_⟩
  · obtain ⟨q, hq, rfl⟩ := List.mem_map.1 hr
    have := hb q hq
    omega
  · cases a with
    | none => simp [ablk] at hk
    | some p =>
      have hk : k = p.block := by simpa [ablk] using hk
      subst hk
      have hp : (Value.slice (some p) l.length c).ownBlock = some p.block := rfl
      exact ⟨hlo _ hp, (h.lt _ hp).2⟩
end Go.Proofs.YtehljgigebhddaaGreat
namespace Go.Aig
/-- a choice, bit by bit -/
def chF (c : Nat) (s : Mk) (l : List (Nat × Nat)) : Mk × List Nat := eachF (fun s a b => sMux s c a b) s l
theorem chF_snoc (c : Nat) (s : Mk) (l : List (Nat × Nat)) (p : Nat × Nat) : chF c s (l ++ [p]) = eachS (fun s a b => sMux s c a b) (chF c s l) p := eachF_snoc _ s l p
theorem chF_bad (c : Nat) (s : Mk) (a : List (Nat × Nat)) (h : (chF c s a).1.2 ≠ 0) : ∀ b, (chF c s (a ++ b)).1 = (chF c s a).1 := by
  intro b
  induction b generalizing a with
  | nil => rw [List.append_nil]
  | cons p b ih =>
    have e : (chF c s (a ++ [p])).1 = (chF c s a).1 := by
      rw [chF_snoc]
      show (sMux (chF c s a).1 c p.1 p.2).1 = _
      unfold sMux
      rw [rstep_bad h]
    rw [show a ++ p :: b = (a ++ [p]) ++ b by simp, ih (a ++ [p]) (by rw [e]; exact h), e]
end Go.Aig
namespace Go.Proofs.YtehljgigebhddaaGreat
open Go.RowKit Go.Mem Go.Aig
attribute [local go_sem] Oper.semAt_some
section
variable {w : World} {g m : Nat} {G : Gra} {F : List Nat}
end
end Go.Proofs.YtehljgigebhddaaGreat
namespace Go.Aig
theorem nats_natInts' (l : List Nat) : nats (natInts l) = l := Go.Proofs.YtehljgigebhddaaGreat.toNats l
theorem chk2_ok {G : Gra} {x y : List Nat} {n : Nat} (hx : x.length = n) (hy : y.length = n) (h1 : 1 ≤ n) (h17 : n ≤ 17) (hxr : ∀ r ∈ x, r < 2 * G.nodes.length) (hyr : ∀ r ∈ y, r < 2 * G.nodes.length) : chk G [natInts x, natInts y] = 0 := by
  have h : rightW (n : Int) = true := by unfold rightW; simp; omega
  have hb : ∀ z : List Nat, (∀ r ∈ z, r < 2 * G.nodes.length) → badIn G (natInts z) = false := fun z hz => by
    unfold badIn natInts
    rw [List.any_map, List.any_eq_false]
    intro r hr
    have := hz r hr
    simp [right]; omega
  unfold chk
  simp only [List.any_cons, List.any_nil, Bool.or_false, List.headD_cons, hb x hxr, hb y hyr, badAs, natInts_len, hx, hy, h]
  simp
theorem constL_le (x n : Nat) : ∀ r ∈ constL x n, r ≤ 1 := fun r hr => by
  unfold constL at hr
  obtain ⟨i, _, rfl⟩ := List.mem_map.1 hr
  cases x.testBit i <;> simp
end Go.Aig
namespace Go.Proofs.YtehljgigebhddaaGreat
open Go.RowKit Go.Mem Go.Aig
section
variable {w : World} {g m : Nat} {G : Gra} {F : List Nat}
end
end Go.Proofs.YtehljgigebhddaaGreat
namespace Go.Aig
section
variable {G : Gra} (hG : Ok G) {x y : List Nat} {n : Nat} (hxl : x.length = n) (hyl : y.length = n) (hxr : ∀ r ∈ x, r < 2 * G.nodes.length) (hyr : ∀ r ∈ y, r < 2 * G.nodes.length)
include hG hxr hyr
theorem addL_lok : LOk G (sumW x.length (G, 0) (x.zip y) 0) := sumF_lok hG _ _ (zip_lt hxr hyr) (by have := hG.wf.pos; omega)
theorem subL_lok : LOk G (sumW x.length (G, 0) (x.zip (y.map neg)) 1) := sumF_lok hG _ _ (zip_lt hxr (fun r hr => by obtain ⟨q, hq, rfl⟩ := List.mem_map.1 hr; exact neg_lt (hyr q hq))) (by have := hG.wf.pos; omega)
theorem addR_wok : WOk G (addR G x y) := (addL_lok hG hxr hyr).res hG
theorem subR_wok : WOk G (subR G x y) := (subL_lok hG hxr hyr).res hG
omit hG hxr hyr in
include hxl hyl in
theorem addR_len (he : (addR G x y).2.2 = 0) : (addR G x y).2.1.length = n := by
  unfold addR wres at he ⊢
  split
  · rename_i h0; rw [if_pos h0] at he; exact absurd he h0
  · show (sumW x.length (G, 0) (x.zip y) 0).2.length = n
    unfold sumW
    rw [Go.Proofs.YtehljgigebhddaaGreat.sumF_len, List.length_zip]
    omega
omit hG hxr hyr in
include hxl hyl in
theorem subR_len (he : (subR G x y).2.2 = 0) : (subR G x y).2.1.length = n := by
  unfold subR wres at he ⊢
  split
  · rename_i h0; rw [if_pos h0] at he; exact absurd he h0
  · show (sumW x.length (G, 0) (x.zip (y.map neg)) 1).2.length = n
    unfold sumW
    rw [Go.Proofs.YtehljgigebhddaaGreat.sumF_len, List.length_zip, List.length_map]
    omega
theorem leR_full : RFull G (leR G x y) := by
  have h := ltF_vok hG (y.zip x) (zip_lt hyr hxr)
  have hp := hG.wf.pos
  unfold leR rres
  split
  · rename_i h0
    rw [h.s.err.resolve_left h0]
    exact ⟨⟨hG, .refl _, by show 0 < 2 * G.nodes.length; omega, .inr rfl⟩, fun _ => rfl⟩
  · exact ⟨⟨h.s.ok, h.s.ext, neg_lt h.lt, .inl rfl⟩, fun he => absurd rfl he⟩
end
end Go.Aig
namespace Go.Proofs.YtehljgigebhddaaGreat
open Go.RowKit Go.Mem Go.Aig
section
variable {w : World} {g : Nat} {G : Gra} {F : List Nat} {x y : List Nat} {xa ya : Option Addr} {xc yc : Nat} (h : GIn w g G F) (n : Nat) (hxl : x.length = n) (hyl : y.length = n) (h1 : 1 ≤ n) (h17 : n ≤ 17)
  (hx : WVin w F ⟨xa, natInts x, xc⟩) (hy : WVin w F ⟨ya, natInts y, yc⟩) (hxr : ∀ r ∈ x, r < 2 * G.nodes.length) (hyr : ∀ r ∈ y, r < 2 * G.nodes.length)
include h hxl hyl h1 h17 hx hy hxr hyr
theorem sAddR : Calls Tryz.prog 293 #[.pointer (some ⟨g, 0, none⟩), .slice xa n xc, .slice ya n yc] w fun e w' => ∃ v, e = .returned (.tuple #[v, .int .i64 (addR G x y).2.2]) ∧ GVo w g (addR G x y).1 [] F v (addR G x y).2.1 w' := by
  have H := sAdd_is h hx hy
  simp only [WV.val, natInts_len, nats_natInts', hxl, hyl] at H
  unfold wordG at H
  rw [if_neg (by rw [chk2_ok hxl hyl h1 h17 hxr hyr]; simp)] at H
  unfold addR
  rw [hxl]
  exact H
theorem sSubR : Calls Tryz.prog 298 #[.pointer (some ⟨g, 0, none⟩), .slice xa n xc, .slice ya n yc] w fun e w' => ∃ v, e = .returned (.tuple #[v, .int .i64 (subR G x y).2.2]) ∧ GVo w g (subR G x y).1 [] F v (subR G x y).2.1 w' := by
  have H := sSub_is h hx hy
  simp only [WV.val, natInts_len, nats_natInts', hxl, hyl] at H
  unfold wordG at H
  rw [if_neg (by rw [chk2_ok hxl hyl h1 h17 hxr hyr]; simp)] at H
  unfold subR
  rw [hxl]
  exact H
theorem sLeR : Calls Tryz.prog 297 #[.pointer (some ⟨g, 0, none⟩), .slice xa n xc, .slice ya n yc] w fun e w' => e = .returned (.tuple #[.int .i64 (leR G x y).2.1, .int .i64 (leR G x y).2.2]) ∧ GTo w g (leR G x y).1 F w' := by
  have H := sLe_is h hx hy
  simp only [WV.val, natInts_len, nats_natInts', hxl, hyl] at H
  unfold refG at H
  rw [if_neg (by rw [chk2_ok hyl hxl h1 h17 hyr hxr]; simp)] at H
  unfold leR
  exact H
end
end Go.Proofs.YtehljgigebhddaaGreat
namespace Go.Proofs.YtehljgigebhddaaGreat
open Go.RowKit Go.Mem Go.Aig
section
variable {w : World} {g : Nat} {G : Gra} {F : List Nat}
theorem MakesW.stop {w W : World} {g : Nat} {G G' : Gra} {F F' : List Nat} (he : Ext G G') (h1 : GIn W g G' F') (h2 : Ch F w W) (h3 : ∀ k ∈ F', k ∈ F ∨ w.heap.size ≤ k) (h4 : F'[2]? = F[2]?) {R : Mk × List Nat} {er : Nat} (h0 : er ≠ 0) (hR : R.1.2 = er) : MakesW w g G F R (.panicked [{ v := stopV er, recovered := false }]) W :=
  .inr ⟨by rw [hR]; exact h0, by rw [hR], G', F', he, h1, h2, h3, h4⟩
set_option maxRecDepth 100000 in
set_option maxHeartbeats 4000000 in
theorem mdproduct_is (h : GIn w g G F) {x y : List Nat} {xa ya : Option Addr} {xc yc : Nat} (n : Nat) (hxl : x.length = n) (hyl : y.length = n) (h1 : 1 ≤ n) (h16 : n ≤ 16) (hxc : n ≤ xc)
    (hx : WVin w F ⟨xa, natInts x, xc⟩) (hy : WVin w F ⟨ya, natInts y, yc⟩) (hxr : ∀ r ∈ x, r < 2 * G.nodes.length) (hyr : ∀ r ∈ y, r < 2 * G.nodes.length) :
    Calls Tryz.prog 210 #[.pointer (some ⟨g, 0, none⟩), .slice xa n xc, .slice ya n yc] w (MakesW w g G F (prodF x (G, 0) y)) := by
  have hok := h.ok
  have HX := Lib.hid hx; clear hx
  have HY := Lib.hid hy; clear hy
  have HXR := Lib.hid hxr; clear hxr
  have HYR := Lib.hid hyr; clear hyr
  have H := Lib.hid h; clear h
  have HXL := Lib.hid hxl; clear hxl
  have HYL := Lib.hid hyl; clear hyl
  have HOK := Lib.hid hok; clear hok
  go_enter Tryz.func210, Tryz.ntmps210
  go_wp2_with fail
  go_loopw [7, 15] (fun ov i wr => ∃ (k : Nat) (Gp : Gra) (ol : List Nat), k ≤ n ∧ i = .int .i64 k ∧ prodF x (G, 0) (y.take k) = ((Gp, 0), ol) ∧ Ext G Gp ∧ (∀ r ∈ ol, r < 2 * Gp.nodes.length) ∧ (0 < k → ol.length = n) ∧ GVo w g Gp [] F ov ol wr) (fun _ i _ => n - (intOf i).toNat)
  case atStart => exact ⟨0, G, [], by omega, rfl, rfl, .refl _, by simp, by omega, GVo.nil H.out (Ch.refl _ _) (fun _ hk => .inl hk) rfl⟩
  case round =>
    obtain ⟨k, Gp, ol, hk, rfl, hst, hext, hol, holn, hv⟩ := hrel
    by_cases hlt : k < n
    · obtain ⟨b, hb⟩ : ∃ b, y[k]? = some b := ⟨_, List.getElem?_eq_getElem (by rw [HYL.out]; exact hlt)⟩
      have hcw : Ch F w wr := by obtain ⟨_, _, h2, _⟩ := hv; exact h2
      obtain ⟨yb, yo, rfl, hyc⟩ := HY.out.ok.sl.cells k (b : Int) (by simp [natInts, hb])
      have c0 := (hcw.cell (p := ⟨yb, yo + k, none⟩) (HY.out.apart yb (by simp [ablk])).2 (HY.out.apart yb (by simp [ablk])).1).trans hyc
      have hbr : b < 2 * Gp.nodes.length := hext.lt (HYR.out b (List.mem_of_getElem? hb))
      have hmk := run_make_refs wr k (by omega)
      have hV := Lib.hid hv; clear hv
      have HST := Lib.hid hst; clear hst
      have HEXT := Lib.hid hext; clear hext
      have HOL := Lib.hid hol; clear hol
      have HOLN := Lib.hid holn; clear holn
      have HB := Lib.hid hb; clear hb
      have HCW := Lib.hid hcw; clear hcw
      clear hyc
      go_wp2_with fail
      refine wp_named fun W0 hW0 => ?_
      obtain ⟨F0, hp0⟩ := P2.start hV.out k (by omega) hW0
      have hlim : (x.take (n - k)).length = n - k := by rw [List.length_take, HXL.out]; omega
      obtain ⟨X, hX⟩ : ∃ X, x.take (n - k) = X := ⟨_, rfl⟩
      have hXr : ∀ r ∈ X, r < 2 * Gp.nodes.length := fun r hr => HEXT.out.lt (HXR.out r (by rw [← hX] at hr; exact List.mem_of_mem_take hr))
      have hXat : ∀ j a, X[j]? = some a → x[j]? = some a := fun j a ha => by
        rw [← hX] at ha
        rw [List.getElem?_take] at ha
        split at ha
        · exact ha
        · cases ha
      rw [hX] at hlim
      have HP0 := Lib.hid hp0; clear hp0
      have HXX := Lib.hid hX; clear hX
      have HLIM := Lib.hid hlim; clear hlim
      have HXR2 := Lib.hid hXr; clear hXr
      have HXAT := Lib.hid hXat; clear hXat
      have hopA : Ok Gp := by obtain ⟨_, a, _⟩ := hV.out; exact a.ok
      have HOPA := Lib.hid hopA; clear hopA
      clear hW0 hmk c0
      go_loopw [10, 29] (fun pv i wq => ∃ (j : Nat) (Gq : Gra) (ml F' : List Nat), j ≤ n - k ∧ i = .int .i64 j ∧ andsF (Gp, 0) b (X.take j) = ((Gq, 0), ml) ∧ P2 w g F wq Gq F' u7 ol pv (List.replicate k 0 ++ ml)) (fun _ i _ => n - k - (intOf i).toNat)
      case atStart => exact ⟨0, Gp, [], F0, by omega, rfl, rfl, by simpa using HP0.out⟩
      case round =>
        obtain ⟨j, Gq, ml, F', hj, rfl, heq, hp⟩ := hrel
        have hlok := andsF_lok HOPA.out (l := X.take j) hbr (fun r hr => HXR2.out r (List.mem_of_mem_take hr))
        have hmll := andsF_len (Gp, 0) b (X.take j)
        rw [heq] at hlok hmll
        have hmll : ml.length = j := by rw [hmll, List.length_take]; have := HLIM.out; omega
        by_cases hjl : j < n - k
        · obtain ⟨a, ha⟩ : ∃ a, X[j]? = some a := ⟨_, List.getElem?_eq_getElem (by rw [HLIM.out]; exact hjl)⟩
          obtain ⟨xb, xo, rfl, hxc2⟩ := HX.out.ok.sl.cells j (a : Int) (by simp [natInts, HXAT.out j a ha])
          have c1 := (hp.ch.cell (p := ⟨xb, xo + j, none⟩) (HX.out.apart xb (by simp [ablk])).2 (HX.out.apart xb (by simp [ablk])).1).trans hxc2
          have haq := hlok.s.ext.lt (HXR2.out a (List.mem_of_getElem? ha))
          have hbq := hlok.s.ext.lt hbr
          have hAnd := And_r hp.gin haq hbq
          have hfa := and_full hlok.s.ok haq hbq
          have hsn : X.take (j + 1) = X.take j ++ [a] := by rw [List.take_add_one, ha]; rfl
          have hnx := andsF_snoc (Gp, 0) b (X.take j) a
          rw [heq, ← hsn] at hnx
          obtain ⟨Q, hQ⟩ : ∃ Q, Q = and Gq a b := ⟨_, rfl⟩
          have hopq : rop and (Gq, 0) a b = rstep (Gq, 0) Q := by rw [hQ]; rfl
          rw [← hQ] at hAnd hfa
          have hmust := fun W => mdmustR_is W (Q.2.1 : Int) Q.2.2
          have HAND := Lib.hid hAnd; clear hAnd
          have HFA := Lib.hid hfa; clear hfa
          have HNX := Lib.hid hnx; clear hnx
          have HP := Lib.hid hp; clear hp
          have HEQ := Lib.hid heq; clear heq
          have HOPQ := Lib.hid hopq; clear hopq
          have HLJ := Lib.hid hlok; clear hlok
          have HSN := Lib.hid hsn; clear hsn
          have HML := Lib.hid hmll; clear hmll
          have HMUST := Lib.hid hmust; clear hmust
          clear haq hbq hQ hxc2 HP0
          go_wp2_with fail
          refine HAND.out.mono ?_
          rintro e w6 ⟨rfl, hto⟩
          go_wp2_with fail
          refine (HMUST.out _).mono ?_
          rintro e w7 ⟨rfl, ⟨h0, rfl⟩ | ⟨h0, rfl⟩⟩
          · obtain ⟨F3, hp3⟩ := HP.out.to hto
            have hQlt := HFA.out.ok.lt
            have hQz : Q.2.2 = 0 := h0
            have hpl : (List.replicate k 0 ++ ml).length = k + j := by rw [List.length_append, List.length_replicate, HML.out]
            have hrow := hp3.prow
            rw [hpl] at hrow
            obtain ⟨pa, pc, rfl⟩ := row.shape hrow
            have hcA : Ch [] w6 (w6.alloc (.cells #[.int .i64 Q.2.1] 52)) := (Ch.refl _ _).alloc _
            have hrA := hrow.ch hcA (by simp)
            have hbA : blk (w6.alloc (.cells #[.int .i64 Q.2.1] 52)) w6.heap.size [.int .i64 Q.2.1] := blk.new' _ _ rfl
            have hnx := HNX.out
            unfold eachS at hnx
            simp only [HOPQ.out, rstep_ok (s := (Gq, 0)) rfl hQz] at hnx
            have HNX2 := Lib.hid hnx; clear hnx
            have HRA := Lib.hid hrA; clear hrA hrow
            have HBA := Lib.hid hbA; clear hbA
            have HCA := Lib.hid hcA; clear hcA
            have HP3 := Lib.hid hp3; clear hp3 hto
            clear hQz HMUST HAND
            go_wp2_with (at_builtin; go_loud (refine wpList_append_row slRefs rfl _ _ rfl (v := .slice pa (k + j) pc) (n := k + j) (xs := refsCells (List.replicate k 0 ++ ml)) rfl HRA.out (ad := ⟨w6.heap.size, 0, none⟩) (m := 1) (c := 1) (news := [.int .i64 Q.2.1]) rfl rfl (news_blk HBA.out) (by simp [Value.oneCell']) (by omega) (by omega) ?_; intro v' w5 hown4 hC4 hf4; have HO4 := Lib.hid hown4; clear hown4; have HCC4 := Lib.hid hC4; clear hC4; have HF4 := Lib.hid hf4; clear hf4))
            go_roundw
            case rel =>
              refine ⟨j + 1, Q.1, ml ++ [Q.2.1], F3, by omega, by go_num, HNX2.out, ?_⟩
              rw [← List.append_assoc]
              exact HP3.out.app HCA.out (by rw [hpl]; exact HO4.out) HCC4.out HF4.out
            case measure => simp [intOf]; omega
          · obtain ⟨F3, hp3⟩ := HP.out.to hto
            have hQ := HFA.out.keep h0
            subst hQ
            have hnx := HNX.out
            unfold eachS at hnx
            simp only [HOPQ.out, rstep_no (s := (Gq, 0)) rfl h0] at hnx
            have hb2 := andsF_bad (Gp, 0) b (X.take (j + 1)) (X.drop (j + 1)) (by rw [hnx]; simp)
            rw [List.take_append_drop, hnx] at hb2
            have hR := prodF_and_stop HST.out HB.out (e := 201) (by omega) (by rw [HXL.out, HXX.out, hb2])
            have hstop := MakesW.stop ((HEXT.out).trans HLJ.out.s.ext) hp3.gin hp3.ch hp3.own hp3.f2 h0 hR
            have HSTOP := Lib.hid hstop
            clear hstop hR hb2 hnx hp3
            go_wp2_with fail
            exact ⟨rfl, HSTOP.out⟩
        · have hjn : j = n - k := by omega
          rw [List.take_of_length_le (by have := HLIM.out; omega)] at heq
          have hA : andsF (Gp, 0) b (x.take (x.length - k)) = ((Gq, 0), ml) := by rw [HXL.out, HXX.out]; exact heq
          have hmlr : ∀ r ∈ ml, r < 2 * Gq.nodes.length := hlok.lt
          have hextq : Ext Gp Gq := hlok.s.ext
          by_cases hk0 : k = 0
          · have hnz := prodF_zero HST.out HB.out hk0 hA
            have hv2 := hp.second
            have hlen : (List.replicate k 0 ++ ml).length = n := by rw [List.length_append, List.length_replicate]; omega
            have hkz : ((k : Int) == 0) = true := by simp; omega
            have HNZ := Lib.hid hnz; clear hnz
            have HV2 := Lib.hid hv2; clear hv2
            have HLEN := Lib.hid hlen; clear hlen
            have HMLR := Lib.hid hmlr; clear hmlr
            have HEXQ := Lib.hid hextq; clear hextq
            have HP := Lib.hid hp; clear hp
            clear hA heq hlok hjl
            go_wp2_with fail
            go_roundw
            case rel =>
              refine ⟨k + 1, Gq, List.replicate k 0 ++ ml, by omega, by go_num, HNZ.out, HEXT.out.trans HEXQ.out, fun r hr => ?_, fun _ => HLEN.out, HV2.out⟩
              rcases List.mem_append.1 hr with hr | hr
              · rw [(List.mem_replicate.1 hr).2]; have := HP.out.gin.ok.wf.pos; omega
              · exact HMLR.out r hr
            case measure => simp [intOf]; omega
          · have hkz : ((k : Int) == 0) = false := by simp; omega
            have hlen : (List.replicate k 0 ++ ml).length = n := by rw [List.length_append, List.length_replicate]; omega
            have hol2 := HOLN.out (by omega)
            have ho := hp.orow
            have hpr := hp.prow
            rw [hol2] at ho
            rw [hlen] at hpr
            obtain ⟨oa, oc, rfl⟩ := row.shape ho
            obtain ⟨pa, pc, rfl⟩ := row.shape hpr
            have hlt1 : ∀ r ∈ ol, r < 2 * Gq.nodes.length := fun r hr => hextq.lt (HOL.out r hr)
            have hlt2 : ∀ r ∈ List.replicate k 0 ++ ml, r < 2 * Gq.nodes.length := fun r hr => by
              rcases List.mem_append.1 hr with hr | hr
              · rw [(List.mem_replicate.1 hr).2]; have := hp.gin.ok.wf.pos; omega
              · exact hmlr r hr
            have hsm := hp.gin.ok.small
            have hadd := sAddR hp.gin n hol2 hlen h1 (by omega) (wv_of_row hp.orow hol2 (fun q hq => (hp.olo q hq).2) (by omega) (fun r hr => by have := hlt1 r hr; omega)) (wv_of_row hp.prow hlen (fun q hq => (hp.plo q hq).2) (by omega) (fun r hr => by have := hlt2 r hr; omega)) hlt1 hlt2
            have hwok := addR_wok hp.gin.ok hlt1 hlt2
            have hlnA := addR_len (G := Gq) hol2 hlen
            have hmore := prodF_more HST.out HB.out hk0 hA
            have hastop := prodF_add_stop HST.out HB.out hk0 hA
            obtain ⟨S, hS⟩ : ∃ S, addR Gq ol (List.replicate k 0 ++ ml) = S := ⟨_, rfl⟩
            rw [hS] at hadd hwok hlnA hmore hastop
            have HADD := Lib.hid hadd; clear hadd
            have HWOK := Lib.hid hwok; clear hwok
            have HLNA := Lib.hid hlnA; clear hlnA
            have HMORE := Lib.hid hmore; clear hmore
            have HASTOP := Lib.hid hastop; clear hastop
            have HP := Lib.hid hp; clear hp
            have HEXQ := Lib.hid hextq; clear hextq
            clear hS hlt1 hlt2 hmlr hA heq hlok hjl ho hpr hlen hol2 HP0
            go_wp2_with fail
            refine HADD.out.mono ?_
            rintro e w6 ⟨v, rfl, hgv⟩
            have hgn := GVo.next' HP.out.ch HP.out.own HP.out.f2 hgv
            obtain ⟨va, vc, rfl⟩ : ∃ va vc, v = .slice va S.2.1.length vc := by
              obtain ⟨_, _, _, _, _, hr, _⟩ := hgv
              exact row.shape hr
            have HGN := Lib.hid hgn; clear hgn hgv HADD
            have hmust := mdmustW_is w6 va S.2.1.length vc S.2.2
            have HMUST := Lib.hid hmust; clear hmust
            go_wp2_with fail
            refine HMUST.out.mono ?_
            rintro e w7 ⟨rfl, ⟨h0, rfl⟩ | ⟨h0, rfl⟩⟩
            · go_wp2_with fail
              go_roundw
              case rel => exact ⟨k + 1, S.1, S.2.1, by omega, by go_num, HMORE.out h0, (HEXT.out.trans HEXQ.out).trans HWOK.out.ext, HWOK.out.lt, fun _ => HLNA.out h0, HGN.out⟩
              case measure => simp [intOf]; omega
            · obtain ⟨F9, q1, q2, q3, q4, _⟩ := HGN.out
              have hstop := MakesW.stop ((HEXT.out.trans HEXQ.out).trans HWOK.out.ext) q1 (by simpa using q2) q3 q4 h0 (HASTOP.out h0)
              have HSTOP := Lib.hid hstop
              clear hstop q1 q2 q3 q4
              go_wp2_with fail
              exact ⟨rfl, HSTOP.out⟩
    · have hkn : k = n := by omega
      subst hkn
      rw [List.take_of_length_le (by rw [HYL.out]; omega)] at hst
      clear HX HY
      go_wp2_with fail
      go_ret
      exact .inl ⟨by rw [hst], _, rfl, by rw [hst]; exact hv⟩
end
end Go.Proofs.YtehljgigebhddaaGreat
namespace Go.Aig
/-- the product of two words -/
def mulG (G : Gra) (x y : List Int) : Gra × List Nat × Nat := if chk24 G [x, y] ≠ 0 then (G, [], chk24 G [x, y]) else wres G (prodF (nats x) (G, 0) (nats y))
structure Chk24 (G : Gra) (x y : List Int) : Prop where
  len : y.length = x.length
  lo : 1 ≤ x.length
  hi : x.length ≤ 16
  ex : natInts (nats x) = x
  ey : natInts (nats y) = y
  rx : ∀ r ∈ nats x, r < 2 * G.nodes.length
  ry : ∀ r ∈ nats y, r < 2 * G.nodes.length
theorem chk24_ok {G : Gra} {x y : List Int} (h : chk24 G [x, y] = 0) : Chk24 G x y := by
  unfold chk24 at h
  split at h
  · cases h
  · rename_i h1
    split at h
    · cases h
    · rename_i h2
      simp only [List.any_cons, List.any_nil, Bool.or_false, List.headD_cons, Bool.or_eq_true, not_or, Bool.not_eq_true] at h1 h2
      have hx := badIn_no h2.1
      have hy := badIn_no h2.2
      unfold bad24 at h1
      simp only [Bool.or_eq_false_iff, decide_eq_false_iff_not] at h1
      exact ⟨by have := h1.2.2.2; omega, by omega, by omega, hx.1, hy.1, hx.2, hy.2⟩
theorem chk24_small (G : Gra) (ws : List (List Int)) : chk24 G ws ≤ 240 := by unfold chk24; split; omega; split <;> omega
end Go.Aig
namespace Go.Proofs.YtehljgigebhddaaGreat
open Go.RowKit Go.Mem Go.Aig
theorem GVo.after {w W1 W W' : World} {g : Nat} {G1 : Gra} {F T : List Nat} {v : Value} {l : List Nat} (h : GVo W1 g G1 [] F v l W) (hc : Ch [] w W1) (hT : Ch T W W') (hTF : ∀ k ∈ T, k ∉ F ∧ w.heap.size ≤ k ∧ k < W1.heap.size) : GVo w g G1 [] F v l W' := by
  obtain ⟨F', h1, h2, h3, h4, h5, h6⟩ := h
  have hz := hc.size
  have hn : ∀ k ∈ T, k ∉ F' := fun k hk hm => (h3 k hm).elim (hTF k hk).1 (fun e => by have := (hTF k hk).2.2; omega)
  refine ⟨F', h1.same hT (fun k hk hm => hn k hm hk), ((hc.mono (F' := [] ++ F) (by simp)).trans h2 (fun k hk => .inl hk)).trans hT (fun k hk => .inr (hTF k hk).2.1), fun k hk => (h3 k hk).imp id (fun e => by omega), h4, h5.ch hT (fun k hk hm => ?_), fun k hk => ⟨by have := (h6 k hk).1; omega, (h6 k hk).2⟩⟩
  have := (h6 k hk).1
  have := (hTF k hm).2.2
  omega
section
variable {w : World} {g : Nat} {G : Gra} {F : List Nat}
theorem fnvmdMul1 : Fnv 209 := fnv_of Tryz.func209 (by simp [Tryz.f209]) (by simp [Tryz.f209])
/-- what the closure of Mul does if it is not stopped: the word is in its cell -/
def MulD (g : Nat) (F : List Nat) (R : Mk × List Nat) (bo : Nat) (w w' : World) : Prop := R.1.2 = 0 ∧ ∃ v W, GVo w g R.1.1 [] F v R.2 W ∧ w' = W.setCell ⟨bo, 0, none⟩ v
set_option maxRecDepth 100000 in
set_option maxHeartbeats 2000000 in
theorem mdMul1_is (h : GIn w g G F) {x y : List Nat} {xa ya : Option Addr} {xc yc : Nat} (n : Nat) (hxl : x.length = n) (hyl : y.length = n) (h1 : 1 ≤ n) (h16 : n ≤ 16) (hxc : n ≤ xc)
    (hx : WVin w F ⟨xa, natInts x, xc⟩) (hy : WVin w F ⟨ya, natInts y, yc⟩) (hxr : ∀ r ∈ x, r < 2 * G.nodes.length) (hyr : ∀ r ∈ y, r < 2 * G.nodes.length)
    {bg bx bY bo : Nat} (hg : blk w bg [.pointer (some ⟨g, 0, none⟩)]) (hbx : blk w bx [.slice xa n xc]) (hby : blk w bY [.slice ya n yc]) (hbo : blk w bo [.slice none 0 0]) (hF : bo ∉ F) :
    Calls Tryz.prog 209 #[.pointer (some ⟨bg, 0, none⟩), .pointer (some ⟨bx, 0, none⟩), .pointer (some ⟨bY, 0, none⟩), .pointer (some ⟨bo, 0, none⟩)] w (Stops w g G [bo] F (prodF x (G, 0) y).1.2 (MulD g F (prodF x (G, 0) y) bo)) := by
  have HM := mdproduct_is h n hxl hyl h1 h16 hxc hx hy hxr hyr
  have c0 := hg.cell (i := 0) rfl
  have c1 := hbx.cell (i := 0) rfl
  have c2 := hby.cell (i := 0) rfl
  clear hg hbx hby h hx hy hxr hyr
  generalize prodF x (G, 0) y = R at *
  go_enter Tryz.func209, Tryz.ntmps209
  go_wp2_with fail
  refine HM.mono ?_
  rintro e w1 (⟨h0, v, rfl, hv⟩ | ⟨h0, rfl, G', F', q1, q2, q3, q4, q5⟩)
  · have hb : blk w1 bo [.slice none 0 0] := by
      obtain ⟨_, _, hc, _⟩ := hv
      exact hbo.ch hc (by simpa using hF)
    have z := hb.cell (i := 0) rfl
    have f := hb.frozen (i := 0)
    obtain ⟨va, vc, rfl⟩ : ∃ va vc, v = .slice va R.2.length vc := by
      obtain ⟨_, _, _, _, _, hr, _⟩ := hv
      exact row.shape hr
    have HV := Lib.hid hv; clear hv
    go_wp2_with fail
    exact ⟨rfl, .tuple #[], by simp [results, Tryz.results209], .inl ⟨h0, rfl, h0, _, w1, HV.out, rfl⟩⟩
  · have hst : Stops w g G [bo] F R.1.2 (MulD g F R bo) (.panicked [{ v := stopV R.1.2, recovered := false }]) w1 := .inr ⟨h0, rfl, G', F', q1, q2, q3.mono (fun k hk => .inl (List.mem_append_right _ hk)), q4, q5⟩
    have HS := Lib.hid hst
    clear hst q1 q2 q3 q4
    go_wp2_with fail
    exact ⟨rfl, HS.out⟩
set_option maxRecDepth 100000 in
set_option maxHeartbeats 2000000 in
theorem mdMul_is (h : GIn w g G F) {x y : WV} (hx : WVin w F x) (hy : WVin w F y) (hxc : x.l.length ≤ x.c) :
    Calls Tryz.prog 102 #[.pointer (some ⟨g, 0, none⟩), x.val, y.val] w fun e w' => ∃ v, e = .returned (.tuple #[v, .int .i64 (mulG G x.l y.l).2.2]) ∧ GVo w g (mulG G x.l y.l).1 [] F v (mulG G x.l y.l).2.1 w' := by
  have hFl := h.lt
  obtain ⟨xa, xl, xc⟩ := x
  obtain ⟨ya, yl, yc⟩ := y
  simp only [WV.val] at *
  unfold mulG
  have hch := chk24_ok (G := G) (x := xl) (y := yl)
  have hcs := chk24_small G [xl, yl]
  have hmf : ∀ (fn : Fn) (first cap : Array Value) (w : World), (Instr.makeFunc fn first cap).run Tryz.prog w = .ok (.func fn first cap) w := fun _ _ _ _ => rfl
  generalize hc : chk24 G [xl, yl] = cc at *
  have hC : ∀ W, Ch [] w W → ∀ b, blk W b [.slice xa xl.length xc, .slice ya yl.length yc] → Calls Tryz.prog 207 #[.pointer (some ⟨g, 0, none⟩), .slice (some ⟨b, 0, none⟩) 2 2] W fun e w' => e = .returned (.int .i64 cc) ∧ Ch [] W w' := fun W hW b hb => by
    have := mdcheck_is (h.same hW (by simp)) (b := b) (ws := [⟨xa, xl, xc⟩, ⟨ya, yl, yc⟩]) 2 2 rfl (by omega) (fun i z hz => by
      match i, hz with
      | 0, hz => cases hz; exact hb.cell rfl
      | 1, hz => cases hz; exact hb.cell rfl) (fun z hz => by
      simp only [List.mem_cons, List.not_mem_nil, or_false] at hz
      rcases hz with rfl | rfl
      · exact (hx.ch hW).ok
      · exact (hy.ch hW).ok)
    rw [show ([⟨xa, xl, xc⟩, ⟨ya, yl, yc⟩] : List WV).map WV.l = [xl, yl] from rfl, hc] at this
    exact this
  have HC := Lib.hid hC; clear hC
  have HX := Lib.hid hx; clear hx
  have HY := Lib.hid hy; clear hy
  have H := Lib.hid h; clear h
  have HCH := Lib.hid hch; clear hch
  clear hc
  generalize hWW : (if cc ≠ 0 then (G, [], cc) else wres G (prodF (nats xl) (G, 0) (nats yl)) : Gra × List Nat × Nat) = WW
  have HWW := Lib.hid hWW; clear hWW
  go_enter Tryz.func102, Tryz.ntmps102
  go_wp2_with fail
  refine calls_named fun W0 hW0 => ?_
  have hc0 : Ch [] w W0 := by rw [hW0]; exact ((((Ch.refl _ _).alloc _).alloc _).alloc _).alloc _
  have hbg : blk W0 w.heap.size [.pointer (some ⟨g, 0, none⟩)] := by rw [hW0]; exact (((blk.new w _ _).alloc _).alloc _).alloc _
  have hbx : blk W0 (w.heap.size + 1) [.slice xa xl.length xc] := by rw [hW0]; exact ((blk.new' _ _ (by simp)).alloc _).alloc _
  have hby : blk W0 (w.heap.size + 1 + 1) [.slice ya yl.length yc] := by rw [hW0]; exact (blk.new' _ _ (by simp)).alloc _
  have hbl : blk W0 (w.heap.size + 1 + 1 + 1) [.slice xa xl.length xc, .slice ya yl.length yc] := by rw [hW0]; exact blk.new' _ _ (by simp)
  clear hW0
  refine (HC.out W0 hc0 _ hbl).mono ?_
  rintro e w1 ⟨rfl, hc1⟩
  have hc01 := hc0.trans hc1 (by simp)
  have hbg := hbg.ch hc1 (by simp)
  have hbx := hbx.ch hc1 (by simp)
  have hby := hby.ch hc1 (by simp)
  clear hbl hc0 hc1
  by_cases hcc : cc = 0
  · subst hcc
    obtain ⟨k1, k2, k3, k4, k5, k6, k7⟩ := HCH.out rfl
    have d0 := (hbg.alloc (.cells #[.slice none 0 0] 45)).cell (i := 0) rfl
    have hc2 : Ch [] w (w1.alloc (.cells #[.slice none 0 0] 45)) := hc01.alloc _
    have hbo : blk (w1.alloc (.cells #[.slice none 0 0] 45)) w1.heap.size [.slice none 0 0] := blk.new _ _ _
    have hz1 := hc01.size
    have hB := mdbuild_is (H.out.same hc2 (by simp)) 209 #[.pointer (some ⟨w.heap.size, 0, none⟩), .pointer (some ⟨w.heap.size + 1, 0, none⟩), .pointer (some ⟨w.heap.size + 1 + 1, 0, none⟩), .pointer (some ⟨w1.heap.size, 0, none⟩)] fnvmdMul1 [w1.heap.size] (by simp) (prodF (nats xl) (G, 0) (nats yl)).1.2 (MulD g F (prodF (nats xl) (G, 0) (nats yl)) w1.heap.size) (fun a b hd => by
      obtain ⟨_, v, W, ⟨_, _, q, _⟩, rfl⟩ := hd
      exact ((q.mono (fun k hk => .inl (List.mem_append_right _ hk))).setCell (.inl (by simp)) _)) (fun W hW hG => by
      have := mdMul1_is hG (x := nats xl) (y := nats yl) (xa := xa) (ya := ya) (xc := xc) (yc := yc) xl.length (by simp) (by simp [k1]) k2 k3 hxc
        (by rw [k4]; exact HX.out.ch (hc2.trans hW (by simp))) (by rw [k5]; exact HY.out.ch (hc2.trans hW (by simp))) k6 k7 ((hbg.alloc _).ch hW (by simp)) ((hbx.alloc _).ch hW (by simp)) (by rw [← k1]; exact (hby.alloc _).ch hW (by simp)) (hbo.ch hW (by simp)) (fun hm => by have := hFl _ hm; omega)
      exact this)
    have HB := Lib.hid hB; clear hB
    have hww := HWW.out
    rw [if_neg (by simp)] at hww
    clear HWW
    generalize prodF (nats xl) (G, 0) (nats yl) = R at *
    unfold wres at hww
    have HC01 := Lib.hid hc01; clear hc01
    have HBO := Lib.hid hbo; clear hbo
    have HC2 := Lib.hid hc2; clear hc2
    clear hbg hbx hby HX HY HCH HC k1 k2 k3 k4 k5 k6 k7
    go_wp2_with fail
    refine HB.out.mono ?_
    rintro e w2 ⟨rfl, ⟨h0, be, W1, W2, hb1, hb2, hW1, ⟨_, v, Wm, hgv, rfl⟩, hc2⟩ | ⟨h0, F', q1, q2, q3, q4⟩⟩
    · rw [if_neg (by simpa using h0)] at hww
      subst hww
      have hzc := HC2.out.size
      have hlt1 := HBO.out.lt
      have hz := hW1.size
      have hbe : be ≠ w1.heap.size := fun e => by rw [e] at hb1; omega
      have hbm : blk Wm w1.heap.size [.slice none 0 0] := by
        obtain ⟨_, _, q, _⟩ := hgv
        exact (HBO.out.ch hW1 (by simp)).ch q (fun hm => by have := hFl _ (by simpa using hm); omega)
      have hb3 := (hbm.set (i := 0) v).ch hc2 (by simpa using fun e => hbe e.symm)
      have d1 := hb3.cell (i := 0) rfl
      have hfin : GVo w g R.1.1 [] F v R.2 w2 := by
        refine GVo.after (T := [w1.heap.size, be]) hgv (HC2.out.trans hW1 (by simp)) ((((Ch.refl [w1.heap.size, be] Wm)).setCell (.inl (by simp)) v).trans hc2 (fun k hk => .inl (by simp at hk; simp [hk]))) (fun k hk => ?_)
        simp only [List.mem_cons, List.not_mem_nil, or_false] at hk
        rcases hk with rfl | rfl
        · exact ⟨fun hm => by have := hFl _ hm; omega, by omega, by omega⟩
        · exact ⟨fun hm => by have := hFl _ hm; omega, by omega, hb2⟩
      have HFIN := Lib.hid hfin
      rw [h0]
      clear hfin hgv hbm hb3 hc2 hW1
      go_wp2_with fail
      go_ret2
      exact ⟨_, rfl, HFIN.out⟩
    · have he : ((R.1.2 : Int) != 0) = true := by simp; omega
      rw [if_pos h0] at hww
      subst hww
      have hzc := HC2.out.size
      have hgv : GVo w g G [] F (.slice none 0 0) [] w2 := by
        refine GVo.nil q1 ((HC2.out.mono (by simp)).trans q2 (fun k hk => ?_)) (fun k hk => (q3 k hk).imp id (fun e => by omega)) q4
        rcases List.mem_append.1 hk with hk | hk
        · right; rw [List.mem_singleton.1 hk]; omega
        · exact .inl (by simpa using hk)
      have HGV := Lib.hid hgv
      clear hgv q1 q2 q3 q4
      go_wp2_with fail
      go_ret2
      exact ⟨_, rfl, HGV.out⟩
  · have hq : ((cc : Int) != 0) = true := by simp; omega
    have hgv : GVo w g G [] F (.slice none 0 0) [] w1 := GVo.none H.out hc01
    have HGV := Lib.hid hgv; clear hgv hc01 hbg hbx hby HX HY HCH HC
    have hww := HWW.out
    rw [if_pos hcc] at hww
    subst hww
    have HQ := Lib.hid hcc; clear hcc
    go_wp2_with fail
    go_ret2
    exact ⟨_, rfl, HGV.out⟩
end
end Go.Proofs.YtehljgigebhddaaGreat
namespace Go
open Go.RowKit Go.Mem
section
variable {F : Fence} {n : Nat} {P : Program}
theorem wpIn_rangeFunc_R {g : Operand} {ps : Array Tmp} {assign body : Code} {Q : Exit → Act → World → Prop} {a : Act} {w : World} (B : Nat) (hB : w.heap.size = B)
    (hro : F.round = none) (h1 : 1 ≤ n) {gf : Nat} {lb : Array Value} (hg : a.eval g = .func (.func gf) #[] lb) (hFg : F.fn gf) (eg : ∀ args w, (callFunc gf args).run P w = .ok (.enter gf args) w)
    {ι : Type} {encs : ι → Array Value} (hps : ∀ x, (encs x).size = ps.size) (J0 : World → Prop) (K J : ι → World → Prop) (D : World → Prop) (DP : List PanicEntry → World → Prop)
    (hseq : ∀ (l : Nat) (X : World → Prop), (∀ A A' L, X A → Ch L A A' → (∀ q ∈ L, q ≠ B ∧ q ≠ B + 1) → X A') → (∀ A, X A → B + 2 ≤ A.heap.size) →
      (∀ x W, K x W → X W → YieldAt F (n - 1 - 1) P l (encs x) W fun e W' => e = .returned (.bool true) ∧ J x W' ∧ X W') →
      ∀ W, J0 W → X W → CallsIn F (n - 1) P gf (#[.func (.yield l) #[] #[]] ++ lb) W fun e W' => ((∃ v, e = .returned v) ∧ D W' ∧ X W') ∨ (∃ c, e = .panicked c ∧ DP c W' ∧ X W'))
    (hJ0 : ∀ A A', J0 A → Ch [B, B + 1] A A' → J0 A') (hK : ∀ x A A', K x A → Ch [B, B + 1] A A' → K x A') (hJ : ∀ x A A', J x A → Ch [B, B + 1] A A' → J x A') (hD : ∀ A A', D A → Ch [B, B + 1] A A' → D A')
    (hpan : ∀ (c : List PanicEntry) (W : World), DP c W → W.heap[B]? = some (.deferred (some [])) → B + 2 ≤ W.heap.size → Q (.panic c) { a with defers := { target := .collected B, args := #[] } :: a.defers } W)
    (h0 : J0 w) (a₁ : ι → Act)
    (hassign : ∀ (l : Nat) (x : ι) (W : World) (K : Act → World → Prop), K (a₁ x) W →
      assign.wpIn (F.inRound l) (n - 1 - 1) P (Exit.then K (fun _ _ _ => False)) { tmps := (ps.zip (encs x)).foldl (fun t (p, v) => t.setIfInBounds p v) a.tmps, defers := [] } W)
    (hbody : ∀ (l : Nat) (x : ι) (W : World), K x W → B + 2 ≤ W.heap.size → body.wpIn (F.inRound l) (n - 1 - 1) P (fun e _ W' => Books B W W' ∧ e = .normal ∧ J x W') (a₁ x) W)
    (hdone : ∀ (W : World), D W → W.heap[B]? = some (.deferred (some [])) → B + 2 ≤ W.heap.size → Q .normal { a with defers := { target := .collected B, args := #[] } :: a.defers } W) :
    (Code.rangeFunc g ps assign body).wpIn F n P Q a w := by
  subst hB
  refine wpIn_rangeFunc fun fn hfn => ?_
  rw [hro]
  let rec0 : LoopState → Option Code → Loop := fun st pe => { state := st, pending := pe, fn, tmps := a.tmps, params := ps, assign, body, defers := w.heap.size }
  obtain ⟨W1, hW1⟩ : ∃ W1, (w.alloc (.deferred (some []))).alloc (.loop (rec0 .ready none)) = W1 := ⟨_, rfl⟩
  have hz1 : W1.heap.size = w.heap.size + 2 := by rw [← hW1]; simp
  have hL1 : W1.heap[w.heap.size + 1]? = some (.loop (rec0 .ready none)) := by
    rw [← hW1]; have := World.alloc_heap_new (w.alloc (.deferred (some []))) (.loop (rec0 .ready none)); rwa [World.size_alloc] at this
  have hK1 : W1.heap[w.heap.size]? = some (.deferred (some [])) := by
    rw [← hW1]; exact (Below.heap_alloc _ _ _ (by simp)).trans (World.alloc_heap_new w _)
  have hc1 : Ch [] w W1 := by rw [← hW1]; exact ((Ch.refl _ _).alloc _).alloc _
  have hI1 : J0 W1 := hJ0 _ _ h0 (hc1.mono (by simp))
  refine ⟨w.heap.size + 1, [{ target := .collected w.heap.size, args := #[] }], W1, { target := .fn (.func gf) lb, args := #[.func (.yield (w.heap.size + 1)) #[] #[]] }, W1, gf,
    #[.func (.yield (w.heap.size + 1)) #[] #[]] ++ lb, W1, ?_, ?_, ?_, ?_, fun _ => h1, ?_⟩
  · rw [← hW1]; exact run_enterLoop_outer _ _ _ _ _
  · simp only [resolve, hg]
    simp [go_sem]
  · intro f' hf'; simp [Target.leads] at hf'; subst hf'; exact hFg
  · simp [invoke, go_sem, eg]
  · refine (hseq (w.heap.size + 1) (fun W => w.heap.size + 2 ≤ W.heap.size ∧ W.heap[w.heap.size + 1]? = some (.loop (rec0 .ready none)) ∧ W.heap[w.heap.size]? = some (.deferred (some [])))
      (fun A A' L hs hc hL => ⟨Nat.le_trans hs.1 hc.size, (hc.block _ (by have := hs.1; omega) (fun hin => (hL _ hin).2 rfl)).trans hs.2.1, (hc.block _ (by have := hs.1; omega) (fun hin => (hL _ hin).1 rfl)).trans hs.2.2⟩)
      (fun A hA => hA.1) ?_ W1 hI1 ⟨by omega, hL1, hK1⟩).mono ?_
    · rintro x W hi ⟨hz, hl, hk⟩
      have hlt : w.heap.size + 1 < W.heap.size := by omega
      refine ⟨fn, _, assign, body, run_yield (P := P) (args := encs x) hl (hps x), roundIn_of_wpIn hfn (hassign _ x W _ ⟨_, run_beginRound hl rfl, ?_⟩)⟩
      have hl2 : (W.putObj (w.heap.size + 1) (.loop (rec0 .busy none))).heap[w.heap.size + 1]? = some (.loop (rec0 .busy none)) := World.putObj_heap_same hlt
      have hk2 : (W.putObj (w.heap.size + 1) (.loop (rec0 .busy none))).heap[w.heap.size]? = some (.deferred (some [])) := (World.putObj_heap_other (by omega)).trans hk
      refine wpIn_mono (hbody _ x _ (hK _ _ _ hi (ch_put (by simp))) (by simp; omega)) ?_
      rintro e a3 W3 ⟨⟨hb0, hb1⟩, rfl, hi3⟩
      have hl3 := hb1.trans hl2
      have hlt3 := (Array.getElem?_eq_some_iff.1 hl3).1
      exact ⟨_, _, run_endRound (P := P) none hl3, rfl, hJ _ _ _ hi3 (ch_put (by simp)), by simp; omega, World.putObj_heap_same hlt3, (World.putObj_heap_other (by omega)).trans (hb0.trans hk2)⟩
    · rintro e W2 (⟨⟨v, rfl⟩, hi, hz, hl, hk⟩ | ⟨c, rfl, hi, hz, hl, hk⟩)
      · exact ⟨none, _, run_endLoop (P := P) hl (by simp [rec0]), hdone _ (hD _ _ hi (ch_put (by simp))) ((World.putObj_heap_other (by omega)).trans hk) (by simp; omega)⟩
      · exact hpan c _ hi hk hz
end
end Go
namespace Go
open Go.RowKit Go.Mem
section
variable {F : Fence} {n : Nat} {P : Program}
/-- the walk of a piece of code of one function -/
def Code.wpAt (f₀ : FuncId) (F : Fence) (n : Nat) (P : Program) (c : Code) (Q : Exit → Act → World → Prop) (a : Act) (w : World) : Prop :=
  ∀ (b : Frame) (k : List Item) (cs : List Frame), b.fn = f₀ → b.roundOf = F.round → F.fn b.fn → F.room (cs.length + 1 + n) →
    ∃ e a' w', Q e a' w' ∧ ArrivesIn (Machine.fenced P F) P (lone (b.atR a (.code c :: k)) cs w) b k cs e a' w'
theorem wpAt_of_wpIn {f₀ : FuncId} {c : Code} {Q : Exit → Act → World → Prop} {a : Act} {w : World} (h : c.wpIn F n P Q a w) : c.wpAt f₀ F n P Q a w := fun b k cs _ hro hb hr => h b k cs hro hb hr
theorem wpAt_named {f₀ : FuncId} {c : Code} {Q : Exit → Act → World → Prop} {a : Act} {w : World} (h : ∀ W, W = w → c.wpAt f₀ F n P Q a W) : c.wpAt f₀ F n P Q a w := h _ rfl
theorem wpAt_seq {f₀ : FuncId} {x y : Code} {Q : Exit → Act → World → Prop} {a : Act} {w : World} (h : x.wpAt f₀ F n P (Exit.then (y.wpAt f₀ F n P Q) Q) a w) : (Code.seq x y).wpAt f₀ F n P Q a w := by
  intro b k cs hf hro hb hr
  have h0 : (lone (b.atR a (.code (.seq x y) :: k)) cs w).fenced P F := fenced_calm hb hr rfl
  obtain ⟨e, a₁, w₁, hq, harr⟩ := h b (.code y :: k) cs hf hro hb hr
  cases e with
  | normal =>
    obtain ⟨e₂, a₂, w₂, hq₂, harr₂⟩ := hq b k cs hf hro hb hr
    exact ⟨e₂, a₂, w₂, hq₂, .of_steps (.head h0 stepR_seq harr) harr₂⟩
  | exit id => exact ⟨_, a₁, w₁, hq, .of_steps (.one h0 stepR_seq) (.pass (x := .code y) rfl (fun _ _ => .inl (by simp)) harr)⟩
  | goto l => exact ⟨_, a₁, w₁, hq, .of_steps (.one h0 stepR_seq) (.pass (x := .code y) rfl (fun _ _ => .inl (by simp)) harr)⟩
  | ret => exact ⟨_, a₁, w₁, hq, .of_steps (.one h0 stepR_seq) (.pass (x := .code y) rfl (fun _ _ => .inl (by simp)) harr)⟩
  | panic ch => exact ⟨_, a₁, w₁, hq, .of_steps (.one h0 stepR_seq) (.pass (x := .code y) rfl (fun _ _ => .inl (by simp)) harr)⟩
  | outgrown => exact ⟨_, a₁, w₁, hq, .of_steps (.one h0 stepR_seq) (.pass (x := .code y) rfl (fun _ _ => .inl (by simp)) harr)⟩
/-- a block around a range: it ends, or it panics -/
theorem wpAt_block {f₀ : FuncId} {id : Nat} {c : Code} {Q : Exit → Act → World → Prop} {a : Act} {w : World} (h : c.wpAt f₀ F n P (fun e a w => (e = .normal ∧ Q .normal a w) ∨ ∃ ch, e = .panic ch ∧ Q (.panic ch) a w) a w) : (Code.block id c).wpAt f₀ F n P Q a w := by
  intro b k cs hf hro hb hr
  have h0 : (lone (b.atR a (.code (.block id c) :: k)) cs w).fenced P F := fenced_calm hb hr rfl
  obtain ⟨e, a₁, w₁, hq, harr⟩ := h b (.inBlock id :: k) cs hf hro hb hr
  rcases hq with ⟨rfl, hq⟩ | ⟨ch, rfl, hq⟩
  · exact ⟨.normal, a₁, w₁, hq, .head h0 stepR_block (StepsIn.trans harr (.one (fenced_calm hb hr rfl) stepR_inBlock))⟩
  · exact ⟨_, a₁, w₁, hq, .of_steps (.one h0 stepR_block) harr⟩
/-- a round whose body may panic -/
def roundPostP (P : Program) (l : Nat) (R : Ending → World → Prop) : Exit → Act → World → Prop
  | .normal, _, w => ∃ v w', (Instr.endRound l none).run P w = .ok v w' ∧ R (.returned v) w'
  | .panic chain, a, w => a.defers = [] ∧ R (.panicked chain) w
  | _, _, _ => False
theorem roundIn_of_wpIn_P {l : Nat} {f : FuncId} {fn : Func} (hfn : P.funcs[f]? = some fn) {tmps : Array Value} {assign body : Code} {w : World} {R : Ending → World → Prop} (hF : F.fn f)
    (h : assign.wpIn (F.inRound l) n P (Exit.then (fun a₁ w₁ => ∃ w₂, (Instr.beginRound l).run P w₁ = .ok () w₂ ∧ body.wpIn (F.inRound l) n P (roundPostP P l R) a₁ w₂) (fun _ _ _ => False))
      { tmps := tmps, defers := [] } w) :
    RoundIn F n P l f tmps assign body w R := by
  refine ⟨hF, fun c cs hr => ?_⟩
  let b : Frame := { (default : Frame) with fn := f, kind := .normal, roundOf := some l }
  have hb0 : Frame.round l f tmps assign body .normal = b.atR { tmps := tmps, defers := [] } [.code assign, .beginRound, .code body] := by
    simp [Frame.round, Frame.atR, b]
  have hr' : (F.inRound l).room ((c :: cs).length + 1 + n) := hr
  have hF' : (F.inRound l).fn b.fn := hF
  obtain ⟨e, a₁, w₁, hq, harr⟩ := h b [.beginRound, .code body] (c :: cs) rfl hF' hr'
  rw [← hb0] at harr
  cases e with
  | normal =>
    obtain ⟨w₂, hbr, hbody⟩ := hq
    have s1 : StepsIn (Machine.fenced P (F.inRound l)) P (lone (b.atR a₁ [.beginRound, .code body]) (c :: cs) w₁) (lone (b.atR a₁ [.code body]) (c :: cs) w₂) :=
      .one (fenced_calm (fr := b.atR a₁ [.beginRound, .code body]) hF' hr' rfl) (stepR_beginRound rfl hbr)
    obtain ⟨e₂, a₂, w₃, hq₂, harr₂⟩ := hbody b [] (c :: cs) rfl hF' hr'
    cases e₂ with
    | normal =>
      obtain ⟨v, w₄, hend, hR⟩ := hq₂
      exact ⟨.returned v, w₄, hR, (StepsIn.trans harr s1).trans (StepsIn.trans harr₂ (.one (fenced_calm (fr := b.atR a₂ []) hF' hr' rfl) (stepR_round_end rfl rfl hend)))⟩
    | panic chain =>
      obtain ⟨hd, hR⟩ := hq₂
      obtain ⟨todo, hs⟩ := harr₂
      have hlv : ({ b.atR a₂ todo with mode := .panicking chain } : Frame).leaving P w₃ (.panicked chain) := ⟨rfl, hd, fn, hfn⟩
      exact ⟨.panicked chain, w₃, hR, (StepsIn.trans harr s1).trans (StepsIn.trans hs (.one (fenced_leaving (F := F.inRound l) (n := n) hF' hr' hlv) (step_leave_panicked hlv)))⟩
    | ret => exact hq₂.elim
    | exit id => exact hq₂.elim
    | goto t => exact hq₂.elim
    | outgrown => exact hq₂.elim
  | exit id => exact hq.elim
  | goto t => exact hq.elim
  | ret => exact hq.elim
  | panic chain => exact hq.elim
  | outgrown => exact hq.elim
theorem wpAt_rangeFunc {f₀ : FuncId} {g : Operand} {ps : Array Tmp} {assign body : Code} {Q : Exit → Act → World → Prop} {a : Act} {w : World}
    (h : F.fn f₀ → ∃ (l : Nat) (mark : List Deferred) (w₁ : World) (d : Deferred) (w₁' : World) (f : FuncId) (args : Array Value) (w₂ : World),
      (Instr.enterLoop f₀ a.tmps ps assign body F.round).run P w = .ok (l, mark) w₁ ∧
      (resolve a.eval (rangeCall g l) 0).run P w₁ = .ok d w₁' ∧
      (∀ f', Target.leads P w₁' d.target d.args = some f' → F.fn f') ∧
      (invoke d.target d.args).run P w₁' = .ok (.enter f args) w₂ ∧
      (F.depth.isSome = true → 1 ≤ n) ∧
      CallsIn F (n - 1) P f args w₂ (rangePost F n P l Q { a with defers := mark ++ a.defers })) :
    (Code.rangeFunc g ps assign body).wpAt f₀ F n P Q a w := by
  intro b k cs hf hro hb hr
  subst hf
  obtain ⟨l, mark, w₁, d, w₁', f, args, w₂, he, hres, hlead, hinv, hn, hF, hcall⟩ := h hb
  rw [← hro] at he
  have h0 : (lone (b.atR a (.code (.rangeFunc g ps assign body) :: k)) cs w).fenced P F := by
    refine fenced_lone (.inl hb) (fun f' hf' => hlead f' ?_) (Fence.room_le hr (by omega))
    have hev := Frame.eval_atR b a (.code (.rangeFunc g ps assign body) :: k)
    simp only [Frame.atR] at hev
    simp only [Frame.about, Frame.atR, he, hev, hres] at hf'
    exact hf'
  have henter := stepR_rangeFunc (P := P) (b := b) (a := a) (k := k) (cs := cs) (w := w) he hres hinv
  have hroom : F.room ((b.atR { a with defers := mark ++ a.defers } (.inRangeFunc l :: k) :: cs).length + 1 + (n - 1)) := Fence.room_enter hr hn
  obtain ⟨e, w₃, fr, hR, hsteps, hfn, hleave⟩ := hcall (b.atR { a with defers := mark ++ a.defers } (.inRangeFunc l :: k) :: cs) hroom
  cases e with
  | outgrown =>
    obtain ⟨a₀, w₀, hq⟩ := hR
    exact ⟨.outgrown, a₀, w₀, hq, .inr (Outgrown.of_steps (.one henter) hsteps)⟩
  | returned v =>
    have hl : (lone fr (b.atR { a with defers := mark ++ a.defers } (.inRangeFunc l :: k) :: cs) w₃).fenced P F := fenced_leaving (hfn ▸ hF) hroom hleave
    obtain ⟨jump, w₄, hend, hj⟩ := hR
    have sback : StepsIn (Machine.fenced P F) P (lone (b.atR a (.code (.rangeFunc g ps assign body) :: k)) cs w) (lone (b.atR { a with defers := mark ++ a.defers } ((jump.map Item.code).toList ++ k)) cs w₄) := by
      refine .head h0 henter (StepsIn.trans hsteps (.head hl ?_ (.one (fenced_calm (fr := b.atR { a with defers := mark ++ a.defers } (.endRangeFunc l :: k)) hb hr rfl) (stepR_endRangeFunc hend))))
      rw [← finish_atR_inRangeFunc l v]; exact step_leave_returned hleave
    cases jump with
    | none => exact ⟨.normal, _, w₄, hj, sback⟩
    | some c =>
      obtain ⟨e', a'', w₅, hq, harr⟩ := hj b k cs hro hb hr
      exact ⟨e', a'', w₅, hq, .of_steps sback harr⟩
  | panicked chain =>
    have hl : (lone fr (b.atR { a with defers := mark ++ a.defers } (.inRangeFunc l :: k) :: cs) w₃).fenced P F := fenced_leaving (hfn ▸ hF) hroom hleave
    refine ⟨.panic chain, _, w₃, hR, .inRangeFunc l :: k, .head h0 henter (StepsIn.trans hsteps (.one hl ?_))⟩
    rw [← Frame.raise_atR]; exact step_leave_panicked hleave
/-- a function that is known, with a range over a function in it -/
theorem callsIn_of_wpAt_marks {f : FuncId} {fn : Func} {c : Code} {args : Array Value} {w : World} {R : Ending → World → Prop}
    (hf : P.funcs[f]? = some fn) (hb : fn.body = some c) (hF : F.fn f)
    (h : c.wpAt f F n P (bodyPostM F n P fn R) { tmps := args ++ Array.replicate (fn.ntmps - args.size) undef, defers := [] } w) (hro : F.round = none := by rfl) : CallsIn F n P f args w R := by
  refine ⟨hF, fun cs hr => ?_⟩
  let b : Frame := { (default : Frame) with fn := f, kind := .normal, roundOf := none }
  have henter : Frame.enter P f args .normal = b.atR { tmps := args ++ Array.replicate (fn.ntmps - args.size) undef, defers := [] } [.code c] := by
    simp [Frame.enter, Frame.atR, hf, hb, b]
  obtain ⟨e, a', w', hq, harr⟩ := h b [] cs rfl hro.symm hF hr
  rw [← henter] at harr
  cases e with
  | normal =>
    obtain ⟨e', w'', fr', hR, hs, hfn, hl⟩ := leaves_stepsInM a'.defers .returning w' { b.atR a' [] with mode := .returning } cs rfl rfl rfl hf rfl hF hr hq
    exact ⟨e', w'', fr', hR, ComesIn.of_steps (StepsIn.trans harr (.one (fenced_calm (fr := b.atR a' []) hF hr rfl) (stepR_end rfl))) hs, hfn, hl⟩
  | ret =>
    obtain ⟨todo, hs₀⟩ := harr.1 rfl
    obtain ⟨e', w'', fr', hR, hs, hfn, hl⟩ := leaves_stepsInM a'.defers .returning w' { b.atR a' todo with mode := .returning } cs rfl rfl rfl hf rfl hF hr hq
    exact ⟨e', w'', fr', hR, ComesIn.of_steps hs₀ hs, hfn, hl⟩
  | panic chain =>
    obtain ⟨todo, hs₀⟩ := harr
    obtain ⟨e', w'', fr', hR, hs, hfn, hl⟩ := leaves_stepsInM a'.defers (.panicking chain) w' { b.atR a' todo with mode := .panicking chain } cs rfl rfl rfl hf rfl hF hr hq
    exact ⟨e', w'', fr', hR, ComesIn.of_steps hs₀ hs, hfn, hl⟩
  | exit id => exact hq.elim
  | goto l => exact hq.elim
  | outgrown => exact ⟨.outgrown, w', b, hq, harr.resolve_left (by simp [b]), rfl, trivial⟩
/-- the law: the body goes on, or panics -/
theorem wpAt_rangeFunc_S {f₀ : FuncId} {fn₀ : Func} (hf₀ : P.funcs[f₀]? = some fn₀) {g : Operand} {ps : Array Tmp} {assign body : Code} {Q : Exit → Act → World → Prop} {a : Act} {w : World} (B : Nat) (hB : w.heap.size = B)
    (hro : F.round = none) (h1 : 1 ≤ n) {gf : Nat} {lb : Array Value} (hg : a.eval g = .func (.func gf) #[] lb) (hFg : F.fn gf) (eg : ∀ args w, (callFunc gf args).run P w = .ok (.enter gf args) w)
    {ι : Type} {encs : ι → Array Value} (hps : ∀ x, (encs x).size = ps.size) (J0 : World → Prop) (K J : ι → World → Prop) (D : World → Prop) (DP : List PanicEntry → World → Prop)
    (hseq : ∀ (l : Nat) (X Y : World → Prop), (∀ A A' L, X A → Ch L A A' → (∀ q ∈ L, q ≠ B ∧ q ≠ B + 1) → X A') → (∀ A, X A → B + 2 ≤ A.heap.size) →
      (∀ x W, K x W → X W → YieldAt F (n - 1 - 1) P l (encs x) W fun e W' => (e = .returned (.bool true) ∧ J x W' ∧ X W') ∨ (∃ c, e = .panicked c ∧ DP c W' ∧ Y W')) →
      ∀ W, J0 W → X W → CallsIn F (n - 1) P gf (#[.func (.yield l) #[] #[]] ++ lb) W fun e W' => ((∃ v, e = .returned v) ∧ D W' ∧ X W') ∨ (∃ c, e = .panicked c ∧ DP c W' ∧ Y W'))
    (hJ0 : ∀ A A', J0 A → Ch [B, B + 1] A A' → J0 A') (hK : ∀ x A A', K x A → Ch [B, B + 1] A A' → K x A') (hJ : ∀ x A A', J x A → Ch [B, B + 1] A A' → J x A') (hD : ∀ A A', D A → Ch [B, B + 1] A A' → D A')
    (hpan : ∀ (c : List PanicEntry) (W : World), DP c W → W.heap[B]? = some (.deferred (some [])) → B + 2 ≤ W.heap.size → Q (.panic c) { a with defers := { target := .collected B, args := #[] } :: a.defers } W)
    (h0 : J0 w) (a₁ : ι → Act)
    (hassign : ∀ (l : Nat) (x : ι) (W : World) (K : Act → World → Prop), K (a₁ x) W →
      assign.wpIn (F.inRound l) (n - 1 - 1) P (Exit.then K (fun _ _ _ => False)) { tmps := (ps.zip (encs x)).foldl (fun t (p, v) => t.setIfInBounds p v) a.tmps, defers := [] } W)
    (hbody : ∀ (l : Nat) (x : ι) (W : World), K x W → B + 2 ≤ W.heap.size → body.wpIn (F.inRound l) (n - 1 - 1) P (fun e a' W' => (e = .normal ∧ Books B W W' ∧ J x W') ∨ (∃ c, e = .panic c ∧ a'.defers = [] ∧ Books B W W' ∧ DP c W')) (a₁ x) W)
    (hdone : ∀ (W : World), D W → W.heap[B]? = some (.deferred (some [])) → B + 2 ≤ W.heap.size → Q .normal { a with defers := { target := .collected B, args := #[] } :: a.defers } W) :
    (Code.rangeFunc g ps assign body).wpAt f₀ F n P Q a w := by
  subst hB
  refine wpAt_rangeFunc fun hfn => ?_
  rw [hro]
  let rec0 : LoopState → Option Code → Loop := fun st pe => { state := st, pending := pe, fn := f₀, tmps := a.tmps, params := ps, assign, body, defers := w.heap.size }
  obtain ⟨W1, hW1⟩ : ∃ W1, (w.alloc (.deferred (some []))).alloc (.loop (rec0 .ready none)) = W1 := ⟨_, rfl⟩
  have hz1 : W1.heap.size = w.heap.size + 2 := by rw [← hW1]; simp
  have hL1 : W1.heap[w.heap.size + 1]? = some (.loop (rec0 .ready none)) := by
    rw [← hW1]; have := World.alloc_heap_new (w.alloc (.deferred (some []))) (.loop (rec0 .ready none)); rwa [World.size_alloc] at this
  have hK1 : W1.heap[w.heap.size]? = some (.deferred (some [])) := by
    rw [← hW1]; exact (Below.heap_alloc _ _ _ (by simp)).trans (World.alloc_heap_new w _)
  have hc1 : Ch [] w W1 := by rw [← hW1]; exact ((Ch.refl _ _).alloc _).alloc _
  have hI1 : J0 W1 := hJ0 _ _ h0 (hc1.mono (by simp))
  refine ⟨w.heap.size + 1, [{ target := .collected w.heap.size, args := #[] }], W1, { target := .fn (.func gf) lb, args := #[.func (.yield (w.heap.size + 1)) #[] #[]] }, W1, gf,
    #[.func (.yield (w.heap.size + 1)) #[] #[]] ++ lb, W1, ?_, ?_, ?_, ?_, fun _ => h1, ?_⟩
  · rw [← hW1]; exact run_enterLoop_outer _ _ _ _ _
  · simp only [resolve, hg]
    simp [go_sem]
  · intro f' hf'; simp [Target.leads] at hf'; subst hf'; exact hFg
  · simp [invoke, go_sem, eg]
  · refine (hseq (w.heap.size + 1) (fun W => w.heap.size + 2 ≤ W.heap.size ∧ W.heap[w.heap.size + 1]? = some (.loop (rec0 .ready none)) ∧ W.heap[w.heap.size]? = some (.deferred (some [])))
      (fun W => w.heap.size + 2 ≤ W.heap.size ∧ W.heap[w.heap.size]? = some (.deferred (some [])))
      (fun A A' L hs hc hL => ⟨Nat.le_trans hs.1 hc.size, (hc.block _ (by have := hs.1; omega) (fun hin => (hL _ hin).2 rfl)).trans hs.2.1, (hc.block _ (by have := hs.1; omega) (fun hin => (hL _ hin).1 rfl)).trans hs.2.2⟩)
      (fun A hA => hA.1) ?_ W1 hI1 ⟨by omega, hL1, hK1⟩).mono ?_
    · rintro x W hi ⟨hz, hl, hk⟩
      have hlt : w.heap.size + 1 < W.heap.size := by omega
      refine ⟨f₀, _, assign, body, run_yield (P := P) (args := encs x) hl (hps x), roundIn_of_wpIn_P hf₀ hfn (hassign _ x W _ ⟨_, run_beginRound hl rfl, ?_⟩)⟩
      have hl2 : (W.putObj (w.heap.size + 1) (.loop (rec0 .busy none))).heap[w.heap.size + 1]? = some (.loop (rec0 .busy none)) := World.putObj_heap_same hlt
      have hk2 : (W.putObj (w.heap.size + 1) (.loop (rec0 .busy none))).heap[w.heap.size]? = some (.deferred (some [])) := (World.putObj_heap_other (by omega)).trans hk
      refine wpIn_mono (hbody _ x _ (hK _ _ _ hi (ch_put (by simp))) (by simp; omega)) ?_
      rintro e a3 W3 (⟨rfl, ⟨hb0, hb1⟩, hi3⟩ | ⟨c, rfl, hd, ⟨hb0, hb1⟩, hi3⟩)
      · have hl3 := hb1.trans hl2
        have hlt3 := (Array.getElem?_eq_some_iff.1 hl3).1
        exact ⟨_, _, run_endRound (P := P) none hl3, .inl ⟨rfl, hJ _ _ _ hi3 (ch_put (by simp)), by simp; omega, World.putObj_heap_same hlt3, (World.putObj_heap_other (by omega)).trans (hb0.trans hk2)⟩⟩
      · have hl3 := hb1.trans hl2
        have hlt3 := (Array.getElem?_eq_some_iff.1 hl3).1
        exact ⟨hd, .inr ⟨c, rfl, hi3, by omega, hb0.trans hk2⟩⟩
    · rintro e W2 (⟨⟨v, rfl⟩, hi, hz, hl, hk⟩ | ⟨c, rfl, hi, hz, hk⟩)
      · exact ⟨none, _, run_endLoop (P := P) hl (by simp [rec0]), hdone _ (hD _ _ hi (ch_put (by simp))) ((World.putObj_heap_other (by omega)).trans hk) (by simp; omega)⟩
      · exact hpan c _ hi hk hz
end
end Go
namespace Go.Proofs.YtehljgigebhddaaGreat
open Go.RowKit Go.Mem Go.Aig
def fitEnc (p : Nat × Nat) : Array Value := #[.int .i64 p.1, .int .i64 p.2]
end Go.Proofs.YtehljgigebhddaaGreat
namespace Go.Aig
end Go.Aig
namespace Go.Proofs.YtehljgigebhddaaGreat
open Go.RowKit Go.Mem Go.Aig
attribute [local go_sem] Oper.semAt_some
section
variable {w : World} {g m : Nat} {G : Gra} {F : List Nat}
end
end Go.Proofs.YtehljgigebhddaaGreat
namespace Go.Aig
/-- the elements of a list with their numbers, the last one first -/
def bwd (l : List Nat) : List (Nat × Nat) := (List.range l.length).reverse.map fun i => (i, l.getD i 0)
theorem bwd_len (l : List Nat) : (bwd l).length = l.length := by simp [bwd]
theorem bwd_at {l : List Nat} {k j r : Nat} (hk : k + j + 1 = l.length) (hr : l[j]? = some r) : (bwd l)[k]? = some (j, r) := by
  unfold bwd
  rw [List.getElem?_map, List.getElem?_reverse (by simp; omega), List.length_range, List.getElem?_range (by omega), show l.length - 1 - k = j by omega]
  show some (j, l.getD j 0) = _
  rw [List.getD_eq_getElem?_getD, hr]
  rfl
end Go.Aig
namespace Go.Proofs.YtehljgigebhddaaGreat
open Go.RowKit Go.Mem Go.Aig
theorem fnvBwref1 : Fnv 272 := fnv_of Tryz.func272 (by simp [Tryz.f272]) (by simp [Tryz.f272])
set_option maxRecDepth 100000 in
set_option maxHeartbeats 1000000 in
theorem Bwref_is {w : World} (xa : Option Addr) (n xc : Nat) :
    Calls Tryz.prog 189 #[.slice xa n xc] w fun e w' => e = .returned (.func (.func 272) #[] #[.pointer (some ⟨w.heap.size, 0, none⟩)]) ∧ w' = w.alloc (.cells #[.slice xa n xc] 45) := by
  go_enter Tryz.func189, Tryz.ntmps189
  go_wp2_with fail
  go_ret
  exact ⟨rfl, rfl⟩
end Go.Proofs.YtehljgigebhddaaGreat
namespace Go.Aig
/-- after i swaps -/
def swappedG {α : Type} (l : List α) (i : Nat) (L : List α) : Prop := L.length = l.length ∧ ∀ p, p < l.length → L[p]? = if p < i ∨ l.length - i ≤ p then l[l.length - 1 - p]? else l[p]?
theorem swappedG_zero {α : Type} (l : List α) : swappedG l 0 l := ⟨rfl, fun p hp => by rw [if_neg (by omega)]⟩
theorem swappedG_done {α : Type} {l L : List α} {i : Nat} (h : swappedG l i L) (hi : l.length ≤ 2 * i + 1) : L = l.reverse := by
  apply List.ext_getElem?
  intro p
  by_cases hp : p < l.length
  · rw [h.2 p hp, List.getElem?_reverse hp]
    split
    · rfl
    · have : l.length - 1 - p = p := by omega
      rw [this]
  · rw [List.getElem?_eq_none (by rw [h.1]; omega), List.getElem?_eq_none (by simp; omega)]
theorem swappedG_step {α : Type} {l L : List α} {i : Nat} {x y : α} (h : swappedG l i L) (hi : 2 * i + 1 < l.length) (hx : L[i]? = some x) (hy : L[l.length - 1 - i]? = some y) :
    swappedG l (i + 1) ((L.set i y).set (l.length - 1 - i) x) := by
  refine ⟨by simp [h.1], fun p hp => ?_⟩
  have e1 := h.2 i (by omega)
  rw [if_neg (by omega), hx] at e1
  have e2 := h.2 (l.length - 1 - i) (by omega)
  rw [if_neg (by omega), hy] at e2
  by_cases h1 : p = l.length - 1 - i
  · subst h1
    rw [List.getElem?_set_self (by simp [h.1]; omega), if_pos (by omega)]
    rw [show l.length - 1 - (l.length - 1 - i) = i from by omega]; exact e1
  · rw [List.getElem?_set_ne (by omega)]
    by_cases h2 : p = i
    · subst h2
      rw [List.getElem?_set_self (by rw [h.1]; omega), if_pos (by omega)]; exact e2
    · rw [List.getElem?_set_ne (by omega), h.2 p hp]
      by_cases h3 : p < i ∨ l.length - i ≤ p
      · rw [if_pos h3, if_pos (by omega)]
      · rw [if_neg h3, if_neg (by omega)]
end Go.Aig
namespace Go.Proofs.YtehljgigebhddaaGreat
open Go.RowKit Go.Mem Go.Aig
section
variable {w : World}
set_option maxRecDepth 100000 in
set_option maxHeartbeats 1000000 in
theorem Revref_some {b n cap : Nat} {l : List Nat} (h : row w 52 1 (.slice (some ⟨b, 0, none⟩) n cap) n (refsCells l)) (hn : n ≤ 1000000) :
    Calls Tryz.prog 216 #[.slice (some ⟨b, 0, none⟩) n cap] w fun e w' => (∃ v, e = .returned v) ∧ row w' 52 1 (.slice (some ⟨b, 0, none⟩) n cap) n (refsCells l.reverse) ∧ Ch [b] w w' := by
  have hl : l.length = n := by have := h.1; simpa [refsCells] using this
  have H := Lib.hid h; clear h
  go_enter Tryz.func216, Tryz.ntmps216
  go_wp2_with fail
  go_loopw [2, 3] (fun i j wr => ∃ k : Nat, 2 * k ≤ n + 1 ∧ i = .int .i64 k ∧ j = .int .i64 ((n : Int) - 1 - k) ∧ (∃ L, swappedG l k L ∧ row wr 52 1 (.slice (some ⟨b, 0, none⟩) n cap) n (refsCells L)) ∧ Ch [b] w wr) (fun i _ _ => n - (intOf i).toNat)
  case atStart => exact ⟨0, by omega, rfl, by go_num, ⟨l, swappedG_zero l, H.out⟩, Ch.refl _ _⟩
  case round =>
    obtain ⟨k, hk, rfl, rfl, ⟨L, hL, hrow⟩, hc⟩ := hrel
    have HL := Lib.hid hL; clear hL
    have HR := Lib.hid hrow; clear hrow
    have HC := Lib.hid hc; clear hc
    by_cases hlt : 2 * k + 1 < n
    · have ej : (n : Int) - 1 - k = ((n - 1 - k : Nat) : Int) := by omega
      rw [ej]
      have hLl : L.length = n := by rw [HL.out.1, hl]
      have hx : L[k]? = some L[k] := List.getElem?_eq_getElem (by omega)
      have hy : L[n - 1 - k]? = some L[n - 1 - k] := List.getElem?_eq_getElem (by omega)
      generalize L[k] = x at hx
      generalize L[n - 1 - k] = y at hy
      have c1 : wr.cell? ⟨b, k, none⟩ = some (.int .i64 x) := by
        have := HR.out.cells (g := b) rfl k (.int .i64 x) (by simp [refsCells, hx])
        rw [Addr.add_lit] at this; simpa using this
      have c2 : wr.cell? ⟨b, n - 1 - k, none⟩ = some (.int .i64 y) := by
        have := HR.out.cells (g := b) rfl (n - 1 - k) (.int .i64 y) (by simp [refsCells, hy])
        rw [Addr.add_lit] at this; simpa using this
      have f0 : ∀ i, wr.frozen? ⟨b, i, none⟩ = false := fun i => by
        rcases HR.out.2 with ⟨e1, _⟩ | ⟨g, cap', cur, e1, h0, hg, _⟩
        · cases e1
        · cases e1; simp [World.frozen?, hg]
      have f1 := f0 k
      have f2 := f0 (n - 1 - k)
      have hne : ¬ n - 1 - k = k := by omega
      have hne' : ¬ k = n - 1 - k := by omega
      have hd : decide ((k : Int) < ((n - 1 - k : Nat) : Int)) = true := decide_eq_true (by omega)
      have hst := swappedG_step HL.out (by omega) hx (by rw [hl]; exact hy)
      have HST := Lib.hid hst; clear hst
      clear f0
      go_wp2_with fail
      refine Ord.St.door (fun _ => True) [.fl, .fl, .fl, .fl, .fl, .fl, .fl, .rd, .fl, .fl, .fl, .rd, .fl, .ef, .fl, .ef] [0, 0, 0, 0, 0, 0, 48, 112, 0, 0, 768, 1792, 4083, 8179, 16383, 32767] [0, 1, 2, 3, 4, 5, 6, 7, 8, 9, 10, 11, 12, 13, 14, 15] mixed (by kernel_rfl) rfl ?_
      refine Ord.St.fl2 (T' := ?_) 0 [1, 2, 3, 4, 5, 6, 7, 8, 9, 10, 11, 12, 13, 14, 15] _ _ rfl (by kernel_rfl) rfl rfl rfl rfl (fun K w' hk => ?_) ?_
      rotate_left
      · go_step; exact hk
      refine Ord.St.fl2 (T' := ?_) 1 [2, 3, 4, 5, 6, 7, 8, 9, 10, 11, 12, 13, 14, 15] _ _ rfl (by kernel_rfl) rfl rfl rfl rfl (fun K w' hk => ?_) ?_
      rotate_left
      · go_step; exact hk
      refine Ord.St.fl2 (T' := ?_) 2 [3, 4, 5, 6, 7, 8, 9, 10, 11, 12, 13, 14, 15] _ _ rfl (by kernel_rfl) rfl rfl rfl rfl (fun K w' hk => ?_) ?_
      rotate_left
      · go_step; exact hk
      refine Ord.St.fl2 (T' := ?_) 3 [4, 5, 6, 7, 8, 9, 10, 11, 12, 13, 14, 15] _ _ rfl (by kernel_rfl) rfl rfl rfl rfl (fun K w' hk => ?_) ?_
      rotate_left
      · go_step; exact hk
      refine Ord.St.fl2 (T' := ?_) 4 [5, 6, 7, 8, 9, 10, 11, 12, 13, 14, 15] _ _ rfl (by kernel_rfl) rfl rfl rfl rfl (fun K w' hk => ?_) ?_
      rotate_left
      · go_step; exact hk
      refine Ord.St.fl2 (T' := ?_) 5 [6, 7, 8, 9, 10, 11, 12, 13, 14, 15] _ _ rfl (by kernel_rfl) rfl rfl rfl rfl (fun K w' hk => ?_) ?_
      rotate_left
      · go_step; exact hk
      refine Ord.St.fl2 (T' := ?_) 6 [7, 8, 9, 10, 11, 12, 13, 14, 15] _ _ rfl (by kernel_rfl) rfl rfl rfl rfl (fun K w' hk => ?_) ?_
      rotate_left
      · go_step; exact hk
      refine Ord.St.rd2 (T' := ?_) 7 [8, 9, 10, 11, 12, 13, 14, 15] _ _ rfl (by kernel_rfl) rfl rfl rfl rfl (fun K hk => ?_) ?_
      rotate_left
      · go_step; exact hk
      refine Ord.St.fl2 (T' := ?_) 8 [9, 10, 11, 12, 13, 14, 15] _ _ rfl (by kernel_rfl) rfl rfl rfl rfl (fun K w' hk => ?_) ?_
      rotate_left
      · go_step; exact hk
      refine Ord.St.fl2 (T' := ?_) 9 [10, 11, 12, 13, 14, 15] _ _ rfl (by kernel_rfl) rfl rfl rfl rfl (fun K w' hk => ?_) ?_
      rotate_left
      · go_step; exact hk
      refine Ord.St.fl2 (T' := ?_) 10 [11, 12, 13, 14, 15] _ _ rfl (by kernel_rfl) rfl rfl rfl rfl (fun K w' hk => ?_) ?_
      rotate_left
      · go_step; exact hk
      refine Ord.St.rd2 (T' := ?_) 11 [12, 13, 14, 15] _ _ rfl (by kernel_rfl) rfl rfl rfl rfl (fun K hk => ?_) ?_
      rotate_left
      · go_step; exact hk
      refine Ord.St.fl2 (T' := ?_) 12 [13, 14, 15] _ _ rfl (by kernel_rfl) rfl rfl rfl rfl (fun K w' hk => ?_) ?_
      rotate_left
      · go_step; exact hk
      refine Ord.St.ef 13 [14, 15] _ rfl (by kernel_rfl) (fun K hK => ?_)
      go_wp2_with fail
      refine ⟨rfl, hK _ _ ?_⟩; clear hK K
      refine Ord.St.fl2 (T' := ?_) 14 [15] _ _ rfl (by kernel_rfl) rfl rfl rfl rfl (fun K w' hk => ?_) ?_
      rotate_left
      · go_step; exact hk
      refine Ord.St.ef 15 [] _ rfl (by kernel_rfl) (fun K hK => ?_)
      go_wp2_with fail
      refine ⟨rfl, hK _ _ ?_⟩; clear hK K
      refine Ord.St.nil ?_
      go_wp2_with fail
      go_roundw
      case rel =>
        refine ⟨k + 1, by omega, by go_num, by go_num, ⟨_, HST.out, ?_⟩, ((HC.out.setCell (by simp) _).setCell (by simp) _).drew⟩
        rw [hl]
        have := row.set (i := n - 1 - k) (row.set (i := k) HR.out (.int .i64 y)) (.int .i64 x)
        simp only [refsCells, List.map_set] at this ⊢
        exact this
      case measure => simp [intOf]; omega
    · have hd : decide ((k : Int) < (n : Int) - 1 - k) = false := decide_eq_false (by omega)
      go_wp2_with fail
      go_end0
      rw [← swappedG_done HL.out (by omega)]
      exact ⟨⟨_, rfl⟩, HR.out, HC.out⟩
end
set_option maxRecDepth 100000 in
set_option maxHeartbeats 2000000 in
/-- backward over a word: whatever the one to whom it is yielded does, until it panics -/
theorem Bw_mem {x : List Nat} {bx : Nat} {xa : Option Addr} {xc : Nat} (len : Nat) (hxl : x.length = len) (hlen : len ≤ 1000000) (I : Nat → World → Prop) (Pn : List PanicEntry → World → Prop)
    (hread : ∀ k W, I k W → W.cell? ⟨bx, 0, none⟩ = some (.slice xa len xc) ∧ Sl W xa (x.map fun (r : Nat) => (r : Int)))
    (N : Nat) (hN : 1 ≤ N) (lp : Nat)
    (hY : ∀ k i r W, (bwd x)[k]? = some (i, r) → I k W → YieldAt Fence.wide (N - 1) Tryz.prog lp (fitEnc (i, r)) W fun e W' => (e = .returned (.bool true) ∧ I (k + 1) W') ∨ (∃ c, e = .panicked c ∧ Pn c W'))
    (W : World) (h0 : I 0 W) :
    CallsIn Fence.wide N Tryz.prog 272 (#[.func (.yield lp) #[] #[]] ++ #[.pointer (some ⟨bx, 0, none⟩)]) W fun e W' => ((∃ v, e = .returned v) ∧ I len W') ∨ (∃ c, e = .panicked c ∧ Pn c W') := by
  subst hxl
  show CallsIn Fence.wide N Tryz.prog 272 #[.func (.yield lp) #[] #[], .pointer (some ⟨bx, 0, none⟩)] W _
  have b0 := (hread _ _ h0).1
  have HY := Lib.hid hY; clear hY
  have HR := Lib.hid hread; clear hread
  have H0 := Lib.hid h0; clear h0
  refine callsIn_of_wp Tryz.func272 rfl trivial ?_ rfl
  simp only [Tryz.ntmps272, List.size_toArray, List.length_cons, List.length_nil, Nat.reduceAdd, Nat.reduceSub, Array.replicate_succ, Array.replicate_zero, List.push_toArray, List.append_toArray, List.nil_append, List.cons_append]
  gi_wp2
  clear b0
  gi_loopw [3] (fun i wr => ∃ j : Nat, j ≤ x.length ∧ i = .int .i64 ((j : Int) - 1) ∧ I (x.length - j) wr) (fun i _ => (intOf i + 1).toNat)
  case atStart => exact ⟨x.length, Nat.le_refl _, rfl, by rw [Nat.sub_self]; exact H0.out⟩
  case round =>
    obtain ⟨j, hj, rfl, hjj⟩ := hrel
    by_cases hlt : j = 0
    · subst hlt
      have HJ1 := Lib.hid hjj; clear hjj
      gi_wp2
      go_end0
      exact .inl ⟨⟨_, rfl⟩, HJ1.out⟩
    · obtain ⟨i, rfl⟩ : ∃ i, j = i + 1 := ⟨j - 1, by omega⟩
      have ei : ((i + 1 : Nat) : Int) - 1 = (i : Int) := by omega
      rw [ei]
      obtain ⟨r, hr⟩ : ∃ r, x[i]? = some r := ⟨_, List.getElem?_eq_getElem (by omega)⟩
      obtain ⟨e0, hsl⟩ := HR.out _ _ hjj
      obtain ⟨xb, xo, rfl, d0⟩ := hsl.cells i (r : Int) (by simp [hr])
      have hz : (bwd x)[x.length - (i + 1)]? = some (i, r) := bwd_at (by omega) hr
      obtain ⟨fn, tmps, assign, body, hy1, hR⟩ := HY.out _ i r _ hz hjj
      simp only [fitEnc] at hy1
      rw [show x.length - (i + 1) + 1 = x.length - i by omega] at hR
      have hge : decide ((i : Int) ≥ 0) = true := decide_eq_true (by omega)
      have HJ1 := Lib.hid hjj; clear hjj
      clear hr hz ei hlt hsl
      gi_wp2
      refine hR.mono ?_
      rintro e W2 (⟨rfl, hJ2⟩ | ⟨c, rfl, hP⟩)
      · have HJ2 := Lib.hid hJ2; clear hJ2
        gi_wp2
        go_roundw
        case rel => exact ⟨i, by omega, by go_num, HJ2.out⟩
        case measure => simp [intOf]
      · have HP := Lib.hid hP; clear hP
        gi_wp2
        exact ⟨rfl, .inr ⟨c, rfl, HP.out⟩⟩
end Go.Proofs.YtehljgigebhddaaGreat
namespace Go.Aig
/-- one more bit of the quotient: what is left, with one more bit of the first word; whether the second word fits in; what is left then -/
def divL (d : List Nat) (q : Mk × List Nat × List Nat) (b : Nat) : Mk × Nat := rstep q.1 (leR q.1.1 d (b :: q.2.2.dropLast))
def divD (d : List Nat) (q : Mk × List Nat × List Nat) (b : Nat) : Mk × List Nat := wstep (divL d q b).1 (subR (divL d q b).1.1 (b :: q.2.2.dropLast) d)
def divM (d : List Nat) (q : Mk × List Nat × List Nat) (b : Nat) : Mk × List Nat := chF (divL d q b).2 (divD d q b).1 ((divD d q b).2.zip (b :: q.2.2.dropLast))
def divS (d : List Nat) (q : Mk × List Nat × List Nat) (b : Nat) : Mk × List Nat × List Nat := ((divM d q b).1, q.2.1 ++ [(divL d q b).2], (divM d q b).2)
def divF (d : List Nat) (s : Mk) (l : List Nat) : Mk × List Nat × List Nat := l.foldl (divS d) (s, [], List.replicate d.length 0)
theorem divF_snoc (d : List Nat) (s : Mk) (l : List Nat) (b : Nat) : divF d s (l ++ [b]) = divS d (divF d s l) b := by unfold divF; rw [List.foldl_append]; rfl
theorem chF_keep (c : Nat) {s : Mk} (h : s.2 ≠ 0) (l : List (Nat × Nat)) : (chF c s l).1 = s := chF_bad c s [] h l
theorem divL_bad (d : List Nat) (q : Mk × List Nat × List Nat) (b : Nat) (h : q.1.2 ≠ 0) : (divL d q b).1 = q.1 := by unfold divL; rw [rstep_bad h]
theorem divD_bad (d : List Nat) (q : Mk × List Nat × List Nat) (b : Nat) (h : (divL d q b).1.2 ≠ 0) : (divD d q b).1 = (divL d q b).1 := by unfold divD; rw [wstep_bad h]
theorem divM_bad (d : List Nat) (q : Mk × List Nat × List Nat) (b : Nat) (h : (divD d q b).1.2 ≠ 0) : (divM d q b).1 = (divD d q b).1 := by unfold divM; exact chF_keep _ h _
theorem divS_bad (d : List Nat) (q : Mk × List Nat × List Nat) (b : Nat) (h : q.1.2 ≠ 0) : (divS d q b).1 = q.1 := by
  show (divM d q b).1 = q.1
  have h1 := divL_bad d q b h
  have h2 := divD_bad d q b (by rw [h1]; exact h)
  rw [divM_bad d q b (by rw [h2, h1]; exact h), h2, h1]
theorem divF_bad (d : List Nat) (s : Mk) (l m : List Nat) (h : (divF d s l).1.2 ≠ 0) : (divF d s (l ++ m)).1 = (divF d s l).1 := by
  induction m generalizing l with
  | nil => rw [List.append_nil]
  | cons b m ih =>
    have e : (divF d s (l ++ [b])).1 = (divF d s l).1 := by rw [divF_snoc]; exact divS_bad _ _ _ h
    rw [show l ++ b :: m = (l ++ [b]) ++ m by simp, ih (l ++ [b]) (by rw [e]; exact h), e]
section
variable {d : List Nat} {s : Mk} {l : List Nat} {k b : Nat} (hb : l[k]? = some b)
include hb
theorem divF_next : divF d s (l.take (k + 1)) = divS d (divF d s (l.take k)) b := by
  rw [List.take_add_one, hb, Option.toList_some, divF_snoc]
theorem divF_stop {e : Nat} (h0 : e ≠ 0) (h : (divS d (divF d s (l.take k)) b).1.2 = e) : (divF d s l).1.2 = e := by
  have h1 := divF_next (d := d) (s := s) hb
  have h2 := divF_bad d s (l.take (k + 1)) (l.drop (k + 1)) (by rw [h1, h]; exact h0)
  rw [List.take_append_drop] at h2
  rw [h2, h1, h]
theorem divF_stopL {e : Nat} (h0 : e ≠ 0) (h : (divL d (divF d s (l.take k)) b).1.2 = e) : (divF d s l).1.2 = e := by
  refine divF_stop hb h0 ?_
  show (divM d (divF d s (l.take k)) b).1.2 = e
  have h2 := divD_bad d (divF d s (l.take k)) b (by rw [h]; exact h0)
  rw [divM_bad d _ b (by rw [h2, h]; exact h0), h2, h]
theorem divF_stopD {e : Nat} (h0 : e ≠ 0) (h : (divD d (divF d s (l.take k)) b).1.2 = e) : (divF d s l).1.2 = e := by
  refine divF_stop hb h0 ?_
  show (divM d (divF d s (l.take k)) b).1.2 = e
  rw [divM_bad d _ b (by rw [h]; exact h0), h]
end
end Go.Aig
namespace Go.Proofs.YtehljgigebhddaaGreat
open Go.RowKit Go.Mem Go.Aig
/-- the graph, and what the loop outside keeps: k rounds are done, its blocks are T; m are one's own blocks, B2 those of the loop inside -/
structure SX (w : World) (g : Nat) (F T0 : List Nat) (I : Nat → List Nat → World → Prop) (B2 : Nat) (m : List Nat) (W : World) (Gp : Gra) (F' T : List Nat) (k : Nat) : Prop where
  gin : GIn W g Gp F'
  ch : Ch (T0 ++ F) w W
  own : ∀ q ∈ F', (q ∈ F ∧ q < w.heap.size) ∨ w.heap.size + 2 ≤ q
  nb : ∀ q ∈ F', q < B2 ∨ B2 + 2 ≤ q
  f2 : F'[2]? = F[2]?
  it : I k T W
  tb : ∀ q ∈ T, ((q ∈ T0 ∧ q < w.heap.size) ∨ w.heap.size + 2 ≤ q) ∧ q ∉ F' ∧ (q < B2 ∨ B2 + 2 ≤ q) ∧ q < W.heap.size
  mine : ∀ q ∈ m, w.heap.size + 2 ≤ q ∧ q ∉ F' ∧ q ∉ T ∧ (q < B2 ∨ B2 + 2 ≤ q) ∧ q < W.heap.size
/-- what is asked of what the loop outside keeps -/
structure IOk (I : Nat → List Nat → World → Prop) : Prop where
  same : ∀ k T A A' L, I k T A → Ch L A A' → (∀ q ∈ L, q ∉ T) → I k T A'
section
variable {w : World} {g : Nat} {F T0 : List Nat} {I : Nat → List Nat → World → Prop} {B2 : Nat} {m : List Nat} {W : World} {Gp : Gra} {F' T : List Nat} {k : Nat}
theorem SX.to (h : SX w g F T0 I B2 m W Gp F' T k) (hI : IOk I) (hw : w.heap.size + 2 ≤ W.heap.size) (hB : B2 + 2 ≤ W.heap.size) {W' : World} {G1 : Gra} {F1 : List Nat} (a1 : GIn W' g G1 F1) (a2 : Ch F' W W') (a3 : ∀ k ∈ F1, k ∈ F' ∨ W.heap.size ≤ k) (a4 : F1[2]? = F'[2]?) : SX w g F T0 I B2 m W' G1 F1 T k := by
  have hs := a2.size
  refine ⟨a1, h.ch.trans a2 (fun q hq => ?_), fun q hq => (a3 q hq).elim (h.own q) (fun e => .inr (by omega)), fun q hq => (a3 q hq).elim (h.nb q) (fun e => .inr (by omega)), a4.trans h.f2, hI.same _ _ _ _ _ h.it a2 (fun q hq hT => (h.tb q hT).2.1 hq), fun q hq => ?_, fun q hq => ?_⟩
  · rcases h.own q hq with e | e
    · exact .inl (List.mem_append_right _ e.1)
    · exact .inr (by omega)
  · obtain ⟨b1, b2, b3, b4⟩ := h.tb q hq
    exact ⟨b1, fun hm => (a3 q hm).elim b2 (fun e => by omega), b3, by omega⟩
  · obtain ⟨b1, b2, b3, b4, b5⟩ := h.mine q hq
    exact ⟨b1, fun hm => (a3 q hm).elim b2 (fun e => by omega), b3, b4, by omega⟩
/-- what changes is one's own, or that of the loops -/
theorem SX.same (h : SX w g F T0 I B2 m W Gp F' T k) (hI : IOk I) {W' : World} {L : List Nat} (hc : Ch L W W') (hL : ∀ q ∈ L, w.heap.size ≤ q ∧ q ∉ F' ∧ q ∉ T) : SX w g F T0 I B2 m W' Gp F' T k :=
  ⟨h.gin.same hc (fun q hq hm => (hL q hm).2.1 hq), h.ch.trans hc (fun q hq => .inr (hL q hq).1), h.own, h.nb, h.f2, hI.same _ _ _ _ _ h.it hc (fun q hq => (hL q hq).2.2), fun q hq => by
    obtain ⟨b1, b2, b3, b4⟩ := h.tb q hq
    exact ⟨b1, b2, b3, by have := hc.size; omega⟩, fun q hq => by
    obtain ⟨b1, b2, b3, b4, b5⟩ := h.mine q hq
    exact ⟨b1, b2, b3, b4, by have := hc.size; omega⟩⟩
/-- a block that is new is one's own -/
theorem SX.add (h : SX w g F T0 I B2 m W Gp F' T k) {W0 : World} {b : Nat} (hF : ∀ q ∈ F', q < W0.heap.size) (hT : ∀ q ∈ T, q < W0.heap.size) (hb : W0.heap.size ≤ b) (hw : w.heap.size + 2 ≤ W0.heap.size) (hB : B2 + 2 ≤ W0.heap.size) (hl : b < W.heap.size) : SX w g F T0 I B2 (b :: m) W Gp F' T k :=
  ⟨h.gin, h.ch, h.own, h.nb, h.f2, h.it, h.tb, fun q hq => by
    rcases List.mem_cons.1 hq with rfl | hq
    · exact ⟨by omega, fun hm => by have := hF _ hm; omega, fun hm => by have := hT _ hm; omega, .inr (by omega), hl⟩
    · exact h.mine q hq⟩
theorem SX.sub (h : SX w g F T0 I B2 m W Gp F' T k) {m' : List Nat} (hm : ∀ q ∈ m', q ∈ m) : SX w g F T0 I B2 m' W Gp F' T k := ⟨h.gin, h.ch, h.own, h.nb, h.f2, h.it, h.tb, fun q hq => h.mine q (hm q hq)⟩
/-- behind a round of the loop outside -/
theorem SX.next (h : SX w g F T0 I B2 m W Gp F' T k) (hw : w.heap.size + 2 ≤ W.heap.size) (hB : B2 + 2 ≤ W.heap.size) {W' : World} {T' : List Nat} (hI : I (k + 1) T' W') (hc : Ch (w.heap.size :: (w.heap.size + 1) :: T) W W') (hT : ∀ q ∈ T', q ∈ T ∨ W.heap.size ≤ q) (hT2 : ∀ q ∈ T', q < W'.heap.size) : SX w g F T0 I B2 m W' Gp F' T' (k + 1) := by
  have hs := hc.size
  have hnF : ∀ q ∈ F', q ∉ w.heap.size :: (w.heap.size + 1) :: T := fun q hq hm => by
    simp only [List.mem_cons] at hm
    rcases hm with e | e | e
    · rcases h.own q hq with h1 | h1 <;> omega
    · rcases h.own q hq with h1 | h1 <;> omega
    · exact (h.tb q e).2.1 hq
  refine ⟨h.gin.same hc hnF, h.ch.trans hc (fun q hq => ?_), h.own, h.nb, h.f2, hI, fun q hq => ?_, fun q hq => ?_⟩
  · simp only [List.mem_cons] at hq
    rcases hq with e | e | e
    · exact .inr (by omega)
    · exact .inr (by omega)
    · rcases (h.tb q e).1 with h1 | h1
      · exact .inl (List.mem_append_left _ h1.1)
      · exact .inr (by omega)
  · rcases hT q hq with e | e
    · obtain ⟨b1, b2, b3, b4⟩ := h.tb q e
      exact ⟨b1, b2, b3, by omega⟩
    · exact ⟨.inr (by omega), fun hm => by have := h.gin.lt q hm; omega, .inr (by omega), hT2 q hq⟩
  · obtain ⟨b1, b2, b3, b4, b5⟩ := h.mine q hq
    exact ⟨b1, b2, fun hm => (hT q hm).elim b3 (fun e => by omega), b4, by omega⟩
/-- the state between two rounds, or within one: one's own cells, the second word with one more bit, what is left -/
structure SR (w : World) (g : Nat) (F T0 : List Nat) (I : Nat → List Nat → World → Prop) (X : World → Prop) (B2 : Nat) (b4 b5 b6 bb db dc : Nat) (yv bx : Value) (n : Nat) (d : List Nat) (W : World) (Gp : Gra) (F' T : List Nat) (k rb rc : Nat) (r : List Nat) : Prop where
  sx : SX w g F T0 I B2 [rb, b4, b5, b6, bb, db] W Gp F' T k
  c4 : blk W b4 [yv]
  c5 : blk W b5 [.slice (some ⟨db, 0, none⟩) (n + 1) dc]
  c6 : blk W b6 [.slice (some ⟨rb, 0, none⟩) (n + 1) rc]
  cb : blk W bb [bx]
  rd : row W 52 1 (.slice (some ⟨db, 0, none⟩) (n + 1) dc) (n + 1) (refsCells d)
  rr : row W 52 1 (.slice (some ⟨rb, 0, none⟩) (n + 1) rc) (n + 1) (refsCells r)
  ne : rb ≠ b4 ∧ rb ≠ b5 ∧ rb ≠ b6 ∧ rb ≠ bb ∧ rb ≠ db
  d6 : b6 ≠ b4 ∧ b6 ≠ b5 ∧ b6 ≠ bb ∧ b6 ≠ db
  xw : X W
  hw : w.heap.size + 2 ≤ W.heap.size
  hB : B2 + 2 ≤ W.heap.size
/-- what is asked of the loop outside's books -/
structure XOk (w : World) (X : World → Prop) : Prop where
  same : ∀ A A' L, X A → Ch L A A' → (∀ q ∈ L, q ≠ w.heap.size ∧ q ≠ w.heap.size + 1) → X A'
section
variable {X : World → Prop} {b4 b5 b6 bb db dc : Nat} {yv bx : Value} {n : Nat} {d : List Nat} {rb rc : Nat} {r : List Nat}
theorem SR.to2 (h : SR w g F T0 I X B2 b4 b5 b6 bb db dc yv bx n d W Gp F' T k rb rc r) (hI : IOk I) (hX : XOk w X) {W' : World} {G1 : Gra} {F1 : List Nat} (a1 : GIn W' g G1 F1) (hc : Ch F' W W') (a3 : ∀ k ∈ F1, k ∈ F' ∨ W.heap.size ≤ k) (a4 : F1[2]? = F'[2]?) : SR w g F T0 I X B2 b4 b5 b6 bb db dc yv bx n d W' G1 F1 T k rb rc r := by
  have h1 := h.sx.to hI h.hw h.hB a1 hc a3 a4
  have hs := hc.size
  have hm := fun q hq => (h.sx.mine q hq).2.1
  exact ⟨h1, h.c4.ch hc (hm _ (by simp)), h.c5.ch hc (hm _ (by simp)), h.c6.ch hc (hm _ (by simp)), h.cb.ch hc (hm _ (by simp)), h.rd.ch hc (fun q hq => by cases hq; exact hm _ (by simp)), h.rr.ch hc (fun q hq => by cases hq; exact hm _ (by simp)), h.ne, h.d6,
    hX.same _ _ _ h.xw hc (fun q hq => by rcases h.sx.own q hq with e | e <;> constructor <;> omega), by have := h.hw; omega, by have := h.hB; omega⟩
theorem SR.to (h : SR w g F T0 I X B2 b4 b5 b6 bb db dc yv bx n d W Gp F' T k rb rc r) (hI : IOk I) (hX : XOk w X) {W' : World} {G1 : Gra} (ht : GTo W g G1 F' W') : ∃ F1, SR w g F T0 I X B2 b4 b5 b6 bb db dc yv bx n d W' G1 F1 T k rb rc r := by
  obtain ⟨F1, a1, a2, a3, a4⟩ := ht
  exact ⟨F1, h.to2 hI hX a1 a2 a3 a4⟩
/-- a bit of what is left is laid -/
theorem SR.put (h : SR w g F T0 I X B2 b4 b5 b6 bb db dc yv bx n d W Gp F' T k rb rc r) (hI : IOk I) (hX : XOk w X) (j v : Nat) : SR w g F T0 I X B2 b4 b5 b6 bb db dc yv bx n d (W.setCell ⟨rb, j, none⟩ (.int .i64 v)) Gp F' T k rb rc (r.set j v) := by
  obtain ⟨m1, m2, m3, m4, m5⟩ := h.sx.mine rb (by simp)
  obtain ⟨n1, n2, n3, n4, n5⟩ := h.ne
  have hc : Ch [rb] W (W.setCell ⟨rb, j, none⟩ (.int .i64 v)) := (Ch.refl _ _).setCell (.inl (by simp)) _
  have e : refsCells (r.set j v) = (refsCells r).set j (.int .i64 v) := by unfold refsCells; rw [List.map_set]
  exact ⟨h.sx.same hI hc (fun q hq => by rw [List.mem_singleton.1 hq]; exact ⟨by omega, m2, m3⟩), h.c4.ch hc (by simpa using fun e => n1 e.symm), h.c5.ch hc (by simpa using fun e => n2 e.symm), h.c6.ch hc (by simpa using fun e => n3 e.symm), h.cb.ch hc (by simpa using fun e => n4 e.symm), h.rd.ch hc (fun q hq => by cases hq; simpa using fun e => n5 e.symm), by rw [e]; exact row.set h.rr _, h.ne, h.d6,
    hX.same _ _ _ h.xw hc (fun q hq => by rw [List.mem_singleton.1 hq]; constructor <;> omega), by have := h.hw; have := hc.size; omega, by have := h.hB; have := hc.size; omega⟩
/-- what changes is none of it -/
theorem SR.same (h : SR w g F T0 I X B2 b4 b5 b6 bb db dc yv bx n d W Gp F' T k rb rc r) (hI : IOk I) (hX : XOk w X) {W' : World} {L : List Nat} (hc : Ch L W W') (hL : ∀ q ∈ L, w.heap.size + 2 ≤ q ∧ q ∉ F' ∧ q ∉ T ∧ q ∉ [rb, b4, b5, b6, bb, db]) : SR w g F T0 I X B2 b4 b5 b6 bb db dc yv bx n d W' Gp F' T k rb rc r := by
  have hm : ∀ q ∈ [rb, b4, b5, b6, bb, db], q ∉ L := fun q hq hm => (hL q hm).2.2.2 hq
  exact ⟨h.sx.same hI hc (fun q hq => ⟨by have := (hL q hq).1; omega, (hL q hq).2.1, (hL q hq).2.2.1⟩), h.c4.ch hc (hm _ (by simp)), h.c5.ch hc (hm _ (by simp)), h.c6.ch hc (hm _ (by simp)), h.cb.ch hc (hm _ (by simp)), h.rd.ch hc (fun q hq => by cases hq; exact hm _ (by simp)), h.rr.ch hc (fun q hq => by cases hq; exact hm _ (by simp)), h.ne, h.d6,
    hX.same _ _ _ h.xw hc (fun q hq => by have := (hL q hq).1; constructor <;> omega), by have := h.hw; have := hc.size; omega, by have := h.hB; have := hc.size; omega⟩
theorem SR.books (h : SR w g F T0 I X B2 b4 b5 b6 bb db dc yv bx n d W Gp F' T k rb rc r) (hI : IOk I) (hX : XOk w X) (hb : w.heap.size + 2 ≤ B2) {W' : World} (hc : Ch [B2, B2 + 1] W W') : SR w g F T0 I X B2 b4 b5 b6 bb db dc yv bx n d W' Gp F' T k rb rc r := by
  refine h.same hI hX hc (fun q hq => ?_)
  have hq2 : q = B2 ∨ q = B2 + 1 := by simpa using hq
  refine ⟨by omega, fun hm => by have := h.sx.nb q hm; omega, fun hm => by have := (h.sx.tb q hm).2.2.1; omega, fun hm => by have := (h.sx.mine q hm).2.2.2.1; omega⟩
/-- behind a round of the loop outside -/
theorem SR.next (h : SR w g F T0 I X B2 b4 b5 b6 bb db dc yv bx n d W Gp F' T k rb rc r) {W' : World} {T' : List Nat} (hI : I (k + 1) T' W') (hc : Ch (w.heap.size :: (w.heap.size + 1) :: T) W W') (hT : ∀ q ∈ T', q ∈ T ∨ W.heap.size ≤ q) (hT2 : ∀ q ∈ T', q < W'.heap.size) (hX : X W') : SR w g F T0 I X B2 b4 b5 b6 bb db dc yv bx n d W' Gp F' T' (k + 1) rb rc r := by
  have hm : ∀ q ∈ [rb, b4, b5, b6, bb, db], q ∉ w.heap.size :: (w.heap.size + 1) :: T := fun q hq hm => by
    obtain ⟨m1, m2, m3, m4, m5⟩ := h.sx.mine q hq
    simp only [List.mem_cons] at hm
    rcases hm with e | e | e
    · omega
    · omega
    · exact m3 e
  exact ⟨h.sx.next h.hw h.hB hI hc hT hT2, h.c4.ch hc (hm _ (by simp)), h.c5.ch hc (hm _ (by simp)), h.c6.ch hc (hm _ (by simp)), h.cb.ch hc (hm _ (by simp)), h.rd.ch hc (fun q hq => by cases hq; exact hm _ (by simp)), h.rr.ch hc (fun q hq => by cases hq; exact hm _ (by simp)), h.ne, h.d6, hX, by have := h.hw; have := hc.size; omega, by have := h.hB; have := hc.size; omega⟩
/-- what is left moves to a new block, in its cell -/
theorem SR.move (h : SR w g F T0 I X B2 b4 b5 b6 bb db dc yv bx n d W Gp F' T k rb rc r) (hI : IOk I) (hX : XOk w X) {W1 W2 : World} (h1 : Ch [] W W1) {rb' rc' : Nat} {r' : List Nat} (hrow : row W1 52 1 (.slice (some ⟨rb', 0, none⟩) (n + 1) rc') (n + 1) (refsCells r')) (hn : W.heap.size ≤ rb')
    (h2 : W2 = W1.setCell ⟨b6, 0, none⟩ (.slice (some ⟨rb', 0, none⟩) (n + 1) rc')) : SR w g F T0 I X B2 b4 b5 b6 bb db dc yv bx n d W2 Gp F' T k rb' rc' r' := by
  obtain ⟨e1, e2, e3, e4⟩ := h.d6
  have m6 := h.sx.mine b6 (by simp)
  have hlt := fun q hq => (h.sx.mine q hq).2.2.2.2
  have hc2 : Ch [b6] W1 W2 := by rw [h2]; exact (Ch.refl _ _).setCell (.inl (by simp)) _
  have hs1 := h1.size
  have hs2 := hc2.size
  have hr1 : rb' < W1.heap.size := (hrow.lt _ rfl).2
  have hw := h.hw
  have hB := h.hB
  have l4 := hlt b4 (by simp)
  have l5 := hlt b5 (by simp)
  have l6 := hlt b6 (by simp)
  have lb := hlt bb (by simp)
  have ld := hlt db (by simp)
  have sx1 := h.sx.same hI h1 (by simp)
  have sx2 := sx1.same hI hc2 (fun q hq => by rw [List.mem_singleton.1 hq]; exact ⟨by omega, m6.2.1, m6.2.2.1⟩)
  have sx3 := (sx2.sub (m' := [b4, b5, b6, bb, db]) (by simp)).add (W0 := W) (b := rb') (fun q hq => h.sx.gin.lt q hq) (fun q hq => (h.sx.tb q hq).2.2.2) hn hw hB (by omega)
  refine ⟨sx3, (h.c4.ch h1 (by simp)).ch hc2 (by simpa using fun e => e1 e.symm), (h.c5.ch h1 (by simp)).ch hc2 (by simpa using fun e => e2 e.symm), ?_, (h.cb.ch h1 (by simp)).ch hc2 (by simpa using fun e => e3 e.symm), (h.rd.ch h1 (by simp)).ch hc2 (fun q hq => by cases hq; simpa using fun e => e4 e.symm), hrow.ch hc2 (fun q hq => by cases hq; simp; omega), ⟨by omega, by omega, by omega, by omega, by omega⟩, h.d6,
    hX.same _ _ _ (hX.same _ _ _ h.xw h1 (by simp)) hc2 (fun q hq => by rw [List.mem_singleton.1 hq]; constructor <;> omega), by omega, by omega⟩
  rw [h2]
  exact (h.c6.ch h1 (by simp)).set _
end
end
end Go.Proofs.YtehljgigebhddaaGreat
namespace Go.Ord.OrdP
open Go
section
variable {ops : Array Oper} {ks : List Kd} {A : List Nat} {C : World → Prop} {Q : Act → World → Prop} {QP : List PanicEntry → World → Prop}
section plain
variable {P : Program} {Q' : Exit → Act → World → Prop}
/-- the normal way out, and a panic -/
def onlyP (QP : List PanicEntry → World → Prop) (Q : Act → World → Prop) : Exit → Act → World → Prop := fun e a w => (e = .normal ∧ Q a w) ∨ ∃ c, e = .panic c ∧ a.defers = [] ∧ QP c w

theorem onlyP_lets (QP : List PanicEntry → World → Prop) (Q : Act → World → Prop) : ¬ LetsOut (onlyP QP Q) := fun ⟨_, _, h⟩ => by
  rcases h with ⟨h, _⟩ | ⟨_, h, _⟩ <;> cases h
theorem onlyP_out {QP : List PanicEntry → World → Prop} {K K' : Act → World → Prop} {a a' : Act} {w : World} {c : List PanicEntry} (h : onlyP QP K (.panic c) a w) (hd : a.defers = a'.defers) : onlyP QP K' (.panic c) a' w := by
  rcases h with ⟨h, _⟩ | ⟨c', h1, h2, h3⟩
  · cases h
  · exact .inr ⟨c', h1, hd ▸ h2, h3⟩
theorem onlyP_in {QP : List PanicEntry → World → Prop} {K : Act → World → Prop} {a : Act} {w : World} (h : onlyP QP K .normal a w) : Exit.normal = Exit.normal ∧ K a w := by
  rcases h with h | ⟨_, h, _⟩
  · exact h
  · cases h
theorem put_defers' (a : Act) (d : Option Tmp) (v : Value) : (a.put d v).defers = a.defers := by cases d <;> rfl

theorem lawsP (hs : Stat ops ks A) (Q : Act → World → Prop) : Laws ops (wpOp P ops (onlyP QP Q)) (yieldsP P ops) where
  mono h hh := wpOp_mono h hh
  out := by
    rintro i o v a w K ho ⟨o', ho', hy⟩ h
    rw [ho] at ho'; cases ho'
    unfold wpOp
    simp only [ho]
    rcases hy with ⟨hw, hv⟩ | ⟨hw, rfl⟩
    · rw [if_pos hw]; left; exact hv.wp h
    · rw [if_neg (by simp [hw])]; exact h
  comm := by
    intro i j oi oj v a w K hi hj hap h
    obtain ⟨h1, h2, h3⟩ := Oper.apart_spec hap
    have hsi := fun cs b => hs.sel i oi cs b hi
    have hsj := fun cs b => hs.sel j oj cs b hj
    have keep : ∀ (a' : Act) (u : Value), execOp a'.eval oi = execOp a.eval oi → Region.wanted oi (yielded ops a'.tmps) = Region.wanted oi (yielded ops a.tmps) →
        ∀ x w0, yieldsP P ops i x a w0 → yieldsP P ops i x (a'.put oj.dst u) w0 := by
      rintro a' u e1 e2 x w0 ⟨o, ho, hy⟩
      rw [hi] at ho; cases ho
      refine ⟨oi, hi, ?_⟩
      rw [wanted_put oi a' oj.dst u h3, e2]
      unfold RunsTo at *
      rw [execOp_put oi hsi a' oj.dst u h3, e1]
      exact hy
    unfold wpOp at *
    simp only [hj] at *
    rw [wanted_put oj a oi.dst v h1] at h
    split
    · rename_i hw
      rw [if_pos hw] at h
      left
      have h := h.resolve_right fun hh => onlyP_lets QP Q hh.2
      unfold Oper.wp at *
      rw [execOp_put oj hsj a oi.dst v h1] at h
      generalize (execOp a.eval oj).run P w = r at *
      cases r with
      | ok n w' =>
        cases n <;> simp only [Oper.upon] at h ⊢
        case value u => exact ⟨keep a u rfl rfl, by rw [← Act.put_comm a v u h2]; exact h⟩
        case skip => exact ⟨keep a _ rfl rfl, by rw [← Act.put_comm a v undef h2]; exact h⟩
        case defer d =>
          refine ⟨keep { a with defers := d :: a.defers } _ rfl rfl, ?_⟩
          rw [← Act.put_comm _ v undef h2, ← Act.put_defers]
          exact h
        case enter f args =>
          refine Calls.mono h fun e w'' he => ?_
          cases e with
          | returned u => exact ⟨keep a u rfl rfl, by rw [← Act.put_comm a v u h2]; exact he⟩
          | panicked c => exact onlyP_out he (put_defers' a oi.dst v)
          | outgrown => exact (onlyP_lets QP Q he).elim
        case row row args => exact Rows.mono h fun u w'' he => ⟨keep a u rfl rfl, by rw [← Act.put_comm a v u h2]; exact he⟩
      | halt x w' =>
        cases x <;> simp only [Oper.upon] at h ⊢
        case panic u => exact onlyP_out h (put_defers' a oi.dst v)
    · rename_i hw
      rw [if_neg hw] at h
      exact ⟨keep a _ rfl rfl, by rw [← Act.put_comm a v undef h2]; exact h⟩

theorem wpAny_of_all (hs : Stat ops ks A) (Q : Act → World → Prop) : ∀ (m : Nat) (R : List Nat) (listed : Array Bool) (a : Act) (w : World), R.Nodup → (∀ k ∈ R, k < ops.size) → R.length = m → listed.size = ops.size → Fits ops listed R →
    allOrd ops (wpOp P ops (onlyP QP Q)) ks A C Q m R a w → wpAny P .any ops (onlyP QP Q) m listed a w := by
  intro m
  induction m with
  | zero =>
    intro R listed a w hn hlt hlen hsz hf h
    have hR : R = [] := List.eq_nil_of_length_eq_zero hlen
    refine ⟨?_, .inl ⟨rfl, h⟩⟩
    cases hr : Region.ready .any ops listed with
    | nil => rfl
    | cons x xs =>
      have := (hf.mem hs (i := x) (by rw [hr]; simp)).1
      rw [hR] at this; cases this
  | succ m ih =>
    intro R listed a w hn hlt hlen hsz hf h
    refine ⟨fun h0 => (hf.nonempty hs hlt (by intro e; rw [e] at hlen; cases hlen) h0).elim, fun i hi => ?_⟩
    obtain ⟨hiR, hri⟩ := hf.mem hs hi
    refine wpOp_mono (fun a' w' h3 => ?_) (h i hiR hri)
    exact ih (R.erase i) _ a' w' (hn.erase _) (fun k hk => hlt k (List.mem_of_mem_erase hk)) (by rw [List.length_erase_of_mem hiR]; omega) (by simpa using hsz) (hf.set hn hsz) h3.2

/-! ### The steps -/
section steps
variable {l : List Oper}
/-- what is left, with all that the walk never asks of it again -/
def St (QP : List PanicEntry → World → Prop) (P : Program) (l : List Oper) (ks : List Kd) (A : List Nat) (C : World → Prop) (Q : Act → World → Prop) (R : List Nat) (a : Act) (w : World) : Prop :=
  R.Nodup → Up l.toArray R → (∀ k ∈ R, k < l.toArray.size) → Stat l.toArray ks A → allOrd l.toArray (wpOp P l.toArray (onlyP QP Q)) ks A C Q R.length R a w

theorem St.nil {a : Act} {w : World} (h : Q a w) : St QP P l ks A C Q [] a w := fun _ _ _ _ => h
theorem St.take {R R' : List Nat} {a : Act} {w : World} {v : Value} (i : Nat) (o : Oper) (hi : l.toArray[i]? = some o) (hiR : R.contains i = true) (hr : readyIn l.toArray R i = true) (hR : R.erase i = R')
    (ht : Takes (yieldsP P l.toArray) C (kd ks i) i v a w) (h : St QP P l ks A C Q R' (a.put o.dst v) w) : St QP P l ks A C Q R a w := by
  intro hn hu hlt hs
  have hm : i ∈ R := by simpa using hiR
  have hlen : R.length = R.length - 1 + 1 := by have := List.length_pos_of_mem hm; omega
  rw [hlen]
  refine Go.Ord.take (lawsP hs Q) hs hi (R.length - 1) R a w hn hu hlt hlen hm hr ht ?_
  subst hR
  have := h (hn.erase _) (hu.erase hn hr) (fun k hk => hlt k (List.mem_of_mem_erase hk)) hs
  rwa [List.length_erase_of_mem hm] at this

/-- passed over: the guard says no -/
theorem St.skip {R : List Nat} {a : Act} {w : World} (i : Nat) (R' : List Nat) (o : Oper) (hil : l[i]? = some o) (hchk : chk l.toArray ks R R' i .fl = true)
    (hg : Region.wanted o (yielded l.toArray a.tmps) = false) (h : ∀ K : Act → Prop, (∀ a, St QP P l ks A C Q R' a w → K a) → K (a.put o.dst undef)) : St QP P l ks A C Q R a w :=
  have hi : l.toArray[i]? = some o := by simpa using hil
  have ⟨hiR, hr, hR, hk⟩ := chk_spec hchk
  .take i o hi hiR hr hR (by rw [hk]; exact fun _ => ⟨o, hi, .inr ⟨hg, rfl⟩⟩) (h _ fun _ h => h)

theorem St.ho {R : List Nat} {a : Act} {w : World} {v : Value} (i : Nat) (R' : List Nat) (o : Oper) (hil : l[i]? = some o) (hchk : chk l.toArray ks R R' i .ho = true)
    (hg : Region.wanted o (yielded l.toArray a.tmps) = true) (hC : C w) (hv : ∀ w', C w' → (execOp a.eval o).run P w' = .ok (.value v) w') (h : ∀ K : Act → Prop, (∀ a, St QP P l ks A C Q R' a w → K a) → K (a.put o.dst v)) : St QP P l ks A C Q R a w :=
  have hi : l.toArray[i]? = some o := by simpa using hil
  have ⟨hiR, hr, hR, hk⟩ := chk_spec hchk
  .take i o hi hiR hr hR (by rw [hk]; exact ⟨hC, fun w' hw' => ⟨o, hi, .inl ⟨hg, by unfold RunsTo; rw [hv w' hw']; exact ⟨rfl, rfl⟩⟩⟩⟩) (h _ fun _ h => h)

theorem St.rd {R : List Nat} {a : Act} {w : World} (i : Nat) (R' : List Nat) (o : Oper) (hil : l[i]? = some o) (hchk : chk l.toArray ks R R' i .rd = true)
    (hg : Region.wanted o (yielded l.toArray a.tmps) = true) (h : ∀ K : Act → Prop, (∀ a, St QP P l ks A C Q R' a w → K a) → o.still P a w K) : St QP P l ks A C Q R a w := by
  have hi : l.toArray[i]? = some o := by simpa using hil
  have ⟨hiR, hr, hR, hk⟩ := chk_spec hchk
  have h1 := h _ (fun _ hh => hh)
  have key : ∃ v, RunsTo P o a w v ∧ St QP P l ks A C Q R' (a.put o.dst v) w := by
    unfold Oper.still at h1
    unfold RunsTo
    generalize (execOp a.eval o).run P w = r at *
    cases r with
    | ok n w' =>
      cases n <;> simp only [Oper.stillUpon] at h1
      case value u => exact ⟨u, ⟨h1.1, rfl⟩, h1.2⟩
      case skip => exact ⟨undef, ⟨h1.1, rfl⟩, h1.2⟩
      case enter f args => obtain ⟨e, v, hc, h2⟩ := h1; exact ⟨v, by rw [e]; exact hc, h2⟩
    | halt x w' => simp only [Oper.stillUpon] at h1
  obtain ⟨v, hy, hK⟩ := key
  exact .take i o hi hiR hr hR (v := v) (by rw [hk]; exact ⟨o, hi, .inl ⟨hg, hy⟩⟩) hK

/-- the effect that alone may come up: its own walk, as a list of one operation -/
theorem St.ef {R : List Nat} {a : Act} {w : World} (i : Nat) (R' : List Nat) (o : Oper) (hil : l[i]? = some o) (hchk : chkE l.toArray ks A R R' i = true)
    (h : ∀ K : Act → World → Prop, (∀ a w, St QP P l ks A C Q R' a w → K a w) → wpList P l.toArray (onlyP QP K) [o] a w) : St QP P l ks A C Q R a w := by
  have hi : l.toArray[i]? = some o := by simpa using hil
  have ⟨hr, hR, hk, hc⟩ := chkE_spec hchk
  intro hn hu hlt hs
  have hm : i ∈ R := (List.mem_filter.1 (hr ▸ List.mem_singleton.2 rfl : i ∈ R.filter (readyIn l.toArray R))).1
  have hri : readyIn l.toArray R i = true := (List.mem_filter.1 (hr ▸ List.mem_singleton.2 rfl : i ∈ R.filter (readyIn l.toArray R))).2
  have hlen : R.length = R.length - 1 + 1 := by have := List.length_pos_of_mem hm; omega
  rw [hlen]
  refine branch hr fun j hj => ?_
  have hji : j = i := List.mem_singleton.1 hj
  subst hji
  have h1 := h _ (fun _ _ hh => hh)
  unfold wpOp
  simp only [hi]
  unfold wpList at h1
  have key : ∀ a' w', (wpList P l.toArray (onlyP QP (fun a w => St QP P l ks A C Q R' a w)) [] a' w') → post ks A l.toArray.size C j w w' ∧ allOrd l.toArray (wpOp P l.toArray (onlyP QP Q)) ks A C Q (R.length - 1) (R.erase j) a' w' := by
    intro a' w' hh
    refine ⟨?_, ?_⟩
    · unfold post; rw [if_pos hk]; intro hh2; rw [hc] at hh2; exact absurd hh2 (by simp)
    subst hR
    have := (onlyP_in hh).2 (hn.erase _) (hu.erase hn hri) (fun k hk => hlt k (List.mem_of_mem_erase hk)) hs
    rwa [List.length_erase_of_mem hm] at this
  split
  · rename_i hw
    rw [if_pos hw] at h1
    have h1 := h1.resolve_right fun hh => onlyP_lets _ _ hh.2
    left
    have h2 := Oper.wp_mono (K' := fun a' w' => post ks A l.toArray.size C j w w' ∧ allOrd l.toArray (wpOp P l.toArray (onlyP QP Q)) ks A C Q (R.length - 1) (R.erase j) a' w') key h1
    unfold Oper.wp at h2 ⊢
    generalize (execOp a.eval o).run P w = r at h2 ⊢
    cases r with
    | ok n w' =>
      cases n <;> simp only [Oper.upon] at h2 ⊢
      case value u => exact h2
      case skip => exact h2
      case defer d => exact h2
      case enter f args =>
        refine Calls.mono h2 fun e w'' he => ?_
        cases e with
        | returned u => exact he
        | panicked c => exact onlyP_out he rfl
        | outgrown => exact (onlyP_lets _ _ he).elim
      case row row args => exact h2
    | halt x w' =>
      cases x <;> simp only [Oper.upon] at h2 ⊢
      case panic u => exact onlyP_out h2 rfl
  · rename_i hw
    rw [if_neg hw] at h1
    exact key _ _ h1
/-- the same where the class of worlds is asked for behind it -/
theorem St.efC {R : List Nat} {a : Act} {w : World} (i : Nat) (R' : List Nat) (o : Oper) (hil : l[i]? = some o) (hchk : chkEC l.toArray ks R R' i = true)
    (h : ∀ K : Act → World → Prop, (∀ a w, C w → St QP P l ks A C Q R' a w → K a w) → wpList P l.toArray (onlyP QP K) [o] a w) : St QP P l ks A C Q R a w := by
  have hi : l.toArray[i]? = some o := by simpa using hil
  have ⟨hr, hR, hk⟩ := chkEC_spec hchk
  intro hn hu hlt hs
  have hm : i ∈ R := (List.mem_filter.1 (hr ▸ List.mem_singleton.2 rfl : i ∈ R.filter (readyIn l.toArray R))).1
  have hri : readyIn l.toArray R i = true := (List.mem_filter.1 (hr ▸ List.mem_singleton.2 rfl : i ∈ R.filter (readyIn l.toArray R))).2
  have hlen : R.length = R.length - 1 + 1 := by have := List.length_pos_of_mem hm; omega
  rw [hlen]
  refine branch hr fun j hj => ?_
  have hji : j = i := List.mem_singleton.1 hj
  subst hji
  have h1 := h (fun a w => C w ∧ St QP P l ks A C Q R' a w) (fun _ _ hc hh => ⟨hc, hh⟩)
  unfold wpOp
  simp only [hi]
  unfold wpList at h1
  have key : ∀ a' w', (wpList P l.toArray (onlyP QP (fun a w => C w ∧ St QP P l ks A C Q R' a w)) [] a' w') → post ks A l.toArray.size C j w w' ∧ allOrd l.toArray (wpOp P l.toArray (onlyP QP Q)) ks A C Q (R.length - 1) (R.erase j) a' w' := by
    intro a' w' hh
    refine ⟨?_, ?_⟩
    · unfold post; rw [if_pos hk]; intro _; exact (onlyP_in hh).2.1
    subst hR
    have := (onlyP_in hh).2.2 (hn.erase _) (hu.erase hn hri) (fun k hk => hlt k (List.mem_of_mem_erase hk)) hs
    rwa [List.length_erase_of_mem hm] at this
  split
  · rename_i hw
    rw [if_pos hw] at h1
    have h1 := h1.resolve_right fun hh => onlyP_lets _ _ hh.2
    left
    have h2 := Oper.wp_mono (K' := fun a' w' => post ks A l.toArray.size C j w w' ∧ allOrd l.toArray (wpOp P l.toArray (onlyP QP Q)) ks A C Q (R.length - 1) (R.erase j) a' w') key h1
    unfold Oper.wp at h2 ⊢
    generalize (execOp a.eval o).run P w = r at h2 ⊢
    cases r with
    | ok n w' =>
      cases n <;> simp only [Oper.upon] at h2 ⊢
      case value u => exact h2
      case skip => exact h2
      case defer d => exact h2
      case enter f args =>
        refine Calls.mono h2 fun e w'' he => ?_
        cases e with
        | returned u => exact he
        | panicked c => exact onlyP_out he rfl
        | outgrown => exact (onlyP_lets _ _ he).elim
      case row row args => exact h2
    | halt x w' =>
      cases x <;> simp only [Oper.upon] at h2 ⊢
      case panic u => exact onlyP_out h2 rfl
  · rename_i hw
    rw [if_neg hw] at h1
    exact key _ _ h1
/-! ### The same steps, asked of the walk's own 'Oper.wp': the step itself finds the new frame -/
/-- all that the kernel looks at, with the slot that is written -/
theorem St.fl2 {R : List Nat} {a : Act} {T' : Array Value} {w : World} (i : Nat) (R' : List Nat) (o : Oper) (d : Nat) (hil : l[i]? = some o) (hchk : chk l.toArray ks R R' i .fl = true) (hg : Region.wanted o (yielded l.toArray a.tmps) = true)
    (hd : o.dst = some d) (hlt : Nat.blt d a.tmps.size = true) (hl : a.defers.length = a.defers.length) (hv : ∀ (K : Act → World → Prop) (w' : World), K ⟨T', a.defers⟩ w' → o.wp P a w' K noExit) (h : St QP P l ks A C Q R' ⟨T', a.defers⟩ w) : St QP P l ks A C Q R a w := by
  have hi : l.toArray[i]? = some o := by simpa using hil
  have ⟨hiR, hr, hR, hk⟩ := chk_spec hchk
  have hput := (runsTo_of_wp (a' := ⟨T', a.defers⟩) hd hlt rfl hl (fun K hK => hv K w hK)).2
  exact .take i o hi hiR hr hR (v := T'.getD d undef) (by rw [hk]; exact fun w' => ⟨o, hi, .inl ⟨hg, (runsTo_of_wp (a' := ⟨T', a.defers⟩) hd hlt rfl hl (fun K hK => hv K w' hK)).1⟩⟩) (by rw [← hput]; exact h)

theorem St.ho2 {R : List Nat} {a : Act} {T' : Array Value} {w : World} (i : Nat) (R' : List Nat) (o : Oper) (d : Nat) (hil : l[i]? = some o) (hchk : chk l.toArray ks R R' i .ho = true) (hg : Region.wanted o (yielded l.toArray a.tmps) = true)
    (hd : o.dst = some d) (hlt : Nat.blt d a.tmps.size = true) (hl : a.defers.length = a.defers.length) (hC : C w) (hv : ∀ (K : Act → World → Prop) (w' : World), C w' → K ⟨T', a.defers⟩ w' → o.wp P a w' K noExit) (h : St QP P l ks A C Q R' ⟨T', a.defers⟩ w) : St QP P l ks A C Q R a w := by
  have hi : l.toArray[i]? = some o := by simpa using hil
  have ⟨hiR, hr, hR, hk⟩ := chk_spec hchk
  have hput := (runsTo_of_wp (a' := ⟨T', a.defers⟩) hd hlt rfl hl (fun K hK => hv K w hC hK)).2
  exact .take i o hi hiR hr hR (v := T'.getD d undef) (by rw [hk]; exact ⟨hC, fun w' hw' => ⟨o, hi, .inl ⟨hg, (runsTo_of_wp (a' := ⟨T', a.defers⟩) hd hlt rfl hl (fun K hK => hv K w' hw' hK)).1⟩⟩⟩) (by rw [← hput]; exact h)

theorem St.rd2 {R : List Nat} {a : Act} {T' : Array Value} {w : World} (i : Nat) (R' : List Nat) (o : Oper) (d : Nat) (hil : l[i]? = some o) (hchk : chk l.toArray ks R R' i .rd = true) (hg : Region.wanted o (yielded l.toArray a.tmps) = true)
    (hd : o.dst = some d) (hlt : Nat.blt d a.tmps.size = true) (hl : a.defers.length = a.defers.length) (hv : ∀ K : Act → World → Prop, K ⟨T', a.defers⟩ w → o.wp P a w K noExit) (h : St QP P l ks A C Q R' ⟨T', a.defers⟩ w) : St QP P l ks A C Q R a w := by
  have hi : l.toArray[i]? = some o := by simpa using hil
  have ⟨hiR, hr, hR, hk⟩ := chk_spec hchk
  have ⟨hrun, hput⟩ := runsTo_of_wp (a' := ⟨T', a.defers⟩) hd hlt rfl hl hv
  exact .take i o hi hiR hr hR (v := T'.getD d undef) (by rw [hk]; exact ⟨o, hi, .inl ⟨hg, hrun⟩⟩) (by rw [← hput]; exact h)

/-- passed over: the guard of a reading operation says no -/
theorem St.skipr {R : List Nat} {a : Act} {w : World} (i : Nat) (R' : List Nat) (o : Oper) (hil : l[i]? = some o) (hchk : chk l.toArray ks R R' i .rd = true)
    (hg : Region.wanted o (yielded l.toArray a.tmps) = false) (h : ∀ K : Act → Prop, (∀ a, St QP P l ks A C Q R' a w → K a) → K (a.put o.dst undef)) : St QP P l ks A C Q R a w := by
  have hi : l.toArray[i]? = some o := by simpa using hil
  have ⟨hiR, hr, hR, hk⟩ := chk_spec hchk
  exact .take i o hi hiR hr hR (by rw [hk]; exact ⟨o, hi, .inr ⟨hg, rfl⟩⟩) (h _ fun _ h => h)
end steps
end plain
end
section
variable {n : Nat} {P : Program} {l : List Oper} {Q' : Exit → Act → World → Prop} {QP : List PanicEntry → World → Prop}
theorem St.doorR {lp id : Nat} {a : Act} {w : World} (C : World → Prop) (ks : List Kd) (A : List Nat) (R : List Nat) (hm : P.follows .mixedOrders = true) (hqq : l.all noDefer = true) (hs : stat l.toArray ks A = true) (hR : List.range l.length = R)
    (hQP : ∀ c a w, a.defers = [] → QP c w → Q' (.panic c) a w) (h : St QP P l ks A C (Q' .normal) R a w.drew) : (Code.region id l.toArray true).wpIn (Fence.wide.inRound lp) n P Q' a w := by
  refine wpIn_mono (Q := onlyP QP (Q' .normal)) ?_ (fun e a w h => h.elim (fun ⟨he, hq⟩ => he ▸ hq) (fun ⟨c, he, hd, hq⟩ => he ▸ hQP c a w hd hq))
  refine wpIn_region_any hm ?_
  subst hR
  have h2 := h List.nodup_range (fun k o e hk _ _ _ => List.mem_range.2 (by have := lt_size hk; simpa using this)) (by simp) (stat_spec hs)
  have := wpAny_of_all (P := P) (C := C) (QP := QP) (stat_spec hs) (Q' .normal) l.length (List.range l.length) (Array.replicate l.length false) a w.drew List.nodup_range (by simp) (by simp) (by simp)
    (fun k hk => by simp at hk; simp [hk]) (by simpa using h2)
  have h3 := any_wide (l := lp) (n := n) (onlyP_lets _ _) (fun o ho => List.all_eq_true.1 hqq o (by simpa using ho)) _ _ _ _ this
  simpa using h3
end
end Go.Ord.OrdP
namespace Go.Ord
open Go
theorem list_wide {lp n : Nat} {P : Program} {ops : Array Oper} {Q : Exit → Act → World → Prop} (hnl : ¬ LetsOut Q) : ∀ (l : List Oper) (a : Act) (w : World), l.all noDefer = true → wpList P ops Q l a w → wpListIn (Fence.wide.inRound lp) n P ops Q l a w
  | [], _, _, _, h => h
  | o :: rest, a, w, hq, h => by
    rw [List.all_cons, Bool.and_eq_true] at hq
    unfold wpList at h
    unfold wpListIn
    split
    · rename_i hw
      rw [if_pos hw] at h
      exact wide_in hq.1 (Oper.wp_mono (fun a w hh => list_wide hnl rest a w hq.2 hh) (h.resolve_right fun hh => hnl hh.2))
    · rename_i hw
      rw [if_neg hw] at h
      exact ⟨fun _ _ => trivial, list_wide hnl rest _ w hq.2 h⟩
theorem plainR {lp n id : Nat} {P : Program} {l : List Oper} {Q' : Exit → Act → World → Prop} {a : Act} {w : World} (hqq : l.all noDefer = true) (h : wpList P l.toArray (only (Q' .normal)) l a w) :
    (Code.region id l.toArray false).wpIn (Fence.wide.inRound lp) n P Q' a w := by
  refine Go.wpIn_mono (Q := only (Q' .normal)) ?_ (fun e a w ⟨he, hq⟩ => he ▸ hq)
  exact wpIn_region_lit (list_wide (only_lets _) l a w hqq h)
end Go.Ord
