/-
  Walks over the reference's states: step, And, Or, Xor, Mux, Any. Conditions: a graph that can be read, references of it.
  The reference's state functions between two steps (RSt), and what a step leaves (TS); no walk. Conditions: none beyond the hypotheses.
  Words of many assignments at once, plainly: what the nodes of a graph are for the words of its inputs, bit by bit. No program in sight. Conditions: none beyond the hypotheses.
  What the reference of chapter 24 makes, plainly, and that it is what the program makes. No program in sight. Conditions: none beyond the hypotheses.
  Walks over the reference's functions of states that make words and references: Each, Lt, Input, Sum. Conditions: a graph that can be read, words of its references.
  Walks over the reference's Not, Check and Input of chapter 23. Conditions: a graph that can be read, words that can be read.
  Walks over the reference's Add, Sub, Neg, Ne, Eq, Le of chapter 23. Conditions: a graph that can be read, words of its references.
  Walks over the reference's Lt and Sum of chapter 23, of a state that may hold an error. Conditions: a graph that can be read, words of its references.
  Walks over the reference's Add, Sub, Le of chapter 23, of a state that may hold an error. Conditions: a graph that can be read, words of its references.
  One row of a product, of the reference of chapter 24: plainly; and what is known of its states between two steps, with another word that is kept. No walk. Conditions: none beyond the hypotheses.
  Walk over the reference's product of chapter 24. Conditions: a graph that can be read, words of its references.
  The reference's quotient of chapter 24, plainly: its steps are right; and what is known of its state between two steps, with other words that are kept and one that is written. No walk. Conditions: none beyond the hypotheses.
  Walk over the reference's quotient and rest of chapter 24. Conditions: a graph that can be read, words of its references.
  What the acts of muldiv are, by the program and by the reference; walk over the laws' program. Conditions: a graph in memory, words of any integers.
-/
import Derived.Test.YtehljgigebhddaaGreatQD
import Derived.Deep.DeepCutAuto
import Derived.Deep.CutBlock
namespace Go.Proofs.YtehljgigebhddaaGreat
open Go.RowKit Go.Mem Go.Aig
/-- what a function of the reference's states leaves: a state, and a reference -/
def STo (w : World) (rb : Nat) (R : Mk × Nat) (e : Ending) (w' : World) : Prop := ∃ rb' cap', e = .returned (.tuple #[.agg #[.int .i64 R.1.1.most, .slice (some ⟨rb', 0, none⟩) R.1.1.nodes.length cap', .int .i64 R.1.2], .int .i64 R.2]) ∧ RG w' rb' cap' R.1.1 ∧ Ch [] w w' ∧ (rb' = rb ∨ w.heap.size ≤ rb')
theorem set3_ch {w W : World} {b : Nat} {u v x : Value} (h : W = ((w.setCell ⟨b, 0, none⟩ u).setCell ⟨b, 1, none⟩ v).setCell ⟨b, 2, none⟩ x) : Ch [b] w W := by rw [h]; exact (((Ch.refl [b] _).setCell (by simp) _).setCell (by simp) _).setCell (by simp) _
section
set_option maxRecDepth 100000 in
set_option maxHeartbeats 2000000 in
theorem r23step_is {w : World} {rb cap q : Nat} {G : Gra} (h : RG w rb cap G) {rb2 cap2 : Nat} {G2 : Gra} (h2 : RG w rb2 cap2 G2) (r e : Nat) :
    Calls Tryz.prog 347 #[.agg #[.int .i64 G.most, .slice (some ⟨rb, 0, none⟩) G.nodes.length cap, .int .i64 q], .agg #[.int .i64 G2.most, .slice (some ⟨rb2, 0, none⟩) G2.nodes.length cap2], .int .i64 r, .int .i64 e] w fun en w' => ∃ rb' cap', en = .returned (.tuple #[.agg #[.int .i64 (rstep (G, q) (G2, r, e)).1.1.most, .slice (some ⟨rb', 0, none⟩) (rstep (G, q) (G2, r, e)).1.1.nodes.length cap', .int .i64 (rstep (G, q) (G2, r, e)).1.2], .int .i64 (rstep (G, q) (G2, r, e)).2]) ∧ RG w' rb' cap' (rstep (G, q) (G2, r, e)).1.1 ∧ Ch [] w w' ∧ (rb' = rb ∨ rb' = rb2) := by
  have HH := Lib.hid h
  have HH2 := Lib.hid h2
  by_cases hq : q = 0
  · subst hq
    by_cases he : e = 0
    · subst he
      rw [rstep_ok (s := (G, 0)) (R := (G2, r, 0)) rfl rfl]
      clear h h2
      go_enter Tryz.func347, Tryz.ntmps347
      go_wp2_with fail
      refine bodyPost_ret (v := .tuple #[.agg #[.int .i64 G2.most, .slice (some ⟨rb2, 0, none⟩) G2.nodes.length cap2, .int .i64 0], .int .i64 r]) (by simp [results, Tryz.results347, go_sem]) rfl ?_
      refine (fun hc : Ch [] w _ => ⟨rb2, cap2, rfl, HH2.out.ch hc (by simp), hc, .inr rfl⟩) ?_
      repeat (first | exact Ch.refl _ _ | refine Ch.alloc ?_ _ | refine Ch.setCell ?_ (.inr (by simp <;> omega)) _)
    · have d : ((e : Int) != 0) = true := by simp [he]
      rw [rstep_no (s := (G, 0)) (R := (G2, r, e)) rfl he]
      clear h h2 he
      go_enter Tryz.func347, Tryz.ntmps347
      go_wp2_with fail
      refine bodyPost_ret (v := .tuple #[.agg #[.int .i64 G.most, .slice (some ⟨rb, 0, none⟩) G.nodes.length cap, .int .i64 e], .int .i64 0]) (by simp [results, Tryz.results347, go_sem]) rfl ?_
      refine (fun hc : Ch [] w _ => ⟨rb, cap, rfl, HH.out.ch hc (by simp), hc, .inl rfl⟩) ?_
      repeat (first | exact Ch.refl _ _ | refine Ch.alloc ?_ _ | refine Ch.setCell ?_ (.inr (by simp <;> omega)) _)
  · have d : ((q : Int) != 0) = true := by simp [hq]
    have d2 : ((q : Int) == 0) = false := by simp [hq]
    rw [rstep_bad (s := (G, q)) hq]
    clear h h2 hq
    go_enter Tryz.func347, Tryz.ntmps347
    go_wp2_with fail
    refine bodyPost_ret (v := .tuple #[.agg #[.int .i64 G.most, .slice (some ⟨rb, 0, none⟩) G.nodes.length cap, .int .i64 q], .int .i64 0]) (by simp [results, Tryz.results347, go_sem]) rfl ?_
    refine (fun hc : Ch [] w _ => ⟨rb, cap, rfl, HH.out.ch hc (by simp), hc, .inl rfl⟩) ?_
    repeat (first | exact Ch.refl _ _ | refine Ch.alloc ?_ _ | refine Ch.setCell ?_ (.inr (by simp <;> omega)) _)
set_option maxRecDepth 100000 in
set_option maxHeartbeats 2000000 in
theorem r23And_is {w : World} {rb cap q : Nat} {G : Gra} (h : RG w rb cap G) {a b : Nat} (ha : a < 2 * G.nodes.length) (hb : b < 2 * G.nodes.length) :
    Calls Tryz.prog 333 #[.agg #[.int .i64 G.most, .slice (some ⟨rb, 0, none⟩) G.nodes.length cap, .int .i64 q], .int .i64 a, .int .i64 b] w (STo w rb (rstep (G, q) (and G a b))) := by
  have hrb := h.lt
  have hA := fun (W : World) (hc : Ch [] w W) => rAnd_is (h.ch hc (by simp)) ha hb
  generalize and G a b = X at *
  obtain ⟨G1, r1, e1⟩ := X
  have HA := Lib.hid hA; clear hA
  have H := Lib.hid h; clear h ha hb
  go_enter Tryz.func333, Tryz.ntmps333
  go_wp2_with fail
  refine calls_named fun W hW => ?_
  have b3 : blk W w.heap.size [.int .i64 G.most, .slice (some ⟨rb, 0, none⟩) G.nodes.length cap, .int .i64 q] := by rw [hW]; exact (blk.new' _ _ (by simp)).alloc _
  have b6 : blk W (w.heap.size + 1) [.int .i64 0, .slice none 0 0, .int .i64 0] := by rw [hW]; exact blk.new' _ _ (by simp)
  have hc : Ch [] w W := by rw [hW]; exact ((Ch.refl _ _).alloc _).alloc _
  clear hW
  refine (HA.out W hc).mono ?_
  rintro e w1 ⟨rb1, cap1, rfl, hrg1, hch1, hfr1⟩
  have hz := b6.lt
  have b3 := b3.ch hch1 (by simp)
  have b6 := b6.ch hch1 (by simp)
  have hz1 := b6.lt
  have hz0 := b3.lt
  have x0 := b3.cell (i := 0) rfl
  have x1 := b3.cell (i := 1) rfl
  have x2 := b3.cell (i := 2) rfl
  have hc1 := hc.trans hch1 (by simp)
  have B6 := Lib.hid b6; clear b6 b3
  have HC1 := Lib.hid hc1; clear hc1
  have HRG1 := Lib.hid hrg1; clear hrg1
  have hne : rb1 ≠ w.heap.size + 1 := by rcases hfr1 with e | e <;> omega
  have hfr2 : rb1 = rb ∨ w.heap.size ≤ rb1 := by have := hc.size; rcases hfr1 with e | e <;> omega
  clear hch1 hc HA hfr1
  go_wp2_with fail
  refine calls_named fun W2 hW2 => ?_
  have hc2 : Ch [] w1 W2 := by rw [hW2]; exact (Ch.refl _ _).alloc _
  clear hW2
  have hS := r23step_is (q := q) (H.out.ch (HC1.out.trans hc2 (by simp)) (by simp)) (HRG1.out.ch hc2 (by simp)) r1 e1
  refine hS.mono ?_
  rintro e w2 ⟨rb', cap', rfl, hrg', hch', hfr'⟩
  generalize rstep (G, q) (G1, r1, e1) = R at *
  have b6 := (B6.out.ch hc2 (by simp)).ch hch' (by simp)
  have z0 := b6.cell (i := 0) rfl
  have z1 := b6.cell (i := 1) rfl
  have z2 := b6.cell (i := 2) rfl
  have f0 := b6.frozen (i := 0)
  have f1 := b6.frozen (i := 1)
  have f2 := b6.frozen (i := 2)
  have HC2 := Lib.hid ((HC1.out.trans hc2 (by simp)).trans hch' (by simp))
  have HRG' := Lib.hid hrg'; clear hrg' hch' hc2 hS b6 B6 HC1 HRG1 x0 x1 x2
  go_wp2_with fail
  have hcc := set3_ch (w := w2) (b := w.heap.size + 1) (u := .int .i64 R.1.1.most) (v := .slice (some ⟨rb', 0, none⟩) R.1.1.nodes.length cap') (x := .int .i64 R.1.2) rfl
  refine bodyPost_ret (v := .tuple #[.agg #[.int .i64 R.1.1.most, .slice (some ⟨rb', 0, none⟩) R.1.1.nodes.length cap', .int .i64 R.1.2], .int .i64 R.2]) (by simp [results, Tryz.results333, go_sem, z0, z1, z2]) rfl ?_
  exact ⟨rb', cap', rfl, HRG'.out.ch hcc (by simp; rcases hfr' with e | e <;> omega), HC2.out.trans hcc (fun k hk => .inr (by simp at hk; omega)), by rcases hfr' with e | e <;> omega⟩
set_option maxRecDepth 100000 in
set_option maxHeartbeats 2000000 in
theorem r23Or_is {w : World} {rb cap q : Nat} {G : Gra} (h : RG w rb cap G) {a b : Nat} (ha : a < 2 * G.nodes.length) (hb : b < 2 * G.nodes.length) :
    Calls Tryz.prog 356 #[.agg #[.int .i64 G.most, .slice (some ⟨rb, 0, none⟩) G.nodes.length cap, .int .i64 q], .int .i64 a, .int .i64 b] w (STo w rb (rstep (G, q) (rOr G a b))) := by
  have hrb := h.lt
  have hA := fun (W : World) (hc : Ch [] w W) => rOr_is (h.ch hc (by simp)) ha hb
  generalize rOr G a b = X at *
  obtain ⟨G1, r1, e1⟩ := X
  have HA := Lib.hid hA; clear hA
  have H := Lib.hid h; clear h ha hb
  go_enter Tryz.func356, Tryz.ntmps356
  go_wp2_with fail
  refine calls_named fun W hW => ?_
  have b3 : blk W w.heap.size [.int .i64 G.most, .slice (some ⟨rb, 0, none⟩) G.nodes.length cap, .int .i64 q] := by rw [hW]; exact (blk.new' _ _ (by simp)).alloc _
  have b6 : blk W (w.heap.size + 1) [.int .i64 0, .slice none 0 0, .int .i64 0] := by rw [hW]; exact blk.new' _ _ (by simp)
  have hc : Ch [] w W := by rw [hW]; exact ((Ch.refl _ _).alloc _).alloc _
  clear hW
  refine (HA.out W hc).mono ?_
  rintro e w1 ⟨rb1, cap1, rfl, hrg1, hch1, hfr1⟩
  have hz := b6.lt
  have b3 := b3.ch hch1 (by simp)
  have b6 := b6.ch hch1 (by simp)
  have hz1 := b6.lt
  have hz0 := b3.lt
  have x0 := b3.cell (i := 0) rfl
  have x1 := b3.cell (i := 1) rfl
  have x2 := b3.cell (i := 2) rfl
  have hc1 := hc.trans hch1 (by simp)
  have B6 := Lib.hid b6; clear b6 b3
  have HC1 := Lib.hid hc1; clear hc1
  have HRG1 := Lib.hid hrg1; clear hrg1
  have hne : rb1 ≠ w.heap.size + 1 := by rcases hfr1 with e | e <;> omega
  have hfr2 : rb1 = rb ∨ w.heap.size ≤ rb1 := by have := hc.size; rcases hfr1 with e | e <;> omega
  clear hch1 hc HA hfr1
  go_wp2_with fail
  refine calls_named fun W2 hW2 => ?_
  have hc2 : Ch [] w1 W2 := by rw [hW2]; exact (Ch.refl _ _).alloc _
  clear hW2
  have hS := r23step_is (q := q) (H.out.ch (HC1.out.trans hc2 (by simp)) (by simp)) (HRG1.out.ch hc2 (by simp)) r1 e1
  refine hS.mono ?_
  rintro e w2 ⟨rb', cap', rfl, hrg', hch', hfr'⟩
  generalize rstep (G, q) (G1, r1, e1) = R at *
  have b6 := (B6.out.ch hc2 (by simp)).ch hch' (by simp)
  have z0 := b6.cell (i := 0) rfl
  have z1 := b6.cell (i := 1) rfl
  have z2 := b6.cell (i := 2) rfl
  have f0 := b6.frozen (i := 0)
  have f1 := b6.frozen (i := 1)
  have f2 := b6.frozen (i := 2)
  have HC2 := Lib.hid ((HC1.out.trans hc2 (by simp)).trans hch' (by simp))
  have HRG' := Lib.hid hrg'; clear hrg' hch' hc2 hS b6 B6 HC1 HRG1 x0 x1 x2
  go_wp2_with fail
  have hcc := set3_ch (w := w2) (b := w.heap.size + 1) (u := .int .i64 R.1.1.most) (v := .slice (some ⟨rb', 0, none⟩) R.1.1.nodes.length cap') (x := .int .i64 R.1.2) rfl
  refine bodyPost_ret (v := .tuple #[.agg #[.int .i64 R.1.1.most, .slice (some ⟨rb', 0, none⟩) R.1.1.nodes.length cap', .int .i64 R.1.2], .int .i64 R.2]) (by simp [results, Tryz.results356, go_sem, z0, z1, z2]) rfl ?_
  exact ⟨rb', cap', rfl, HRG'.out.ch hcc (by simp; rcases hfr' with e | e <;> omega), HC2.out.trans hcc (fun k hk => .inr (by simp at hk; omega)), by rcases hfr' with e | e <;> omega⟩
set_option maxRecDepth 100000 in
set_option maxHeartbeats 2000000 in
theorem r23Xor_is {w : World} {rb cap q : Nat} {G : Gra} (h : RG w rb cap G) {a b : Nat} (ha : a < 2 * G.nodes.length) (hb : b < 2 * G.nodes.length) :
    Calls Tryz.prog 343 #[.agg #[.int .i64 G.most, .slice (some ⟨rb, 0, none⟩) G.nodes.length cap, .int .i64 q], .int .i64 a, .int .i64 b] w (STo w rb (rstep (G, q) (rXor G a b))) := by
  have hrb := h.lt
  have hA := fun (W : World) (hc : Ch [] w W) => rXor_is (h.ch hc (by simp)) ha hb
  generalize rXor G a b = X at *
  obtain ⟨G1, r1, e1⟩ := X
  have HA := Lib.hid hA; clear hA
  have H := Lib.hid h; clear h ha hb
  go_enter Tryz.func343, Tryz.ntmps343
  go_wp2_with fail
  refine calls_named fun W hW => ?_
  have b3 : blk W w.heap.size [.int .i64 G.most, .slice (some ⟨rb, 0, none⟩) G.nodes.length cap, .int .i64 q] := by rw [hW]; exact (blk.new' _ _ (by simp)).alloc _
  have b6 : blk W (w.heap.size + 1) [.int .i64 0, .slice none 0 0, .int .i64 0] := by rw [hW]; exact blk.new' _ _ (by simp)
  have hc : Ch [] w W := by rw [hW]; exact ((Ch.refl _ _).alloc _).alloc _
  clear hW
  refine (HA.out W hc).mono ?_
  rintro e w1 ⟨rb1, cap1, rfl, hrg1, hch1, hfr1⟩
  have hz := b6.lt
  have b3 := b3.ch hch1 (by simp)
  have b6 := b6.ch hch1 (by simp)
  have hz1 := b6.lt
  have hz0 := b3.lt
  have x0 := b3.cell (i := 0) rfl
  have x1 := b3.cell (i := 1) rfl
  have x2 := b3.cell (i := 2) rfl
  have hc1 := hc.trans hch1 (by simp)
  have B6 := Lib.hid b6; clear b6 b3
  have HC1 := Lib.hid hc1; clear hc1
  have HRG1 := Lib.hid hrg1; clear hrg1
  have hne : rb1 ≠ w.heap.size + 1 := by rcases hfr1 with e | e <;> omega
  have hfr2 : rb1 = rb ∨ w.heap.size ≤ rb1 := by have := hc.size; rcases hfr1 with e | e <;> omega
  clear hch1 hc HA hfr1
  go_wp2_with fail
  refine calls_named fun W2 hW2 => ?_
  have hc2 : Ch [] w1 W2 := by rw [hW2]; exact (Ch.refl _ _).alloc _
  clear hW2
  have hS := r23step_is (q := q) (H.out.ch (HC1.out.trans hc2 (by simp)) (by simp)) (HRG1.out.ch hc2 (by simp)) r1 e1
  refine hS.mono ?_
  rintro e w2 ⟨rb', cap', rfl, hrg', hch', hfr'⟩
  generalize rstep (G, q) (G1, r1, e1) = R at *
  have b6 := (B6.out.ch hc2 (by simp)).ch hch' (by simp)
  have z0 := b6.cell (i := 0) rfl
  have z1 := b6.cell (i := 1) rfl
  have z2 := b6.cell (i := 2) rfl
  have f0 := b6.frozen (i := 0)
  have f1 := b6.frozen (i := 1)
  have f2 := b6.frozen (i := 2)
  have HC2 := Lib.hid ((HC1.out.trans hc2 (by simp)).trans hch' (by simp))
  have HRG' := Lib.hid hrg'; clear hrg' hch' hc2 hS b6 B6 HC1 HRG1 x0 x1 x2
  go_wp2_with fail
  have hcc := set3_ch (w := w2) (b := w.heap.size + 1) (u := .int .i64 R.1.1.most) (v := .slice (some ⟨rb', 0, none⟩) R.1.1.nodes.length cap') (x := .int .i64 R.1.2) rfl
  refine bodyPost_ret (v := .tuple #[.agg #[.int .i64 R.1.1.most, .slice (some ⟨rb', 0, none⟩) R.1.1.nodes.length cap', .int .i64 R.1.2], .int .i64 R.2]) (by simp [results, Tryz.results343, go_sem, z0, z1, z2]) rfl ?_
  exact ⟨rb', cap', rfl, HRG'.out.ch hcc (by simp; rcases hfr' with e | e <;> omega), HC2.out.trans hcc (fun k hk => .inr (by simp at hk; omega)), by rcases hfr' with e | e <;> omega⟩
set_option maxRecDepth 100000 in
set_option maxHeartbeats 2000000 in
theorem r23Mux_is {w : World} {rb cap q : Nat} {G : Gra} (h : RG w rb cap G) {c a b : Nat} (hc : c < 2 * G.nodes.length) (ha : a < 2 * G.nodes.length) (hb : b < 2 * G.nodes.length) :
    Calls Tryz.prog 332 #[.agg #[.int .i64 G.most, .slice (some ⟨rb, 0, none⟩) G.nodes.length cap, .int .i64 q], .int .i64 c, .int .i64 a, .int .i64 b] w (STo w rb (rstep (G, q) (rMux G c a b))) := by
  have hrb := h.lt
  have hA := fun (W : World) (h0 : Ch [] w W) => rMux_is (h.ch h0 (by simp)) hc ha hb
  generalize rMux G c a b = X at *
  obtain ⟨G1, r1, e1⟩ := X
  have HA := Lib.hid hA; clear hA
  have H := Lib.hid h; clear h hc ha hb
  go_enter Tryz.func332, Tryz.ntmps332
  go_wp2_with fail
  refine calls_named fun W hW => ?_
  have b3 : blk W w.heap.size [.int .i64 G.most, .slice (some ⟨rb, 0, none⟩) G.nodes.length cap, .int .i64 q] := by rw [hW]; exact (blk.new' _ _ (by simp)).alloc _
  have b6 : blk W (w.heap.size + 1) [.int .i64 0, .slice none 0 0, .int .i64 0] := by rw [hW]; exact blk.new' _ _ (by simp)
  have hc : Ch [] w W := by rw [hW]; exact ((Ch.refl _ _).alloc _).alloc _
  clear hW
  refine (HA.out W hc).mono ?_
  rintro e w1 ⟨rb1, cap1, rfl, hrg1, hch1, hfr1⟩
  have hz := b6.lt
  have b3 := b3.ch hch1 (by simp)
  have b6 := b6.ch hch1 (by simp)
  have hz1 := b6.lt
  have hz0 := b3.lt
  have x0 := b3.cell (i := 0) rfl
  have x1 := b3.cell (i := 1) rfl
  have x2 := b3.cell (i := 2) rfl
  have hc1 := hc.trans hch1 (by simp)
  have B6 := Lib.hid b6; clear b6 b3
  have HC1 := Lib.hid hc1; clear hc1
  have HRG1 := Lib.hid hrg1; clear hrg1
  have hne : rb1 ≠ w.heap.size + 1 := by rcases hfr1 with e | e <;> omega
  have hfr2 : rb1 = rb ∨ w.heap.size ≤ rb1 := by have := hc.size; rcases hfr1 with e | e <;> omega
  clear hch1 hc HA hfr1
  go_wp2_with fail
  refine calls_named fun W2 hW2 => ?_
  have hc2 : Ch [] w1 W2 := by rw [hW2]; exact (Ch.refl _ _).alloc _
  clear hW2
  have hS := r23step_is (q := q) (H.out.ch (HC1.out.trans hc2 (by simp)) (by simp)) (HRG1.out.ch hc2 (by simp)) r1 e1
  refine hS.mono ?_
  rintro e w2 ⟨rb', cap', rfl, hrg', hch', hfr'⟩
  generalize rstep (G, q) (G1, r1, e1) = R at *
  have b6 := (B6.out.ch hc2 (by simp)).ch hch' (by simp)
  have z0 := b6.cell (i := 0) rfl
  have z1 := b6.cell (i := 1) rfl
  have z2 := b6.cell (i := 2) rfl
  have f0 := b6.frozen (i := 0)
  have f1 := b6.frozen (i := 1)
  have f2 := b6.frozen (i := 2)
  have HC2 := Lib.hid ((HC1.out.trans hc2 (by simp)).trans hch' (by simp))
  have HRG' := Lib.hid hrg'; clear hrg' hch' hc2 hS b6 B6 HC1 HRG1 x0 x1 x2
  go_wp2_with fail
  have hcc := set3_ch (w := w2) (b := w.heap.size + 1) (u := .int .i64 R.1.1.most) (v := .slice (some ⟨rb', 0, none⟩) R.1.1.nodes.length cap') (x := .int .i64 R.1.2) rfl
  refine bodyPost_ret (v := .tuple #[.agg #[.int .i64 R.1.1.most, .slice (some ⟨rb', 0, none⟩) R.1.1.nodes.length cap', .int .i64 R.1.2], .int .i64 R.2]) (by simp [results, Tryz.results332, go_sem, z0, z1, z2]) rfl ?_
  exact ⟨rb', cap', rfl, HRG'.out.ch hcc (by simp; rcases hfr' with e | e <;> omega), HC2.out.trans hcc (fun k hk => .inr (by simp at hk; omega)), by rcases hfr' with e | e <;> omega⟩
end
end Go.Proofs.YtehljgigebhddaaGreat
namespace Go.Aig
theorem eachF_sok' {G : Gra} {s : Mk} (hs : SOk G s) {f : Gra → Nat → Nat → Res} (hf : Full2 f) (l : List (Nat × Nat)) (hl : ∀ p ∈ l, p.1 < 2 * s.1.nodes.length ∧ p.2 < 2 * s.1.nodes.length) : LOk s.1 (eachF (rop f) s l) := by
  have : ∀ (l : List (Nat × Nat)) (q : Mk × List Nat), LOk s.1 q → (∀ p ∈ l, p.1 < 2 * s.1.nodes.length ∧ p.2 < 2 * s.1.nodes.length) → LOk s.1 (l.foldl (eachS (rop f)) q) := by
    intro l
    induction l with
    | nil => intro q h _; exact h
    | cons p l ih =>
      intro q h hl
      obtain ⟨h1, h2⟩ := hl p (List.mem_cons_self ..)
      obtain ⟨k1, k2, k3⟩ := rstep_sok h.s (Y := f q.1.1 p.1 p.2) (fun _ => hf q.1.1 h.s.ok p.1 p.2 (h.s.ext.lt h1) (h.s.ext.lt h2))
      exact ih _ (LOk.snoc h k1 k3 k2) (fun p hp => hl p (List.mem_cons_of_mem _ hp))
  exact this l _ ⟨⟨hs.ok, .refl _, hs.err⟩, by simp⟩ hl
theorem eachF_len' (op : Mk → Nat → Nat → Mk × Nat) (s : Mk) (l : List (Nat × Nat)) : (eachF op s l).2.length = l.length := by
  have : ∀ (l : List (Nat × Nat)) (q : Mk × List Nat), (l.foldl (eachS op) q).2.length = q.2.length + l.length := by
    intro l
    induction l with
    | nil => intro q; rfl
    | cons p l ih => intro q; rw [List.foldl_cons, ih]; simp [eachS]; omega
  have h := this l (s, [])
  rw [List.length_nil, Nat.zero_add] at h
  exact h
end Go.Aig
namespace Go.Proofs.YtehljgigebhddaaGreat
open Go.RowKit Go.Mem Go.Aig
theorem natInts_snoc' (l : List Nat) (r : Nat) : intCells (natInts (l ++ [r])) = intCells (natInts l) ++ [.int .i64 r] := by simp [intCells, natInts]
theorem sl_lt' {w : World} {a : Option Addr} {l : List Int} (h : Sl w a l) (h0 : 0 < l.length) : ∀ p, a = some p → p.block < w.heap.size := fun p hp => by
  obtain ⟨b, o, e, hc⟩ := h.cells 0 _ (List.getElem?_eq_getElem h0)
  rw [hp] at e; cases e
  exact cell_lt hc
theorem set3_blk {w W : World} {b : Nat} {c0 c1 c2 u v x : Value} (h : blk w b [c0, c1, c2]) (hW : W = ((w.setCell ⟨b, 0, none⟩ u).setCell ⟨b, 1, none⟩ v).setCell ⟨b, 2, none⟩ x) : blk W b [u, v, x] := by
  rw [hW]; exact ((h.set (i := 0) _).set (i := 1) _).set (i := 2) _
/-- a function of the reference's states between two steps: its state lies in the block of its parameter; the word that it makes -/
structure RSt (w W : World) (rb0 rb cap : Nat) (s : Mk) (v : Value) (l : List Nat) : Prop where
  ch : Ch [] w W
  rg : RG W rb cap s.1
  fr : rb = rb0 ∨ w.heap.size + 2 ≤ rb
  b4 : blk W w.heap.size [.int .i64 s.1.most, .slice (some ⟨rb, 0, none⟩) s.1.nodes.length cap, .int .i64 s.2]
  b8 : blk W (w.heap.size + 1) [.int .i64 0, .slice none 0 0, .int .i64 0]
  rw : row W 3 1 v l.length (intCells (natInts l))
  own : ∀ q, v.ownBlock = some q → w.heap.size + 2 ≤ q ∧ q ≠ rb
  low : rb0 < w.heap.size
theorem RSt.start {w W : World} {rb cap : Nat} {G : Gra} {q : Nat} (h : RG w rb cap G) {o : Obj} (hW : W = (w.alloc o).alloc (.cells #[.int .i64 0, .slice none 0 0, .int .i64 0] 214)) (ho : o = .cells #[.int .i64 G.most, .slice (some ⟨rb, 0, none⟩) G.nodes.length cap, .int .i64 q] 214) : RSt w W rb rb cap (G, q) (.slice none 0 0) [] := by
  subst ho
  have hc : Ch [] w W := by rw [hW]; exact ((Ch.refl _ _).alloc _).alloc _
  refine ⟨hc, h.ch hc (by simp), .inl rfl, by rw [hW]; exact (blk.new' _ _ rfl).alloc _, by rw [hW]; exact blk.new' _ _ (by simp), ⟨rfl, .inl ⟨rfl, rfl⟩⟩, by simp [Value.ownBlock], h.lt⟩
section
variable {w W W' : World} {rb0 rb cap : Nat} {s : Mk} {v : Value} {l : List Nat}
theorem RSt.same (h : RSt w W rb0 rb cap s v l) (hc : Ch [] W W') : RSt w W' rb0 rb cap s v l :=
  ⟨h.ch.trans hc (by simp), h.rg.ch hc (by simp), h.fr, h.b4.ch hc (by simp), h.b8.ch hc (by simp), h.rw.ch hc (by simp), h.own, h.low⟩
theorem RSt.lt (h : RSt w W rb0 rb cap s v l) : w.heap.size + 2 ≤ W.heap.size := h.b8.lt
theorem RSt.put {Wb : World} {rb' cap' q' : Nat} {G' : Gra} (h : RSt w Wb rb0 rb cap s v l) (hc : Ch [] Wb W) (hr : RG W rb' cap' G') (hf : rb' = rb ∨ Wb.heap.size ≤ rb')
    (hW : W' = ((W.setCell ⟨w.heap.size, 0, none⟩ (.int .i64 G'.most)).setCell ⟨w.heap.size, 1, none⟩ (.slice (some ⟨rb', 0, none⟩) G'.nodes.length cap')).setCell ⟨w.heap.size, 2, none⟩ (.int .i64 q')) : RSt w W' rb0 rb' cap' (G', q') v l := by
  have hcs := set3_ch hW
  have hlo := h.lt
  have hfr := h.fr
  have hl0 := h.low
  refine ⟨(h.ch.trans hc (by simp)).trans hcs (fun k hk => .inr (by simp at hk; omega)), hr.ch hcs (by simp; rcases hf with e | e <;> omega), by rcases hf with e | e <;> omega, set3_blk (h.b4.ch hc (by simp)) hW, (h.b8.ch hc (by simp)).ch hcs (by simp), (h.rw.ch hc (by simp)).ch hcs (fun k hk => by have := (h.own k hk).1; simp; omega), fun q hq => ⟨(h.own q hq).1, ?_⟩, hl0⟩
  have h1 := (h.own q hq).2
  have h2 := (h.rw.lt q hq).2
  rcases hf with e | e <;> omega
theorem RSt.app {na : Option Addr} {nc r : Nat} {o : Obj} {wz : World} {v' : Value} (h : RSt w W rb0 rb cap s (.slice na l.length nc) l) (hrow : row wz 3 1 v' (l.length + 1) (intCells (natInts l) ++ [.int .i64 r]))
    (hc : Ch (Value.slice na l.length nc).ownBlock.toList (W.alloc o) wz) (hf : ∀ k, v'.ownBlock = some k → (Value.slice na l.length nc).ownBlock = some k ∨ (W.alloc o).heap.size ≤ k) : RSt w wz rb0 rb cap s v' (l ++ [r]) := by
  have hcA : Ch [] W (W.alloc o) := (Ch.refl _ _).alloc _
  have hA := h.same hcA
  have hlo := h.lt
  have hown : ∀ k ∈ (Value.slice na l.length nc).ownBlock.toList, w.heap.size + 2 ≤ k ∧ k ≠ rb := fun k hk => h.own k (by simpa using hk)
  have hz := hcA.size
  have hzz := hc.size
  have hrl := h.rg.lt
  refine ⟨hA.ch.trans hc (fun k hk => .inr (by have := hown k hk; omega)), hA.rg.ch hc (fun hk => (hown _ hk).2 rfl), h.fr, hA.b4.ch hc (fun hk => by have := hown _ hk; omega), hA.b8.ch hc (fun hk => by have := hown _ hk; omega), ?_, fun q hq => ?_, h.low⟩
  · rw [natInts_snoc', List.length_append]; exact hrow
  · rcases hf q hq with e | e
    · exact h.own q e
    · exact ⟨by omega, by omega⟩
end
/-- what a call and a store behind it leave: a state in a block of its own, and a reference -/
def TS (wr wd : World) (rbk : Nat) (R : Mk × Nat) (p q : Value) : Prop := ∃ rb' cap' b9, p = .pointer (some ⟨b9, 0, none⟩) ∧ q = .int .i64 R.2 ∧ Ch [] wr wd ∧ RG wd rb' cap' R.1.1 ∧ (rb' = rbk ∨ wr.heap.size ≤ rb') ∧
  blk wd b9 [.int .i64 R.1.1.most, .slice (some ⟨rb', 0, none⟩) R.1.1.nodes.length cap', .int .i64 R.1.2] ∧ wr.heap.size ≤ b9
theorem TS.mk {wr W W8 : World} {rbk : Nat} {R : Mk × Nat} {rb' cap' b9 : Nat} {c0 c1 c2 : Value} (hc : Ch [] wr W) (hr : RG W rb' cap' R.1.1) (hf : rb' = rbk ∨ wr.heap.size ≤ rb') (hb : blk W b9 [c0, c1, c2]) (hlo : wr.heap.size ≤ b9) (hne : rb' ≠ b9)
    (hW : W8 = ((W.setCell ⟨b9, 0, none⟩ (.int .i64 R.1.1.most)).setCell ⟨b9, 1, none⟩ (.slice (some ⟨rb', 0, none⟩) R.1.1.nodes.length cap')).setCell ⟨b9, 2, none⟩ (.int .i64 R.1.2)) :
    TS wr W8 rbk R (.pointer (some ⟨b9, 0, none⟩)) (.int .i64 R.2) := by
  have hcs := set3_ch hW
  exact ⟨rb', cap', b9, rfl, rfl, hc.trans hcs (fun k hk => .inr (by simp at hk; omega)), hr.ch hcs (by simpa using hne), hf, set3_blk hb hW, hlo⟩
theorem TS.new {wr w7 W8 : World} {rbk : Nat} {R : Mk × Nat} {rb' cap' : Nat} (hc : Ch [] wr w7) (hr : RG w7 rb' cap' R.1.1) (hf : rb' = rbk ∨ wr.heap.size ≤ rb')
    (hW : W8 = w7.alloc (.cells #[.int .i64 R.1.1.most, .slice (some ⟨rb', 0, none⟩) R.1.1.nodes.length cap', .int .i64 R.1.2] 214)) :
    TS wr W8 rbk R (.pointer (some ⟨w7.heap.size, 0, none⟩)) (.int .i64 R.2) := by
  have hcA : Ch [] w7 W8 := by rw [hW]; exact (Ch.refl _ _).alloc _
  exact ⟨rb', cap', _, rfl, rfl, hc.trans hcA (by simp), hr.ch hcA (by simp), hf, by rw [hW]; exact blk.new' _ _ rfl, hc.size⟩
/-- what a function of the reference's states leaves: a state, and a word of its own -/
def LTo (w : World) (rb : Nat) (R : Mk × List Nat) (e : Ending) (w' : World) : Prop := ∃ rb' cap' a c, e = .returned (.tuple #[.agg #[.int .i64 R.1.1.most, .slice (some ⟨rb', 0, none⟩) R.1.1.nodes.length cap', .int .i64 R.1.2], .slice a R.2.length c]) ∧ RG w' rb' cap' R.1.1 ∧ Ch [] w w' ∧ (rb' = rb ∨ w.heap.size ≤ rb') ∧ row w' 3 1 (.slice a R.2.length c) R.2.length (intCells (natInts R.2)) ∧ ∀ q, (Value.slice a R.2.length c).ownBlock = some q → w.heap.size ≤ q ∧ q ≠ rb'
section
variable {w W W' : World} {rb0 rb cap : Nat} {s : Mk} {v : Value} {l : List Nat}
theorem RSt.fin {na : Option Addr} {nc : Nat} (h : RSt w W rb0 rb cap s (.slice na l.length nc) l) (hW : W' = ((W.setCell ⟨w.heap.size + 1, 0, none⟩ (.int .i64 s.1.most)).setCell ⟨w.heap.size + 1, 1, none⟩ (.slice (some ⟨rb, 0, none⟩) s.1.nodes.length cap)).setCell ⟨w.heap.size + 1, 2, none⟩ (.int .i64 s.2)) :
    LTo w rb0 (s, l) (.returned (.tuple #[.agg #[.int .i64 s.1.most, .slice (some ⟨rb, 0, none⟩) s.1.nodes.length cap, .int .i64 s.2], .slice na l.length nc])) W' := by
  have hcs := set3_ch hW
  have hfr := h.fr
  have hl0 := h.low
  exact ⟨rb, cap, na, nc, rfl, h.rg.ch hcs (by simp; omega), h.ch.trans hcs (fun k hk => .inr (by simp at hk; omega)), by omega, h.rw.ch hcs (fun k hk => by have := (h.own k hk).1; simp; omega), fun q hq => ⟨by have := (h.own q hq).1; omega, (h.own q hq).2⟩⟩
theorem RSt.finS (h : RSt w W rb0 rb cap s v l) {r : Nat} (hW : W' = ((W.setCell ⟨w.heap.size + 1, 0, none⟩ (.int .i64 s.1.most)).setCell ⟨w.heap.size + 1, 1, none⟩ (.slice (some ⟨rb, 0, none⟩) s.1.nodes.length cap)).setCell ⟨w.heap.size + 1, 2, none⟩ (.int .i64 s.2)) :
    STo w rb0 (s, r) (.returned (.tuple #[.agg #[.int .i64 s.1.most, .slice (some ⟨rb, 0, none⟩) s.1.nodes.length cap, .int .i64 s.2], .int .i64 r])) W' := by
  have hcs := set3_ch hW
  have hfr := h.fr
  have hl0 := h.low
  exact ⟨rb, cap, rfl, h.rg.ch hcs (by simp; omega), h.ch.trans hcs (fun k hk => .inr (by simp at hk; omega)), by omega⟩
end
end Go.Proofs.YtehljgigebhddaaGreat
namespace Go.Aig
theorem List.snocRec {α : Type} {motive : List α → Prop} (nil : motive []) (snoc : ∀ l x, motive l → motive (l ++ [x])) (l : List α) : motive l := by
  have : ∀ n (l : List α), l.length = n → motive l := by
    intro n
    induction n with
    | zero => intro l hl; rw [List.eq_nil_of_length_eq_zero hl]; exact nil
    | succ n ih =>
      intro l hl
      have hne : l ≠ [] := by intro e; rw [e] at hl; simp at hl
      rw [← List.dropLast_concat_getLast hne]
      exact snoc _ _ (ih _ (by rw [List.length_dropLast]; omega))
  exact this l.length l rfl
/-- the word of a reference, over the words of the nodes; M has all bits -/
def wref (M : Nat) (vs : List Nat) (r : Nat) : Nat := if r % 2 = 1 then M ^^^ vs.getD (r / 2) 0 else vs.getD (r / 2) 0
def wvStep (M : Nat) (s : List Nat × List Nat) (x : Nd) : List Nat × List Nat :=
  if x.k = 3 then (s.1 ++ [wref M s.1 x.l &&& wref M s.1 x.r], s.2) else if x.k = 2 then (s.1 ++ [s.2.headD 0], s.2.tail) else (s.1 ++ [0], s.2)
/-- the words of the nodes, and those of the inputs that are left -/
def wvF (M : Nat) (ins : List Nat) (ns : List Nd) : List Nat × List Nat := ns.foldl (wvStep M) ([], ins)
theorem wvF_snoc (M : Nat) (ins : List Nat) (ns : List Nd) (x : Nd) : wvF M ins (ns ++ [x]) = wvStep M (wvF M ins ns) x := by unfold wvF; rw [List.foldl_append]; rfl
theorem wvF_len (M : Nat) (ins : List Nat) (ns : List Nd) : (wvF M ins ns).1.length = ns.length := by
  induction ns using List.snocRec with
  | nil => rfl
  | snoc ns x ih =>
    rw [wvF_snoc]
    unfold wvStep
    (repeat' split) <;> simp [ih]
theorem wref_ext {M : Nat} {vs more : List Nat} {r : Nat} (h : r < 2 * vs.length) : wref M (vs ++ more) r = wref M vs r := by
  unfold wref
  rw [List.getD_eq_getElem?_getD, List.getD_eq_getElem?_getD, List.getElem?_append_left (by omega)]
theorem wref_bit {N k : Nat} (hk : k < N) (vs : List Nat) (r : Nat) : (wref (2 ^ N - 1) vs r).testBit k = rv (vs.map fun v => v.testBit k) r := by
  have hg : (vs.map fun v => v.testBit k).getD (r / 2) false = (vs.getD (r / 2) 0).testBit k := by
    rw [List.getD_eq_getElem?_getD, List.getD_eq_getElem?_getD, List.getElem?_map]
    cases vs[r / 2]? <;> simp
  unfold wref rv
  rw [hg]
  split
  · rename_i h
    rw [Nat.testBit_xor, Nat.testBit_two_pow_sub_one, decide_eq_true hk, decide_eq_true h, Bool.xor_comm]
  · rename_i h
    rw [decide_eq_false h, Bool.xor_false]
/-- bit by bit, the words are what the nodes are for one assignment -/
theorem wvF_bits {N k : Nat} (hk : k < N) (ins : List Nat) (ns : List Nd) :
    (wvF (2 ^ N - 1) ins ns).1.map (fun v => v.testBit k) = (nv (fun i => (ins.getD i 0).testBit k) ns).1 ∧ (wvF (2 ^ N - 1) ins ns).2 = ins.drop (nv (fun i => (ins.getD i 0).testBit k) ns).2 := by
  induction ns using List.snocRec with
  | nil => exact ⟨rfl, rfl⟩
  | snoc ns x ih =>
    obtain ⟨h1, h2⟩ := ih
    rw [wvF_snoc, nv_snoc]
    unfold wvStep nvStep
    split
    · refine ⟨?_, h2⟩
      simp only [List.map_append, List.map_cons, List.map_nil, h1, Nat.testBit_and, wref_bit hk]
    · split
      · refine ⟨?_, ?_⟩
        · simp only [List.map_append, List.map_cons, List.map_nil, h1, h2]
          congr 2
          rw [List.headD_eq_head?_getD, List.head?_drop, List.getD_eq_getElem?_getD]
        · simp only [h2, List.tail_drop]
      · refine ⟨?_, h2⟩
        simp only [List.map_append, List.map_cons, List.map_nil, h1, Nat.zero_testBit]
theorem wv_bv {N k : Nat} (hk : k < N) (ins : List Nat) (ns : List Nd) (r : Nat) : (wref (2 ^ N - 1) (wvF (2 ^ N - 1) ins ns).1 r).testBit k = bv (fun i => (ins.getD i 0).testBit k) ns r := by
  rw [wref_bit hk, (wvF_bits hk ins ns).1]
  rfl
theorem wref_lt {N : Nat} {vs : List Nat} (h : ∀ v ∈ vs, v < 2 ^ N) (r : Nat) : wref (2 ^ N - 1) vs r < 2 ^ N := by
  have hp : 0 < 2 ^ N := Nat.two_pow_pos N
  have hg : vs.getD (r / 2) 0 < 2 ^ N := by
    rw [List.getD_eq_getElem?_getD]
    cases hq : vs[r / 2]? with
    | none => exact hp
    | some v => exact h v (List.mem_of_getElem? hq)
  unfold wref
  split
  · exact Nat.xor_lt_two_pow (by omega) hg
  · exact hg
theorem wvF_lt {N : Nat} {ins : List Nat} (hi : ∀ v ∈ ins, v < 2 ^ N) (ns : List Nd) : (∀ v ∈ (wvF (2 ^ N - 1) ins ns).1, v < 2 ^ N) ∧ ∀ v ∈ (wvF (2 ^ N - 1) ins ns).2, v < 2 ^ N := by
  have hp : 0 < 2 ^ N := Nat.two_pow_pos N
  induction ns using List.snocRec with
  | nil => exact ⟨by simp [wvF], hi⟩
  | snoc ns x ih =>
    obtain ⟨h1, h2⟩ := ih
    rw [wvF_snoc]
    unfold wvStep
    split
    · refine ⟨fun v hv => ?_, h2⟩
      rcases List.mem_append.1 hv with hv | hv
      · exact h1 v hv
      · rw [List.mem_singleton.1 hv]
        exact Nat.and_lt_two_pow _ (wref_lt h1 _)
    · split
      · refine ⟨fun v hv => ?_, fun v hv => h2 v (List.mem_of_mem_tail hv)⟩
        rcases List.mem_append.1 hv with hv | hv
        · exact h1 v hv
        · rw [List.mem_singleton.1 hv]
          cases hq : (wvF (2 ^ N - 1) ins ns).2 with
          | nil => exact hp
          | cons a l => exact h2 a (by rw [hq]; exact List.mem_cons_self ..)
      · refine ⟨fun v hv => ?_, h2⟩
        rcases List.mem_append.1 hv with hv | hv
        · exact h1 v hv
        · rw [List.mem_singleton.1 hv]; exact hp
/-- how many inputs there are -/
theorem nv_count (env : Nat → Bool) (ns : List Nd) : (nv env ns).2 = (inputs ns).length := by
  have : ∀ (ns : List Nd) (n : Nat), (inputsFrom ns n).length = (ns.filter fun x => x.k == 2).length := by
    intro ns
    induction ns with
    | nil => intro n; rfl
    | cons x ns ih =>
      intro n
      unfold inputsFrom
      split
      · rename_i h; simp [h, ih]
      · rename_i h; simp [h, ih]
  unfold inputs
  rw [this]
  induction ns using List.snocRec with
  | nil => rfl
  | snoc ns x ih =>
    rw [nv_snoc, List.filter_append, List.length_append, ← ih]
    unfold nvStep
    split
    · rename_i h; simp [h]
    · split
      · rename_i h; simp [h]
      · rename_i h; simp [h]
end Go.Aig
namespace Go.Aig
/-- the same, or the same error -/
def SameE {A : Type} (a b : Mk × A) : Prop := a.1.2 = b.1.2 ∧ (a.1.2 = 0 → a = b)
theorem SameE.refl {A : Type} (a : Mk × A) : SameE a a := ⟨rfl, fun _ => rfl⟩
theorem sumF_keep (n : Nat) {s : Mk} (h : s.2 ≠ 0) (l : List (Nat × Nat)) (c : Nat) : (sumW n s l c).1 = s := by
  unfold sumW sumF
  have : ∀ (l : List (Nat × Nat)) (q : Mk × List Nat × Nat), q.1 = s → (l.foldl (sumS n) q).1 = s := by
    intro l
    induction l with
    | nil => intro q h; exact h
    | cons p l ih =>
      intro q hq
      refine ih _ ?_
      unfold sumS
      have e1 : (sXor q.1 p.1 p.2).1 = s := by unfold sXor; rw [hq, rstep_bad h]
      have e2 : (sXor (sXor q.1 p.1 p.2).1 (sXor q.1 p.1 p.2).2 q.2.2).1 = s := by unfold sXor at e1 ⊢; rw [e1, rstep_bad h]
      simp only
      split
      · have e3 : ∀ a b, sAnd s a b = (s, 0) := fun a b => by unfold sAnd; rw [rstep_bad h]
        have e4 : ∀ a b, sOr s a b = (s, 0) := fun a b => by unfold sOr; rw [rstep_bad h]
        rw [e2]
        simp only [e3, e4]
      · exact e2
  exact this l _ rfl
theorem ltF_keep {s : Mk} (h : s.2 ≠ 0) (l : List (Nat × Nat)) : (ltF s l).1 = s := by
  unfold ltF
  have : ∀ (l : List (Nat × Nat)) (q : Mk × Nat), q.1 = s → (l.foldl ltS q).1 = s := by
    intro l
    induction l with
    | nil => intro q h; exact h
    | cons p l ih =>
      intro q hq
      refine ih _ ?_
      have e1 : ∀ a b, sXor s a b = (s, 0) := fun a b => by unfold sXor; rw [rstep_bad h]
      have e2 : ∀ a b c, sMux s a b c = (s, 0) := fun a b c => by unfold sMux; rw [rstep_bad h]
      unfold ltS
      rw [hq]
      simp only [e1, e2]
  exact this l _ rfl
/-- one more bit of the second word, of the reference -/
def rmS (x : List Nat) (q : Mk × List Nat) (p : Nat × Nat) : Mk × List Nat :=
  let A := andsF q.1 p.1 (x.take (x.length - p.2))
  if p.2 = 0 then (A.1, List.replicate p.2 0 ++ A.2) else sumW x.length A.1 (q.2.zip (List.replicate p.2 0 ++ A.2)) 0
def rmF (x : List Nat) (s : Mk) (y : List Nat) : Mk × List Nat := y.zipIdx.foldl (rmS x) (s, [])
theorem rmF_snoc (x : List Nat) (s : Mk) (y : List Nat) (b : Nat) : rmF x s (y ++ [b]) = rmS x (rmF x s y) (b, y.length) := by
  unfold rmF
  rw [List.zipIdx_append, List.foldl_append]
  simp
theorem rmS_len {x : List Nat} {q : Mk × List Nat} {p : Nat × Nat} (hp : p.2 ≤ x.length) (hq : p.2 ≠ 0 → q.2.length = x.length) : (rmS x q p).2.length = x.length := by
  unfold rmS
  simp only
  split
  · simp only [List.length_append, List.length_replicate, andsF_len, List.length_take]
    omega
  · rename_i h
    unfold sumW
    rw [Go.Proofs.YtehljgigebhddaaGreat.sumF_len, List.length_zip]
    simp only [List.length_append, List.length_replicate, andsF_len, List.length_take]
    have := hq h
    omega
theorem rmF_len {x : List Nat} (s : Mk) : ∀ y : List Nat, 1 ≤ y.length → y.length ≤ x.length → (rmF x s y).2.length = x.length := by
  intro y
  induction y using List.snocRec with
  | nil => intro h; simp at h
  | snoc y b ih =>
    intro _ h
    rw [List.length_append] at h
    simp at h
    rw [rmF_snoc]
    exact rmS_len (by show y.length ≤ x.length; omega) (fun h0 => ih (by simp only at h0; omega) (by omega))
theorem rm_same (x : List Nat) {s : Mk} : ∀ y : List Nat, y.length ≤ x.length → SameE (prodF x s y) (rmF x s y) := by
  intro y
  induction y using List.snocRec with
  | nil => intro _; exact .refl _
  | snoc y b ih =>
    intro hy
    rw [List.length_append] at hy
    simp at hy
    have ih := ih (by omega)
    have hl : y.length ≠ 0 → (rmF x s y).2.length = x.length := fun h => rmF_len s y (by omega) (by omega)
    rw [prodF_snoc, rmF_snoc]
    generalize prodF x s y = a at *
    generalize rmF x s y = c at *
    by_cases h0 : a.1.2 = 0
    · have e := ih.2 h0
      subst e
      unfold prodS rmS
      simp only
      split
      · exact .refl _
      · rename_i hk
        generalize andsF a.1 b (x.take (x.length - y.length)) = A at *
        by_cases hA : A.1.2 = 0
        · have hA1 : A.1 = (A.1.1, 0) := by rw [← hA]
          rw [wstep]
          rw [if_neg (by simp [hA])]
          unfold addR
          rw [hl hk, ← hA1]
          generalize sumW x.length A.1 (a.2.zip (List.replicate y.length 0 ++ A.2)) 0 = S
          obtain ⟨⟨sg, se⟩, sl⟩ := S
          unfold wres
          by_cases hS : se = 0
          · subst hS
            exact .refl _
          · rw [if_pos hS, if_pos hS]
            exact ⟨rfl, fun h => absurd h hS⟩
        · rw [wstep_bad hA]
          refine ⟨?_, fun h => absurd h hA⟩
          show A.1.2 = _
          rw [sumF_keep _ hA]
    · have hc : c.1.2 ≠ 0 := by rw [← ih.1]; exact h0
      have e1 := prodS_bad x a (b, y.length) h0
      have e2 : (rmS x c (b, y.length)).1 = c.1 := by
        unfold rmS
        simp only
        split
        · exact andsF_keep hc _ _
        · rw [sumF_keep _ (by rw [andsF_keep hc]; exact hc), andsF_keep hc]
      refine ⟨by rw [e1, e2]; exact ih.1, fun h => ?_⟩
      rw [e1] at h
      exact absurd h h0
/-- one more bit of the quotient, of the reference -/
def rdL (d : List Nat) (q : Mk × List Nat × List Nat) (b : Nat) : Mk × Nat := ((ltF q.1 ((b :: q.2.2.dropLast).zip d)).1, neg (ltF q.1 ((b :: q.2.2.dropLast).zip d)).2)
def rdD (d : List Nat) (q : Mk × List Nat × List Nat) (b : Nat) : Mk × List Nat := sumW (b :: q.2.2.dropLast).length (rdL d q b).1 ((b :: q.2.2.dropLast).zip (d.map neg)) 1
def rdM (d : List Nat) (q : Mk × List Nat × List Nat) (b : Nat) : Mk × List Nat := chF (rdL d q b).2 (rdD d q b).1 ((rdD d q b).2.zip (b :: q.2.2.dropLast))
def rdS (d : List Nat) (q : Mk × List Nat × List Nat) (b : Nat) : Mk × List Nat × List Nat := ((rdM d q b).1, q.2.1 ++ [(rdL d q b).2], (rdM d q b).2)
def rdF (d : List Nat) (s : Mk) (l : List Nat) : Mk × List Nat × List Nat := l.foldl (rdS d) (s, [], List.replicate d.length 0)
theorem rdF_snoc (d : List Nat) (s : Mk) (l : List Nat) (b : Nat) : rdF d s (l ++ [b]) = rdS d (rdF d s l) b := by unfold rdF; rw [List.foldl_append]; rfl
theorem rdS_keep (d : List Nat) (q : Mk × List Nat × List Nat) (b : Nat) (h : q.1.2 ≠ 0) : (rdS d q b).1 = q.1 := by
  have h1 : (rdL d q b).1 = q.1 := ltF_keep h _
  have h2 : (rdD d q b).1 = q.1 := by unfold rdD; rw [h1, sumF_keep _ h]
  show (rdM d q b).1 = q.1
  unfold rdM
  rw [h2, chF_keep _ h]
theorem rd_same (d : List Nat) {s : Mk} : ∀ l : List Nat, SameE (divF d s l) (rdF d s l) := by
  intro l
  induction l using List.snocRec with
  | nil => exact .refl _
  | snoc l b ih =>
    rw [divF_snoc, rdF_snoc]
    generalize divF d s l = a at *
    generalize rdF d s l = c at *
    by_cases h0 : a.1.2 = 0
    · have e := ih.2 h0
      subst e
      have ha : a.1 = (a.1.1, 0) := by rw [← h0]
      have hL : divL d a b = (if (rdL d a b).1.2 = 0 then rdL d a b else (((a.1.1, (rdL d a b).1.2)), 0)) := by
        unfold divL leR rdL rstep
        rw [if_neg (by simp [h0]), ← ha]
        generalize ltF a.1 ((b :: a.2.2.dropLast).zip d) = R
        unfold rres negG
        by_cases hR : R.1.2 = 0
        · simp only [hR, ne_eq, not_true_eq_false, if_false, if_true]
          rw [← hR]
        · simp only [ne_eq, hR, not_false_eq_true, if_true, if_false]
      by_cases hR : (rdL d a b).1.2 = 0
      · rw [if_pos hR] at hL
        have hr1 : (rdL d a b).1 = ((rdL d a b).1.1, 0) := by rw [← hR]
        have hD : divD d a b = (if (rdD d a b).1.2 = 0 then rdD d a b else (((rdL d a b).1.1, (rdD d a b).1.2), [])) := by
          unfold divD subR rdD
          rw [hL, wstep, if_neg (by simp [hR]), ← hr1]
          generalize sumW (b :: a.2.2.dropLast).length (rdL d a b).1 ((b :: a.2.2.dropLast).zip (d.map neg)) 1 = S
          unfold wres
          by_cases hS : S.1.2 = 0
          · simp only [hS, ne_eq, not_true_eq_false, if_false, if_true]
            rw [← hS]
          · simp only [ne_eq, hS, not_false_eq_true, if_true, if_false]
        by_cases hS : (rdD d a b).1.2 = 0
        · rw [if_pos hS] at hD
          have hM : divM d a b = rdM d a b := by unfold divM rdM; rw [hL, hD]
          have : divS d a b = rdS d a b := by unfold divS rdS; rw [hM, hL]
          rw [this]
          exact .refl _
        · rw [if_neg hS] at hD
          have e1 : (divS d a b).1.2 = (rdD d a b).1.2 := by
            show (divM d a b).1.2 = _
            rw [divM_bad d a b (by rw [hD]; exact hS), hD]
          have e2 : (rdS d a b).1.2 = (rdD d a b).1.2 := by
            show (rdM d a b).1.2 = _
            unfold rdM
            rw [chF_keep _ hS]
          exact ⟨by rw [e1, e2], fun h => by rw [e1] at h; exact absurd h hS⟩
      · rw [if_neg hR] at hL
        have e1 : (divS d a b).1.2 = (rdL d a b).1.2 := by
          show (divM d a b).1.2 = _
          have h1 := divD_bad d a b (by rw [hL]; exact hR)
          rw [divM_bad d a b (by rw [h1, hL]; exact hR), h1, hL]
        have e2 : (rdS d a b).1.2 = (rdL d a b).1.2 := by
          show (rdM d a b).1.2 = _
          have h1 : (rdD d a b).1 = (rdL d a b).1 := by unfold rdD; rw [sumF_keep _ hR]
          unfold rdM
          rw [chF_keep _ (by rw [h1]; exact hR), h1]
        exact ⟨by rw [e1, e2], fun h => by rw [e1] at h; exact absurd h hR⟩
    · have hc : c.1.2 ≠ 0 := by rw [← ih.1]; exact h0
      have e1 := divS_bad d a b h0
      have e2 := rdS_keep d c b hc
      exact ⟨by rw [e1, e2]; exact ih.1, fun h => by rw [e1] at h; exact absurd h h0⟩
end Go.Aig
namespace Go.Aig
/-- the steps of a sum are right -/
theorem sum_chain {G : Gra} {R1 R2 R3 R4 R5 : Mk × Nat} {s0 : Mk} (h : SOk G s0) {a b c : Nat} (ha : a < 2 * G.nodes.length) (hb : b < 2 * G.nodes.length) (hc : c < 2 * s0.1.nodes.length)
    (h1 : R1 = rstep s0 (rXor s0.1 a b)) (h2 : R2 = rstep R1.1 (rXor R1.1.1 R1.2 c)) (h3 : R3 = rstep R2.1 (and R2.1.1 a b)) (h4 : R4 = rstep R3.1 (and R3.1.1 R1.2 c)) (h5 : R5 = rstep R4.1 (rOr R4.1.1 R3.2 R4.2)) :
    (a < 2 * s0.1.nodes.length ∧ b < 2 * s0.1.nodes.length) ∧ (R1.2 < 2 * R1.1.1.nodes.length ∧ c < 2 * R1.1.1.nodes.length) ∧ (SOk G R2.1 ∧ c < 2 * R2.1.1.nodes.length ∧ a < 2 * R2.1.1.nodes.length ∧ b < 2 * R2.1.1.nodes.length) ∧ (R1.2 < 2 * R3.1.1.nodes.length ∧ c < 2 * R3.1.1.nodes.length) ∧ (R3.2 < 2 * R4.1.1.nodes.length ∧ R4.2 < 2 * R4.1.1.nodes.length) ∧ (SOk G R5.1 ∧ R5.2 < 2 * R5.1.1.nodes.length) := by
  have ha0 := h.ext.lt ha
  have hb0 := h.ext.lt hb
  obtain ⟨a1, a2, a3⟩ := rstep_sok h (Y := rXor s0.1 a b) (fun _ => rXor_full h.ok ha0 hb0)
  rw [← h1] at a1 a2 a3
  obtain ⟨b1, b2, b3⟩ := rstep_sok a1 (Y := rXor R1.1.1 R1.2 c) (fun _ => rXor_full a1.ok a2 (a3.lt hc))
  rw [← h2] at b1 b2 b3
  have ha2 := b1.ext.lt ha
  have hb2 := b1.ext.lt hb
  obtain ⟨c1, c2, c3⟩ := rstep_sok b1 (Y := and R2.1.1 a b) (fun _ => and_full b1.ok ha2 hb2)
  rw [← h3] at c1 c2 c3
  obtain ⟨d1, d2, d3⟩ := rstep_sok c1 (Y := and R3.1.1 R1.2 c) (fun _ => and_full c1.ok (c3.lt (b3.lt a2)) (c3.lt (b3.lt (a3.lt hc))))
  rw [← h4] at d1 d2 d3
  obtain ⟨e1, e2, e3⟩ := rstep_sok d1 (Y := rOr R4.1.1 R3.2 R4.2) (fun _ => rOr_full d1.ok (d3.lt c2) d2)
  rw [← h5] at e1 e2 e3
  exact ⟨⟨ha0, hb0⟩, ⟨a2, a3.lt hc⟩, ⟨b1, b3.lt (a3.lt hc), ha2, hb2⟩, ⟨c3.lt (b3.lt a2), c3.lt (b3.lt (a3.lt hc))⟩, ⟨d3.lt c2, d2⟩, ⟨e1, e2⟩⟩
end Go.Aig
namespace Go.Proofs.YtehljgigebhddaaGreat
open Go.RowKit Go.Mem Go.Aig
section
variable {w : World}
end
end Go.Proofs.YtehljgigebhddaaGreat
namespace Go.Aig
end Go.Aig
namespace Go.Proofs.YtehljgigebhddaaGreat
open Go.RowKit Go.Mem Go.Aig
section
variable {w : World}
set_option maxRecDepth 100000 in
set_option maxHeartbeats 2000000 in
theorem r23Not_is {a : Option Addr} {l : List Nat} (n cap : Nat) (hn : l.length = n) (hm : n ≤ 1000000) (h : Sl w a (natInts l)) (hs : ∀ r ∈ l, r ≤ 1000000) : Calls Tryz.prog 350 #[.slice a n cap] w fun e w' => ∃ v, e = .returned v ∧ row w' 3 1 v n (intCells (natInts (l.map neg))) ∧ (∀ q ∈ v.ownBlock.toList, w.heap.size ≤ q) ∧ Ch [] w w' := by
  subst hn
  have H := Lib.hid h; clear h
  go_enter Tryz.func350, Tryz.ntmps350
  go_wp2_with fail
  go_loopw [3, 4] (fun o i wr => ∃ k : Nat, k ≤ l.length ∧ i = .int .i64 k ∧ Ch [] w wr ∧ row wr 3 1 o k (intCells (natInts ((l.take k).map neg))) ∧ ∀ q ∈ o.ownBlock.toList, w.heap.size ≤ q) (fun _ i _ => l.length - (intOf i).toNat)
  case atStart => exact ⟨0, by omega, rfl, Ch.refl _ _, ⟨rfl, .inl ⟨rfl, rfl⟩⟩, by simp⟩
  case round =>
    obtain ⟨k, hk, rfl, hc, hrow, hlo⟩ := hrel
    obtain ⟨oa, oc, rfl⟩ := row.shape hrow
    by_cases hlt : k < l.length
    · obtain ⟨x, hx⟩ : ∃ x, l[k]? = some x := ⟨_, List.getElem?_eq_getElem hlt⟩
      have hsu : intCells (natInts ((l.take (k + 1)).map neg)) = intCells (natInts ((l.take k).map neg)) ++ [.int .i64 (neg x)] := by rw [List.take_add_one, hx]; simp [intCells, natInts]
      obtain ⟨xb, xo, rfl, hcl⟩ := H.out.cells k x (by simp [natInts, hx])
      have c0 := (hc.cell (cell_lt hcl) (by simp)).trans hcl
      have HN := rNot_is wr x (by have := hs x (List.mem_of_getElem? hx); omega)
      have HSU := Lib.hid hsu; clear hsu hx hcl
      have hcA : Ch [] wr (wr.alloc (.cells #[.int .i64 (neg x)] 3)) := (Ch.refl _ _).alloc _
      have hrA := hrow.ch hcA (by simp)
      have hbA : blk (wr.alloc (.cells #[.int .i64 (neg x)] 3)) wr.heap.size [.int .i64 (neg x)] := blk.new' _ _ rfl
      have HRA := Lib.hid hrA; clear hrA hrow
      have HBA := Lib.hid hbA; clear hbA
      have HCA := Lib.hid hcA; clear hcA
      have HC := Lib.hid hc; clear hc
      have HLO := Lib.hid hlo; clear hlo
      go_wp2_with fail
      refine HN.mono ?_
      rintro e w2 ⟨rfl, rfl⟩
      go_wp2_with (at_builtin; go_loud (refine wpList_append_row slInts rfl _ _ rfl (v := .slice oa k oc) (n := k) (xs := intCells (natInts ((l.take k).map neg))) rfl HRA.out (ad := ⟨wr.heap.size, 0, none⟩) (m := 1) (c := 1) (news := [.int .i64 (neg x)]) rfl rfl (news_blk HBA.out) (by simp [Value.oneCell']) (by omega) (by omega) ?_; intro v' w4 hown4 hC4 hf4; have HO4 := Lib.hid hown4; clear hown4; have HC4 := Lib.hid hC4; clear hC4; have HF4 := Lib.hid hf4; clear hf4))
      go_roundw
      case rel =>
        obtain ⟨q1, q2⟩ := app_step HC.out HCA.out HLO.out HC4.out HF4.out
        refine ⟨k + 1, by omega, by go_num, q1, ?_, q2⟩
        rw [HSU.out]; exact HO4.out
      case measure => simp [intOf]; omega
    · have hkn : k = l.length := by omega
      rw [hkn, List.take_of_length_le (Nat.le_refl _)] at hrow
      rw [hkn] at hlo
      rw [hkn]
      have HROW := Lib.hid hrow; clear hrow
      have HLO := Lib.hid hlo; clear hlo
      have HC := Lib.hid hc; clear hc hkn
      go_wp2_with fail
      go_ret
      exact ⟨.slice oa l.length oc, rfl, HROW.out, HLO.out, HC.out⟩
end
end Go.Proofs.YtehljgigebhddaaGreat
namespace Go.Aig
/-- the other way round -/
def negS (R : Mk × Nat) : Mk × Nat := (R.1, neg R.2)
/-- the difference, of words that are right -/
def subW (n : Nat) (s : Mk) (x y : List Nat) : Mk × List Nat := sumW n s (x.zip (y.map neg)) 1
end Go.Aig
namespace Go.Proofs.YtehljgigebhddaaGreat
open Go.RowKit Go.Mem Go.Aig
section
variable {w W w1 W' : World} {rb0 rb cap : Nat} {s : Mk} {v : Value} {l : List Nat}
theorem RSt.outL (h : RSt w W rb0 rb cap s v l) {R : Mk × List Nat} {rb' cap' : Nat} {a : Option Addr} {c : Nat} (hr : RG w1 rb' cap' R.1.1) (hc : Ch [] W w1) (hf : rb' = rb ∨ W.heap.size ≤ rb') (hrow : row w1 3 1 (.slice a R.2.length c) R.2.length (intCells (natInts R.2))) (hown : ∀ q, (Value.slice a R.2.length c).ownBlock = some q → W.heap.size ≤ q ∧ q ≠ rb')
    (hW : W' = ((w1.setCell ⟨w.heap.size + 1, 0, none⟩ (.int .i64 R.1.1.most)).setCell ⟨w.heap.size + 1, 1, none⟩ (.slice (some ⟨rb', 0, none⟩) R.1.1.nodes.length cap')).setCell ⟨w.heap.size + 1, 2, none⟩ (.int .i64 R.1.2)) :
    LTo w rb0 R (.returned (.tuple #[.agg #[.int .i64 R.1.1.most, .slice (some ⟨rb', 0, none⟩) R.1.1.nodes.length cap', .int .i64 R.1.2], .slice a R.2.length c])) W' := by
  have hcs := set3_ch hW
  have hfr := h.fr
  have hl0 := h.low
  have hlt := h.lt
  refine ⟨rb', cap', a, c, rfl, hr.ch hcs (by simp; omega), (h.ch.trans hc (by simp)).trans hcs (fun k hk => .inr (by simp at hk; omega)), by omega, hrow.ch hcs (fun k hk => ?_), fun q hq => ?_⟩
  · have := (hown k hk).1; simp; omega
  · have := hown q hq; omega
theorem RSt.outS (h : RSt w W rb0 rb cap s v l) {R : Mk × Nat} {rb' cap' : Nat} (hr : RG w1 rb' cap' R.1.1) (hc : Ch [] W w1) (hf : rb' = rb ∨ W.heap.size ≤ rb')
    (hW : W' = ((w1.setCell ⟨w.heap.size + 1, 0, none⟩ (.int .i64 R.1.1.most)).setCell ⟨w.heap.size + 1, 1, none⟩ (.slice (some ⟨rb', 0, none⟩) R.1.1.nodes.length cap')).setCell ⟨w.heap.size + 1, 2, none⟩ (.int .i64 R.1.2)) :
    STo w rb0 R (.returned (.tuple #[.agg #[.int .i64 R.1.1.most, .slice (some ⟨rb', 0, none⟩) R.1.1.nodes.length cap', .int .i64 R.1.2], .int .i64 R.2])) W' := by
  have hcs := set3_ch hW
  have hfr := h.fr
  have hl0 := h.low
  have hlt := h.lt
  exact ⟨rb', cap', rfl, hr.ch hcs (by simp; omega), (h.ch.trans hc (by simp)).trans hcs (fun k hk => .inr (by simp at hk; omega)), by omega⟩
end
section
variable {w : World} {rb cap : Nat} {G : Gra}
end
end Go.Proofs.YtehljgigebhddaaGreat
namespace Go.Aig
theorem ltF_preQ {G : Gra} (hG : Ok G) {qe : Nat} (hqe : qe = 0 ∨ qe = 201) {Z : List (Nat × Nat)} (hZ : ∀ p ∈ Z, p.1 < 2 * G.nodes.length ∧ p.2 < 2 * G.nodes.length) (z : List (Nat × Nat)) (hz : ∀ p ∈ z, p ∈ Z) : VOk G (ltF (G, qe) z) := by
  have : ∀ (l : List (Nat × Nat)) (r : Mk × Nat), VOk G r → (∀ p ∈ l, p.1 < 2 * G.nodes.length ∧ p.2 < 2 * G.nodes.length) → VOk G (l.foldl ltS r) := by
    intro l
    induction l with
    | nil => intro r h _; exact h
    | cons p l ih =>
      intro r h hl
      have hp := hl p (by simp)
      obtain ⟨h1, h2, h3⟩ := rstep_sok h.s (Y := rXor r.1.1 p.1 p.2) (fun _ => rXor_full h.s.ok (h.s.ext.lt hp.1) (h.s.ext.lt hp.2))
      obtain ⟨k1, k2, k3⟩ := rstep_sok h1 (Y := rMux (rstep r.1 (rXor r.1.1 p.1 p.2)).1.1 (rstep r.1 (rXor r.1.1 p.1 p.2)).2 p.2 r.2) (fun _ => rMux_full h1.ok h2 (h1.ext.lt hp.2) (h3.lt h.lt))
      exact ih _ ⟨k1, k2⟩ (fun p hp => hl p (by simp [hp]))
  exact this z _ ⟨⟨hG, .refl _, hqe⟩, by have := hG.wf.pos; show 0 < 2 * G.nodes.length; omega⟩ (fun p hp => hZ p (hz p hp))
theorem sumF_cokQ {G : Gra} (hG : Ok G) {q0 : Nat} (hq0 : q0 = 0 ∨ q0 = 201) (n : Nat) {c : Nat} (hc : c < 2 * G.nodes.length) : ∀ (l : List (Nat × Nat)), (∀ p ∈ l, p.1 < 2 * G.nodes.length ∧ p.2 < 2 * G.nodes.length) → SOk G (sumF n (G, q0) l c).1 ∧ (sumF n (G, q0) l c).2.2 < 2 * (sumF n (G, q0) l c).1.1.nodes.length := by
  have key : ∀ (l : List (Nat × Nat)) (q : Mk × List Nat × Nat), SOk G q.1 → q.2.2 < 2 * q.1.1.nodes.length → (∀ p ∈ l, p.1 < 2 * G.nodes.length ∧ p.2 < 2 * G.nodes.length) → SOk G (l.foldl (sumS n) q).1 ∧ (l.foldl (sumS n) q).2.2 < 2 * (l.foldl (sumS n) q).1.1.nodes.length := by
    intro l
    induction l with
    | nil => intro q h h2 _; exact ⟨h, h2⟩
    | cons p l ih =>
      intro q h h2 hl
      have hp := hl p (by simp)
      obtain ⟨_, _, k1, _, _, k2⟩ := sum_chain h hp.1 hp.2 h2 rfl rfl rfl rfl rfl
      have hl2 : ∀ p ∈ l, p.1 < 2 * G.nodes.length ∧ p.2 < 2 * G.nodes.length := fun p hp => hl p (by simp [hp])
      rw [List.foldl_cons]
      unfold sumS
      dsimp only
      split
      · exact ih _ k2.1 k2.2 hl2
      · exact ih _ k1.1 k1.2.1 hl2
  intro l hl
  exact key l _ (⟨hG, .refl _, hq0⟩) hc hl
end Go.Aig
namespace Go.Proofs.YtehljgigebhddaaGreat
open Go.RowKit Go.Mem Go.Aig
section
variable {w : World}
set_option maxRecDepth 100000 in
set_option maxHeartbeats 8000000 in
theorem r23LtQ_is {rb cap : Nat} {G : Gra} (h : RG w rb cap G) {qe : Nat} (hqe : qe = 0 ∨ qe = 201) {xa ya : Option Addr} {X Y : List Nat} (n xc yc : Nat) (hX : Sl w xa (natInts X)) (hY : Sl w ya (natInts Y)) (hn : X.length = n) (hm : Y.length = n) (hn0 : n ≤ 1000) (hxr : ∀ r ∈ X, r < 2 * G.nodes.length) (hyr : ∀ r ∈ Y, r < 2 * G.nodes.length) :
    Calls Tryz.prog 318 #[.agg #[.int .i64 G.most, .slice (some ⟨rb, 0, none⟩) G.nodes.length cap, .int .i64 qe], .slice xa n xc, .slice ya n yc] w (STo w rb (ltF (G, qe) (X.zip Y))) := by
  have hok := h.ok
  obtain ⟨Z, hZ⟩ : ∃ Z, Z = X.zip Y := ⟨_, rfl⟩
  have hZl : Z.length = n := by rw [hZ, List.length_zip, hn, hm]; omega
  have hZlt : ∀ p ∈ Z, p.1 < 2 * G.nodes.length ∧ p.2 < 2 * G.nodes.length := by rw [hZ]; exact fun p hp => ⟨hxr _ (List.of_mem_zip hp).1, hyr _ (List.of_mem_zip hp).2⟩
  have hZG : ∀ (j a b : Nat), Z[j]? = some (a, b) → X[j]? = some a ∧ Y[j]? = some b := fun j a b h => by rw [hZ] at h; exact List.getElem?_zip_eq_some.1 h
  rw [← hZ]
  have hElok := fun z (hz : ∀ p ∈ z, p ∈ Z) => ltF_preQ hok hqe hZlt z hz
  have hEsn := fun z a b => ltF_snoc (G, qe) z (a, b)
  have hE0 : ltF (G, qe) [] = ((G, qe), 0) := rfl
  obtain ⟨E, hE⟩ : ∃ E : List (Nat × Nat) → Mk × Nat, E = ltF (G, qe) := ⟨_, rfl⟩
  rw [← hE] at hElok hEsn hE0 ⊢
  clear hE hZ hxr hyr
  have HX := Lib.hid hX; clear hX
  have HY := Lib.hid hY; clear hY
  have HN := Lib.hid hn; clear hn
  have HMM := Lib.hid hm; clear hm
  have H := Lib.hid h; clear h
  have HELOK := Lib.hid hElok; clear hElok
  have HESN := Lib.hid hEsn; clear hEsn
  have HZL := Lib.hid hZl; clear hZl
  have HZG := Lib.hid hZG; clear hZG
  have HZLT := Lib.hid hZlt; clear hZlt hok
  have HE0 := Lib.hid hE0; clear hE0
  go_enter Tryz.func318, Tryz.ntmps318
  go_wp2_with fail
  refine wp_alw ?_
  intro W0 hW0
  have hst := RSt.start H.out hW0 rfl
  clear hW0
  have HST := Lib.hid hst; clear hst
  go_loopw [8, 9] (fun o i wr => ∃ (j rbk capk : Nat), j ≤ n ∧ i = .int .i64 j ∧ o = .int .i64 (E (Z.take j)).2 ∧ RSt w wr rb rbk capk (E (Z.take j)).1 (.slice none 0 0) []) (fun _ i _ => n - (intOf i).toNat)
  case atStart => exact ⟨0, rb, cap, by omega, rfl, by rw [List.take_zero, HE0.out]; rfl, by rw [List.take_zero, HE0.out]; exact HST.out⟩
  case round =>
    clear HST
    obtain ⟨j, rbk, capk, hj, rfl, ho, hst⟩ := hrel
    by_cases hjn : j < n
    · obtain ⟨⟨a, b⟩, hab⟩ : ∃ p, Z[j]? = some p := ⟨_, List.getElem?_eq_getElem (by rw [HZL.out]; exact hjn)⟩
      obtain ⟨hla, hlb⟩ := HZG.out j a b hab
      obtain ⟨hav, hbv⟩ := HZLT.out _ (List.mem_of_getElem? hab)
      have hsn : Z.take (j + 1) = Z.take j ++ [(a, b)] := by rw [List.take_add_one, hab]; rfl
      have hEs := HESN.out (Z.take j) a b
      rw [← hsn] at hEs
      have hlk := HELOK.out (Z.take j) (fun p hp => List.mem_of_mem_take hp)
      generalize hEE : E (Z.take (j + 1)) = EN at hEs
      generalize E (Z.take j) = ES at hEs hlk hst ho
      obtain ⟨⟨G2, q2⟩, c⟩ := ES
      simp only at hst ho
      subst ho
      have hsl := hlk.s
      have hcl := hlk.lt
      simp only at hsl hcl
      obtain ⟨h1, h2, h3⟩ := rstep_sok hsl (Y := rXor G2 a b) (fun _ => rXor_full hsl.ok (hsl.ext.lt hav) (hsl.ext.lt hbv))
      have ha2 : a < 2 * G2.nodes.length := hsl.ext.lt hav
      have hb2 : b < 2 * G2.nodes.length := hsl.ext.lt hbv
      have hM1 := fun (W : World) (hW : Ch [] wr W) => r23Xor_is (q := q2) (hst.rg.ch hW (by simp)) ha2 hb2
      have hM2 := fun (W : World) (rb3 cap3 : Nat) (hr : RG W rb3 cap3 (rstep (G2, q2) (rXor G2 a b)).1.1) (W' : World) (hW : Ch [] W W') => r23Mux_is (q := (rstep (G2, q2) (rXor G2 a b)).1.2) (hr.ch hW (by simp)) h2 (h1.ext.lt hbv) (h3.lt hcl)
      unfold ltS sXor sMux at hEs
      simp only at hEs
      obtain ⟨⟨⟨G3, q3⟩, p3⟩, hR1⟩ : ∃ R : Mk × Nat, R = rstep (G2, q2) (rXor G2 a b) := ⟨_, rfl⟩
      simp only [← hR1] at hEs hM1 hM2
      obtain ⟨⟨⟨G4, q4⟩, p4⟩, hR2⟩ : ∃ R : Mk × Nat, R = rstep (G3, q3) (rMux G3 p3 b c) := ⟨_, rfl⟩
      simp only [← hR2] at hEs hM2
      subst hEs
      clear hR1 hR2 hlk hsn hab hav hbv ha2 hb2 h1 h2 h3 hsl hcl
      have HEN := Lib.hid hEE; clear hEE
      have HM := Lib.hid hM1; clear hM1
      have HM2 := Lib.hid hM2; clear hM2
      have HST := Lib.hid hst; clear hst
      obtain ⟨ab, ao, ae, ac⟩ := HX.out.cells j (a : Int) (by simp [natInts, hla])
      have a0 : wr.cell? ⟨ab, ao + j, none⟩ = some (.int .i64 a) := (HST.out.ch.cell (cell_lt ac) (by simp)).trans ac
      subst ae
      clear ac
      obtain ⟨bb, bo, be, bc⟩ := HY.out.cells j (b : Int) (by simp [natInts, hlb])
      have b0 : wr.cell? ⟨bb, bo + j, none⟩ = some (.int .i64 b) := (HST.out.ch.cell (cell_lt bc) (by simp)).trans bc
      subst be
      clear bc
      clear hla hlb
      have HA0 := Lib.hid a0; clear a0
      have HB0 := Lib.hid b0; clear b0
      have hrlk := HST.out.rg.lt
      go_upto_region 5 with fail
      go_cut [10, 11] (fun p q wd => TS wr wd rbk ((G3, q3), p3) p q)
      case first =>
        refine Ord.St.door (fun w' => Ch [] wr w') [.ho, .fl, .fl, .fl, .ho, .fl, .fl, .fl, .ho, .ef, .fl, .fl, .fl, .ef, .ef, .fl] [0, 0, 0, 6, 14, 0, 0, 96, 224, 511, 1023, 2047, 2047, 0, 12287, 32767] [0, 1, 2, 3, 4, 5, 6, 7, 8, 9, 10, 11, 12, 13, 14, 15] mixed (by kernel_rfl) rfl ?_
        obtain ⟨Wc, hWc⟩ : ∃ Wc, Wc = wr.drew := ⟨_, rfl⟩
        rw [← hWc]
        have hcur : Ch [] wr Wc := by rw [hWc]; exact (Ch.refl _ _).drew
        clear hWc
        refine Ord.St.ho2 (T' := ?_) 0 [1, 2, 3, 4, 5, 6, 7, 8, 9, 10, 11, 12, 13, 14, 15] _ _ rfl (by kernel_rfl) rfl rfl rfl rfl ?_ (fun K w' hw' hk => ?_) ?_
        rotate_left
        · trivial
        · have hb4 := (HST.out.same hw').b4; have y0 := hb4.cell (i := 0) rfl; have y1 := hb4.cell (i := 1) rfl; have y2 := hb4.cell (i := 2) rfl; have a0 := (hw'.cell (cell_lt HA0.out) (by simp)).trans HA0.out; have b0 := (hw'.cell (cell_lt HB0.out) (by simp)).trans HB0.out; go_step; exact hk
        refine Ord.St.fl2 (T' := ?_) 1 [2, 3, 4, 5, 6, 7, 8, 9, 10, 11, 12, 13, 14, 15] _ _ rfl (by kernel_rfl) rfl rfl rfl rfl (fun K w' hk => ?_) ?_
        rotate_left
        · go_step; exact hk
        refine Ord.St.fl2 (T' := ?_) 2 [3, 4, 5, 6, 7, 8, 9, 10, 11, 12, 13, 14, 15] _ _ rfl (by kernel_rfl) rfl rfl rfl rfl (fun K w' hk => ?_) ?_
        rotate_left
        · go_step; exact hk
        refine Ord.St.fl2 (T' := ?_) 3 [4, 5, 6, 7, 8, 9, 10, 11, 12, 13, 14, 15] _ _ rfl (by kernel_rfl) rfl rfl rfl rfl (fun K w' hk => ?_) ?_
        rotate_left
        · go_step; exact hk
        refine Ord.St.ho2 (T' := ?_) 4 [5, 6, 7, 8, 9, 10, 11, 12, 13, 14, 15] _ _ rfl (by kernel_rfl) rfl rfl rfl rfl ?_ (fun K w' hw' hk => ?_) ?_
        rotate_left
        · trivial
        · have hb4 := (HST.out.same hw').b4; have y0 := hb4.cell (i := 0) rfl; have y1 := hb4.cell (i := 1) rfl; have y2 := hb4.cell (i := 2) rfl; have a0 := (hw'.cell (cell_lt HA0.out) (by simp)).trans HA0.out; have b0 := (hw'.cell (cell_lt HB0.out) (by simp)).trans HB0.out; go_step; exact hk
        refine Ord.St.fl2 (T' := ?_) 5 [6, 7, 8, 9, 10, 11, 12, 13, 14, 15] _ _ rfl (by kernel_rfl) rfl rfl rfl rfl (fun K w' hk => ?_) ?_
        rotate_left
        · go_step; exact hk
        refine Ord.St.fl2 (T' := ?_) 6 [7, 8, 9, 10, 11, 12, 13, 14, 15] _ _ rfl (by kernel_rfl) rfl rfl rfl rfl (fun K w' hk => ?_) ?_
        rotate_left
        · go_step; exact hk
        refine Ord.St.fl2 (T' := ?_) 7 [8, 9, 10, 11, 12, 13, 14, 15] _ _ rfl (by kernel_rfl) rfl rfl rfl rfl (fun K w' hk => ?_) ?_
        rotate_left
        · go_step; exact hk
        refine Ord.St.ho2 (T' := ?_) 8 [9, 10, 11, 12, 13, 14, 15] _ _ rfl (by kernel_rfl) rfl rfl rfl rfl ?_ (fun K w' hw' hk => ?_) ?_
        rotate_left
        · trivial
        · have hb4 := (HST.out.same hw').b4; have y0 := hb4.cell (i := 0) rfl; have y1 := hb4.cell (i := 1) rfl; have y2 := hb4.cell (i := 2) rfl; have a0 := (hw'.cell (cell_lt HA0.out) (by simp)).trans HA0.out; have b0 := (hw'.cell (cell_lt HB0.out) (by simp)).trans HB0.out; go_step; exact hk
        refine Ord.St.two 9 13 [10, 11, 12, 13, 14, 15] [9, 10, 11, 12, 14, 15] _ _ (by kernel_rfl) rfl rfl (by kernel_rfl) (by kernel_rfl) (fun K hK => ?_) (fun K hK => ?_)
        · have HA := Lib.hid (HM.out _ hcur)
          go_wp2_with fail
          refine HA.out.mono ?_
          rintro e w7 ⟨rb2, cap2, rfl, hrg2, hch, hfr3⟩
          go_wp2_with fail
          refine ⟨rfl, hK _ _ ?_ ?_⟩
          · exact hcur.trans hch (by simp)
          clear hK K
          try have hne := rto_ne hb9 (by omega) hfr3
          try replace hb9 := hb9.ch hch (by simp)
          have hfr5 : rb2 = rbk ∨ wr.heap.size ≤ rb2 := by have := hcur.size; rcases hfr3 with e | e <;> omega
          replace hcur := hcur.trans hch (by simp)
          clear hch hfr3 HA
          refine Ord.St.fl2 (T' := ?_) 10 [11, 12, 13, 14, 15] _ _ rfl (by kernel_rfl) rfl rfl rfl rfl (fun K w' hk => ?_) ?_
          rotate_left
          · go_step; exact hk
          refine Ord.St.fl2 (T' := ?_) 11 [12, 13, 14, 15] _ _ rfl (by kernel_rfl) rfl rfl rfl rfl (fun K w' hk => ?_) ?_
          rotate_left
          · go_step; exact hk
          refine Ord.St.fl2 (T' := ?_) 12 [13, 14, 15] _ _ rfl (by kernel_rfl) rfl rfl rfl rfl (fun K w' hk => ?_) ?_
          rotate_left
          · go_step; exact hk
          refine Ord.St.efC 13 [14, 15] _ rfl (by kernel_rfl) (fun K hK => ?_)
          go_wp2_with fail
          refine ⟨rfl, hK _ _ ?_ ?_⟩
          · exact hcur.alloc _
          clear hK K
          refine Ord.St.alw ?_; intro Wn hWn
          have hb9 := alw_blk (xs := [.int .i64 0, .slice none 0 0, .int .i64 0]) hWn
          have hs9 := hcur.size
          try have hne := rg_ne hrg2
          try replace hrg2 := hrg2.ch (alw_ch hWn) (by simp)
          replace hcur := hcur.trans (alw_ch hWn) (by simp)
          clear hWn
          first | (have _t := hrg2; clear _t; generalize w7.heap.size = b9 at *) | generalize Wc.heap.size = b9 at *
          refine Ord.St.ef 14 [15] _ rfl (by kernel_rfl) (fun K hK => ?_)
          have z0 := hb9.cell (i := 0) rfl
          have z1 := hb9.cell (i := 1) rfl
          have z2 := hb9.cell (i := 2) rfl
          have g0 := hb9.frozen (i := 0)
          have g1 := hb9.frozen (i := 1)
          have g2 := hb9.frozen (i := 2)
          have HRG2 := Lib.hid hrg2; clear hrg2
          have HB9 := Lib.hid hb9; clear hb9
          have HCUR := Lib.hid hcur; clear hcur
          go_wp2_with fail
          refine ⟨rfl, hK _ _ ?_⟩; clear hK K
          refine Ord.St.fl2 (T' := ?_) 15 [] _ _ rfl (by kernel_rfl) rfl rfl rfl rfl (fun K w' hk => ?_) ?_
          rotate_left
          · go_step; exact hk
          refine Ord.St.nil ?_
          go_wp2_with fail
          go_meet
          case rel => exact TS.mk HCUR.out HRG2.out hfr5 HB9.out hs9 hne rfl
        · go_wp2_with fail
          refine ⟨rfl, hK _ _ ?_ ?_⟩
          · exact hcur.alloc _
          clear hK K
          refine Ord.St.alw ?_; intro Wn hWn
          have hb9 := alw_blk (xs := [.int .i64 0, .slice none 0 0, .int .i64 0]) hWn
          have hs9 := hcur.size
          try have hne := rg_ne hrg2
          try replace hrg2 := hrg2.ch (alw_ch hWn) (by simp)
          replace hcur := hcur.trans (alw_ch hWn) (by simp)
          clear hWn
          first | (have _t := hrg2; clear _t; generalize w7.heap.size = b9 at *) | generalize Wc.heap.size = b9 at *
          refine Ord.St.ef 9 [10, 11, 12, 14, 15] _ rfl (by kernel_rfl) (fun K hK => ?_)
          have HA := Lib.hid (HM.out _ hcur)
          go_wp2_with fail
          refine HA.out.mono ?_
          rintro e w7 ⟨rb2, cap2, rfl, hrg2, hch, hfr3⟩
          go_wp2_with fail
          refine ⟨rfl, hK _ _ ?_⟩; clear hK K
          try have hne := rto_ne hb9 (by omega) hfr3
          try replace hb9 := hb9.ch hch (by simp)
          have hfr5 : rb2 = rbk ∨ wr.heap.size ≤ rb2 := by have := hcur.size; rcases hfr3 with e | e <;> omega
          replace hcur := hcur.trans hch (by simp)
          clear hch hfr3 HA
          refine Ord.St.fl2 (T' := ?_) 10 [11, 12, 14, 15] _ _ rfl (by kernel_rfl) rfl rfl rfl rfl (fun K w' hk => ?_) ?_
          rotate_left
          · go_step; exact hk
          refine Ord.St.fl2 (T' := ?_) 11 [12, 14, 15] _ _ rfl (by kernel_rfl) rfl rfl rfl rfl (fun K w' hk => ?_) ?_
          rotate_left
          · go_step; exact hk
          refine Ord.St.fl2 (T' := ?_) 12 [14, 15] _ _ rfl (by kernel_rfl) rfl rfl rfl rfl (fun K w' hk => ?_) ?_
          rotate_left
          · go_step; exact hk
          refine Ord.St.ef 14 [15] _ rfl (by kernel_rfl) (fun K hK => ?_)
          have z0 := hb9.cell (i := 0) rfl
          have z1 := hb9.cell (i := 1) rfl
          have z2 := hb9.cell (i := 2) rfl
          have g0 := hb9.frozen (i := 0)
          have g1 := hb9.frozen (i := 1)
          have g2 := hb9.frozen (i := 2)
          have HRG2 := Lib.hid hrg2; clear hrg2
          have HB9 := Lib.hid hb9; clear hb9
          have HCUR := Lib.hid hcur; clear hcur
          go_wp2_with fail
          refine ⟨rfl, hK _ _ ?_⟩; clear hK K
          refine Ord.St.fl2 (T' := ?_) 15 [] _ _ rfl (by kernel_rfl) rfl rfl rfl rfl (fun K w' hk => ?_) ?_
          rotate_left
          · go_step; exact hk
          refine Ord.St.nil ?_
          go_wp2_with fail
          go_meet
          case rel => exact TS.mk HCUR.out HRG2.out hfr5 HB9.out hs9 hne rfl
      case rest =>
        obtain ⟨rb3, cap3, b3, rfl, rfl, hc3, hrg3, hfr3, hb3, hlo3⟩ := hcut
        have hM := fun (W : World) (hW : Ch [] wc W) => HM2.out wc rb3 cap3 hrg3 W hW
        have HM3 := Lib.hid hM; clear hM HM2
        have hb0 := (hc3.cell (cell_lt HB0.out) (by simp)).trans HB0.out
        have HBY := Lib.hid hb0; clear hb0
        have hrl3 := hrg3.lt
        have HB3 := Lib.hid hb3; clear hb3
        have HRG3 := Lib.hid hrg3; clear hrg3
        have HC3 := Lib.hid hc3; clear hc3
        go_upto_region 6 with fail
        go_cut [12, 13] (fun p q wd => TS wc wd rb3 ((G4, q4), p4) p q)
        case first =>
          refine Ord.St.door (fun w' => Ch [] wc w') [.ho, .fl, .fl, .fl, .fl, .ho, .fl, .ef, .fl, .fl, .fl, .ef, .ef, .fl] [0, 0, 0, 0, 12, 28, 0, 127, 255, 511, 511, 0, 3071, 8191] [0, 1, 2, 3, 4, 5, 6, 7, 8, 9, 10, 11, 12, 13] mixed (by kernel_rfl) rfl ?_
          obtain ⟨Wc, hWc⟩ : ∃ Wc, Wc = wc.drew := ⟨_, rfl⟩
          rw [← hWc]
          have hcur : Ch [] wc Wc := by rw [hWc]; exact (Ch.refl _ _).drew
          clear hWc
          refine Ord.St.ho2 (T' := ?_) 0 [1, 2, 3, 4, 5, 6, 7, 8, 9, 10, 11, 12, 13] _ _ rfl (by kernel_rfl) rfl rfl rfl rfl ?_ (fun K w' hw' hk => ?_) ?_
          rotate_left
          · trivial
          · have y0 := (HB3.out.ch hw' (by simp)).cell (i := 0) rfl; have y1 := (HB3.out.ch hw' (by simp)).cell (i := 1) rfl; have y2 := (HB3.out.ch hw' (by simp)).cell (i := 2) rfl; have b0 := (hw'.cell (cell_lt HBY.out) (by simp)).trans HBY.out; go_step; exact hk
          refine Ord.St.fl2 (T' := ?_) 1 [2, 3, 4, 5, 6, 7, 8, 9, 10, 11, 12, 13] _ _ rfl (by kernel_rfl) rfl rfl rfl rfl (fun K w' hk => ?_) ?_
          rotate_left
          · go_step; exact hk
          refine Ord.St.fl2 (T' := ?_) 2 [3, 4, 5, 6, 7, 8, 9, 10, 11, 12, 13] _ _ rfl (by kernel_rfl) rfl rfl rfl rfl (fun K w' hk => ?_) ?_
          rotate_left
          · go_step; exact hk
          refine Ord.St.fl2 (T' := ?_) 3 [4, 5, 6, 7, 8, 9, 10, 11, 12, 13] _ _ rfl (by kernel_rfl) rfl rfl rfl rfl (fun K w' hk => ?_) ?_
          rotate_left
          · go_step; exact hk
          refine Ord.St.fl2 (T' := ?_) 4 [5, 6, 7, 8, 9, 10, 11, 12, 13] _ _ rfl (by kernel_rfl) rfl rfl rfl rfl (fun K w' hk => ?_) ?_
          rotate_left
          · go_step; exact hk
          refine Ord.St.ho2 (T' := ?_) 5 [6, 7, 8, 9, 10, 11, 12, 13] _ _ rfl (by kernel_rfl) rfl rfl rfl rfl ?_ (fun K w' hw' hk => ?_) ?_
          rotate_left
          · trivial
          · have y0 := (HB3.out.ch hw' (by simp)).cell (i := 0) rfl; have y1 := (HB3.out.ch hw' (by simp)).cell (i := 1) rfl; have y2 := (HB3.out.ch hw' (by simp)).cell (i := 2) rfl; have b0 := (hw'.cell (cell_lt HBY.out) (by simp)).trans HBY.out; go_step; exact hk
          refine Ord.St.fl2 (T' := ?_) 6 [7, 8, 9, 10, 11, 12, 13] _ _ rfl (by kernel_rfl) rfl rfl rfl rfl (fun K w' hk => ?_) ?_
          rotate_left
          · go_step; exact hk
          refine Ord.St.two 7 11 [8, 9, 10, 11, 12, 13] [7, 8, 9, 10, 12, 13] _ _ (by kernel_rfl) rfl rfl (by kernel_rfl) (by kernel_rfl) (fun K hK => ?_) (fun K hK => ?_)
          · have HA := Lib.hid (HM3.out _ hcur)
            go_wp2_with fail
            refine HA.out.mono ?_
            rintro e w7 ⟨rb2, cap2, rfl, hrg2, hch, hfr3⟩
            go_wp2_with fail
            refine ⟨rfl, hK _ _ ?_ ?_⟩
            · exact hcur.trans hch (by simp)
            clear hK K
            try have hne := rto_ne hb9 (by omega) hfr3
            try replace hb9 := hb9.ch hch (by simp)
            have hfr5 : rb2 = rb3 ∨ wc.heap.size ≤ rb2 := by have := hcur.size; rcases hfr3 with e | e <;> omega
            replace hcur := hcur.trans hch (by simp)
            clear hch hfr3 HA
            refine Ord.St.fl2 (T' := ?_) 8 [9, 10, 11, 12, 13] _ _ rfl (by kernel_rfl) rfl rfl rfl rfl (fun K w' hk => ?_) ?_
            rotate_left
            · go_step; exact hk
            refine Ord.St.fl2 (T' := ?_) 9 [10, 11, 12, 13] _ _ rfl (by kernel_rfl) rfl rfl rfl rfl (fun K w' hk => ?_) ?_
            rotate_left
            · go_step; exact hk
            refine Ord.St.fl2 (T' := ?_) 10 [11, 12, 13] _ _ rfl (by kernel_rfl) rfl rfl rfl rfl (fun K w' hk => ?_) ?_
            rotate_left
            · go_step; exact hk
            refine Ord.St.efC 11 [12, 13] _ rfl (by kernel_rfl) (fun K hK => ?_)
            go_wp2_with fail
            refine ⟨rfl, hK _ _ ?_ ?_⟩
            · exact hcur.alloc _
            clear hK K
            refine Ord.St.alw ?_; intro Wn hWn
            have hb9 := alw_blk (xs := [.int .i64 0, .slice none 0 0, .int .i64 0]) hWn
            have hs9 := hcur.size
            try have hne := rg_ne hrg2
            try replace hrg2 := hrg2.ch (alw_ch hWn) (by simp)
            replace hcur := hcur.trans (alw_ch hWn) (by simp)
            clear hWn
            first | (have _t := hrg2; clear _t; generalize w7.heap.size = b9 at *) | generalize Wc.heap.size = b9 at *
            refine Ord.St.ef 12 [13] _ rfl (by kernel_rfl) (fun K hK => ?_)
            have z0 := hb9.cell (i := 0) rfl
            have z1 := hb9.cell (i := 1) rfl
            have z2 := hb9.cell (i := 2) rfl
            have g0 := hb9.frozen (i := 0)
            have g1 := hb9.frozen (i := 1)
            have g2 := hb9.frozen (i := 2)
            have HRG2 := Lib.hid hrg2; clear hrg2
            have HB9 := Lib.hid hb9; clear hb9
            have HCUR := Lib.hid hcur; clear hcur
            go_wp2_with fail
            refine ⟨rfl, hK _ _ ?_⟩; clear hK K
            refine Ord.St.fl2 (T' := ?_) 13 [] _ _ rfl (by kernel_rfl) rfl rfl rfl rfl (fun K w' hk => ?_) ?_
            rotate_left
            · go_step; exact hk
            refine Ord.St.nil ?_
            go_wp2_with fail
            go_meet
            case rel => exact TS.mk HCUR.out HRG2.out hfr5 HB9.out hs9 hne rfl
          · go_wp2_with fail
            refine ⟨rfl, hK _ _ ?_ ?_⟩
            · exact hcur.alloc _
            clear hK K
            refine Ord.St.alw ?_; intro Wn hWn
            have hb9 := alw_blk (xs := [.int .i64 0, .slice none 0 0, .int .i64 0]) hWn
            have hs9 := hcur.size
            try have hne := rg_ne hrg2
            try replace hrg2 := hrg2.ch (alw_ch hWn) (by simp)
            replace hcur := hcur.trans (alw_ch hWn) (by simp)
            clear hWn
            first | (have _t := hrg2; clear _t; generalize w7.heap.size = b9 at *) | generalize Wc.heap.size = b9 at *
            refine Ord.St.ef 7 [8, 9, 10, 12, 13] _ rfl (by kernel_rfl) (fun K hK => ?_)
            have HA := Lib.hid (HM3.out _ hcur)
            go_wp2_with fail
            refine HA.out.mono ?_
            rintro e w7 ⟨rb2, cap2, rfl, hrg2, hch, hfr3⟩
            go_wp2_with fail
            refine ⟨rfl, hK _ _ ?_⟩; clear hK K
            try have hne := rto_ne hb9 (by omega) hfr3
            try replace hb9 := hb9.ch hch (by simp)
            have hfr5 : rb2 = rb3 ∨ wc.heap.size ≤ rb2 := by have := hcur.size; rcases hfr3 with e | e <;> omega
            replace hcur := hcur.trans hch (by simp)
            clear hch hfr3 HA
            refine Ord.St.fl2 (T' := ?_) 8 [9, 10, 12, 13] _ _ rfl (by kernel_rfl) rfl rfl rfl rfl (fun K w' hk => ?_) ?_
            rotate_left
            · go_step; exact hk
            refine Ord.St.fl2 (T' := ?_) 9 [10, 12, 13] _ _ rfl (by kernel_rfl) rfl rfl rfl rfl (fun K w' hk => ?_) ?_
            rotate_left
            · go_step; exact hk
            refine Ord.St.fl2 (T' := ?_) 10 [12, 13] _ _ rfl (by kernel_rfl) rfl rfl rfl rfl (fun K w' hk => ?_) ?_
            rotate_left
            · go_step; exact hk
            refine Ord.St.ef 12 [13] _ rfl (by kernel_rfl) (fun K hK => ?_)
            have z0 := hb9.cell (i := 0) rfl
            have z1 := hb9.cell (i := 1) rfl
            have z2 := hb9.cell (i := 2) rfl
            have g0 := hb9.frozen (i := 0)
            have g1 := hb9.frozen (i := 1)
            have g2 := hb9.frozen (i := 2)
            have HRG2 := Lib.hid hrg2; clear hrg2
            have HB9 := Lib.hid hb9; clear hb9
            have HCUR := Lib.hid hcur; clear hcur
            go_wp2_with fail
            refine ⟨rfl, hK _ _ ?_⟩; clear hK K
            refine Ord.St.fl2 (T' := ?_) 13 [] _ _ rfl (by kernel_rfl) rfl rfl rfl rfl (fun K w' hk => ?_) ?_
            rotate_left
            · go_step; exact hk
            refine Ord.St.nil ?_
            go_wp2_with fail
            go_meet
            case rel => exact TS.mk HCUR.out HRG2.out hfr5 HB9.out hs9 hne rfl
        case rest =>
          obtain ⟨rb4, cap4, b4, rfl, rfl, hc4, hrg4, hfr4, hb4, hlo4⟩ := hcut
          have hz3 := HC3.out.size
          have hc := HC3.out.trans hc4 (by simp)
          have hfr : rb4 = rbk ∨ wr.heap.size ≤ rb4 := by rcases hfr4 with e | e; (rcases hfr3 with e2 | e2; left; omega; right; omega); (right; omega)
          clear hc4 hfr4
          have x0 := hb4.cell (i := 0) rfl
          have x1 := hb4.cell (i := 1) rfl
          have x2 := hb4.cell (i := 2) rfl
          have hbp := (HST.out.same hc).b4
          have f0 := hbp.frozen (i := 0)
          have f1 := hbp.frozen (i := 1)
          have f2 := hbp.frozen (i := 2)
          have y0 := hbp.cell (i := 0) rfl
          have y1 := hbp.cell (i := 1) rfl
          have y2 := hbp.cell (i := 2) rfl
          clear hbp
          have HCX := Lib.hid hc; clear hc
          have HRX := Lib.hid hrg4; clear hrg4
          have HBX := Lib.hid hb4; clear hb4
          go_upto_region 4 with fail
          refine wp_alw ?_
          intro W9 hW9
          have hst := HST.out.put HCX.out HRX.out hfr hW9
          clear hW9 x0 x1 x2 y0 y1 y2 f0 f1 f2 HRX HBX
          have HS9 := Lib.hid hst; clear hst
          go_wp2_with fail
          go_roundw
          case rel => exact ⟨j + 1, rb4, cap4, by omega, by go_num, by rw [HEN.out], by rw [HEN.out]; exact HS9.out⟩
          case measure => simp [intOf]; omega
    · have hall : Z.take j = Z := List.take_of_length_le (by rw [HZL.out]; omega)
      rw [hall] at hst ho
      obtain ⟨⟨⟨G2, q2⟩, c⟩, hES⟩ : ∃ ES, ES = E Z := ⟨_, rfl⟩
      rw [← hES] at hst ho
      simp only at hst ho
      subst ho
      have HES := Lib.hid hES; clear hES
      have y0 := hst.b4.cell (i := 0) rfl
      have y1 := hst.b4.cell (i := 1) rfl
      have y2 := hst.b4.cell (i := 2) rfl
      have v0 := hst.b8.cell (i := 0) rfl
      have v1 := hst.b8.cell (i := 1) rfl
      have v2 := hst.b8.cell (i := 2) rfl
      have g0 := hst.b8.frozen (i := 0)
      have g1 := hst.b8.frozen (i := 1)
      have g2 := hst.b8.frozen (i := 2)
      have hl8 := hst.b8.lt
      have HST := Lib.hid hst; clear hst
      go_wp2_with fail
      refine bodyPost_ret (v := .tuple #[.agg #[.int .i64 G2.most, .slice (some ⟨rbk, 0, none⟩) G2.nodes.length capk, .int .i64 q2], .int .i64 c]) (by simp [results, Tryz.results318, go_sem, v0, v1, v2]) rfl ?_
      show STo w rb (E Z) _ _
      rw [← HES.out]
      exact HST.out.finS rfl
set_option maxRecDepth 100000 in
set_option maxHeartbeats 8000000 in
theorem r23SumQ_is {rb cap : Nat} {G : Gra} (h : RG w rb cap G) {qe : Nat} (hqe : qe = 0 ∨ qe = 201) {xa ya : Option Addr} {X Y : List Nat} (n xc yc : Nat) (hX : Sl w xa (natInts X)) (hY : Sl w ya (natInts Y)) (hn : X.length = n) (hm : Y.length = n) (hn0 : n ≤ 1000) (hxr : ∀ r ∈ X, r < 2 * G.nodes.length) (hyr : ∀ r ∈ Y, r < 2 * G.nodes.length) {c0 : Nat} (hc0 : c0 < 2 * G.nodes.length) :
    Calls Tryz.prog 349 #[.agg #[.int .i64 G.most, .slice (some ⟨rb, 0, none⟩) G.nodes.length cap, .int .i64 qe], .slice xa n xc, .slice ya n yc, .int .i64 c0] w (LTo w rb (sumW n (G, qe) (X.zip Y) c0)) := by
  have hok := h.ok
  obtain ⟨Z, hZ⟩ : ∃ Z, Z = X.zip Y := ⟨_, rfl⟩
  have hZl : Z.length = n := by rw [hZ, List.length_zip, hn, hm]; omega
  have hZlt : ∀ p ∈ Z, p.1 < 2 * G.nodes.length ∧ p.2 < 2 * G.nodes.length := by rw [hZ]; exact fun p hp => ⟨hxr _ (List.of_mem_zip hp).1, hyr _ (List.of_mem_zip hp).2⟩
  have hZG : ∀ (j a b : Nat), Z[j]? = some (a, b) → X[j]? = some a ∧ Y[j]? = some b := fun j a b h => by rw [hZ] at h; exact List.getElem?_zip_eq_some.1 h
  rw [← hZ]
  have hElok := fun z (hz : ∀ p ∈ z, p ∈ Z) => sumF_cokQ hok hqe n hc0 z (fun p hp => hZlt p (hz p hp))
  have hEsn := fun z a b => sumF_snoc n (G, qe) z c0 (a, b)
  have hElen := fun z => sumF_len n (G, qe) c0 z
  have hE0 : sumF n (G, qe) [] c0 = ((G, qe), [], c0) := rfl
  unfold sumW
  obtain ⟨E, hE⟩ : ∃ E : List (Nat × Nat) → Mk × List Nat × Nat, E = fun z => sumF n (G, qe) z c0 := ⟨_, rfl⟩
  have hEz : ∀ z, sumF n (G, qe) z c0 = E z := fun z => by rw [hE]
  simp only [hEz] at hElok hEsn hElen hE0 ⊢
  clear hE hZ hxr hyr hEz
  have HX := Lib.hid hX; clear hX
  have HY := Lib.hid hY; clear hY
  have HN := Lib.hid hn; clear hn
  have HMM := Lib.hid hm; clear hm
  have H := Lib.hid h; clear h
  have HELOK := Lib.hid hElok; clear hElok
  have HESN := Lib.hid hEsn; clear hEsn
  have HZL := Lib.hid hZl; clear hZl
  have HZG := Lib.hid hZG; clear hZG
  have HZLT := Lib.hid hZlt; clear hZlt hok
  have HE0 := Lib.hid hE0; clear hE0
  have HELEN := Lib.hid hElen; clear hElen
  go_enter Tryz.func349, Tryz.ntmps349
  go_wp2_with fail
  refine wp_alw ?_
  intro W0 hW0
  have hst := RSt.start H.out hW0 rfl
  clear hW0
  have HST := Lib.hid hst; clear hst
  go_loopw [3, 10, 11] (fun o nx i wr => ∃ (j rbk capk : Nat), j ≤ n ∧ i = .int .i64 j ∧ o = .int .i64 (E (Z.take j)).2.2 ∧ RSt w wr rb rbk capk (E (Z.take j)).1 nx (E (Z.take j)).2.1) (fun _ _ i _ => n - (intOf i).toNat)
  case atStart => exact ⟨0, rb, cap, by omega, rfl, by rw [List.take_zero, HE0.out], by rw [List.take_zero, HE0.out]; exact HST.out⟩
  case round =>
    clear HST hc0
    obtain ⟨j, rbk, capk, hj, rfl, ho, hst⟩ := hrel
    by_cases hjn : j < n
    · obtain ⟨⟨a, b⟩, hab⟩ : ∃ p, Z[j]? = some p := ⟨_, List.getElem?_eq_getElem (by rw [HZL.out]; exact hjn)⟩
      obtain ⟨hla, hlb⟩ := HZG.out j a b hab
      obtain ⟨hav, hbv⟩ := HZLT.out _ (List.mem_of_getElem? hab)
      have hsn : Z.take (j + 1) = Z.take j ++ [(a, b)] := by rw [List.take_add_one, hab]; rfl
      have hEs := HESN.out (Z.take j) a b
      rw [← hsn] at hEs
      have hlk := HELOK.out (Z.take j) (fun p hp => List.mem_of_mem_take hp)
      have hlen := HELEN.out (Z.take j)
      rw [List.length_take, HZL.out, Nat.min_eq_left hj] at hlen
      generalize hEE : E (Z.take (j + 1)) = EN at hEs
      generalize E (Z.take j) = ES at hEs hlk hst ho hlen
      obtain ⟨⟨G2, q2⟩, l2, c⟩ := ES
      simp only at hst ho hlen
      subst ho
      obtain ⟨hsl, hcl⟩ := hlk
      simp only at hsl hcl
      obtain ⟨R1, h1⟩ : ∃ R1 : Mk × Nat, R1 = rstep (G2, q2) (rXor G2 a b) := ⟨_, rfl⟩
      obtain ⟨R2, h2⟩ : ∃ R2 : Mk × Nat, R2 = rstep R1.1 (rXor R1.1.1 R1.2 c) := ⟨_, rfl⟩
      obtain ⟨R3, h3⟩ : ∃ R3 : Mk × Nat, R3 = rstep R2.1 (and R2.1.1 a b) := ⟨_, rfl⟩
      obtain ⟨R4, h4⟩ : ∃ R4 : Mk × Nat, R4 = rstep R3.1 (and R3.1.1 R1.2 c) := ⟨_, rfl⟩
      obtain ⟨R5, h5⟩ : ∃ R5 : Mk × Nat, R5 = rstep R4.1 (rOr R4.1.1 R3.2 R4.2) := ⟨_, rfl⟩
      obtain ⟨⟨k1, k2⟩, ⟨k3, k4⟩, ⟨_, _, k5, k6⟩, ⟨k7, k8⟩, ⟨k9, k10⟩, _⟩ := sum_chain hsl hav hbv hcl h1 h2 h3 h4 h5
      have hM1 : ∀ (W : World), Ch [] wr W → Calls Tryz.prog 343 #[.agg #[.int .i64 G2.most, .slice (some ⟨rbk, 0, none⟩) G2.nodes.length capk, .int .i64 q2], .int .i64 a, .int .i64 b] W (STo W rbk R1) := fun W hW => by
        rw [h1]; exact r23Xor_is (hst.rg.ch hW (by simp)) k1 k2
      have hM2 : ∀ (W : World) (rb3 cap3 : Nat), RG W rb3 cap3 R1.1.1 → ∀ W', Ch [] W W' → Calls Tryz.prog 343 #[.agg #[.int .i64 R1.1.1.most, .slice (some ⟨rb3, 0, none⟩) R1.1.1.nodes.length cap3, .int .i64 R1.1.2], .int .i64 R1.2, .int .i64 c] W' (STo W' rb3 R2) := fun W rb3 cap3 hr W' hW => by
        rw [h2]; exact r23Xor_is (hr.ch hW (by simp)) k3 k4
      have hM3 : ∀ (W : World) (rb3 cap3 : Nat), RG W rb3 cap3 R2.1.1 → ∀ W', Ch [] W W' → Calls Tryz.prog 333 #[.agg #[.int .i64 R2.1.1.most, .slice (some ⟨rb3, 0, none⟩) R2.1.1.nodes.length cap3, .int .i64 R2.1.2], .int .i64 a, .int .i64 b] W' (STo W' rb3 R3) := fun W rb3 cap3 hr W' hW => by
        rw [h3]; exact r23And_is (hr.ch hW (by simp)) k5 k6
      have hM4 : ∀ (W : World) (rb3 cap3 : Nat), RG W rb3 cap3 R3.1.1 → ∀ W', Ch [] W W' → Calls Tryz.prog 333 #[.agg #[.int .i64 R3.1.1.most, .slice (some ⟨rb3, 0, none⟩) R3.1.1.nodes.length cap3, .int .i64 R3.1.2], .int .i64 R1.2, .int .i64 c] W' (STo W' rb3 R4) := fun W rb3 cap3 hr W' hW => by
        rw [h4]; exact r23And_is (hr.ch hW (by simp)) k7 k8
      have hM5 : ∀ (W : World) (rb3 cap3 : Nat), RG W rb3 cap3 R4.1.1 → ∀ W', Ch [] W W' → Calls Tryz.prog 356 #[.agg #[.int .i64 R4.1.1.most, .slice (some ⟨rb3, 0, none⟩) R4.1.1.nodes.length cap3, .int .i64 R4.1.2], .int .i64 R3.2, .int .i64 R4.2] W' (STo W' rb3 R5) := fun W rb3 cap3 hr W' hW => by
        rw [h5]; exact r23Or_is (hr.ch hW (by simp)) k9 k10
      have hEs2 : EN = if j + 1 < n then (R5.1, l2 ++ [R2.2], R5.2) else (R2.1, l2 ++ [R2.2], c) := by
        rw [hEs, h5, h4, h3, h2, h1, ← hlen]; rfl
      clear hEs h1 h2 h3 h4 h5 k1 k2 k3 k4 k5 k6 k7 k8 k9 k10 hsl hcl hsn hab hav hbv
      obtain ⟨⟨G3, q3⟩, p3⟩ := R1
      obtain ⟨⟨G4, q4⟩, p4⟩ := R2
      obtain ⟨⟨G5, q5⟩, p5⟩ := R3
      obtain ⟨⟨G6, q6⟩, p6⟩ := R4
      obtain ⟨⟨G7, q7⟩, p7⟩ := R5
      simp only at hM1 hM2 hM3 hM4 hM5 hEs2
      rw [← hEE] at hEs2
      clear hEE
      have HEN := Lib.hid hEs2; clear hEs2
      have HM1 := Lib.hid hM1; clear hM1
      have HM2 := Lib.hid hM2; clear hM2
      have HM3 := Lib.hid hM3; clear hM3
      have HM4 := Lib.hid hM4; clear hM4
      have HM5 := Lib.hid hM5; clear hM5
      have HLEN := Lib.hid hlen; clear hlen
      have HST := Lib.hid hst; clear hst
      obtain ⟨ab, ao, ae, ac⟩ := HX.out.cells j (a : Int) (by simp [natInts, hla])
      have a0 : wr.cell? ⟨ab, ao + j, none⟩ = some (.int .i64 a) := (HST.out.ch.cell (cell_lt ac) (by simp)).trans ac
      subst ae
      have HXA := Lib.hid ac; clear ac
      obtain ⟨bb, bo, be, bc⟩ := HY.out.cells j (b : Int) (by simp [natInts, hlb])
      have b0 : wr.cell? ⟨bb, bo + j, none⟩ = some (.int .i64 b) := (HST.out.ch.cell (cell_lt bc) (by simp)).trans bc
      subst be
      have HXB := Lib.hid bc; clear bc
      clear hla hlb
      have HA0 := Lib.hid a0; clear a0
      have HB0 := Lib.hid b0; clear b0
      have hrlk := HST.out.rg.lt
      go_upto_region 5 with fail
      go_cut [12, 13] (fun p q wd => TS wr wd rbk ((G3, q3), p3) p q)
      case first =>
        refine Ord.St.door (fun w' => Ch [] wr w') [.ho, .fl, .fl, .fl, .ho, .fl, .fl, .fl, .ho, .ef, .fl, .fl, .fl, .ef, .ef, .fl] [0, 0, 0, 6, 14, 0, 0, 96, 224, 511, 1023, 2047, 2047, 0, 12287, 32767] [0, 1, 2, 3, 4, 5, 6, 7, 8, 9, 10, 11, 12, 13, 14, 15] mixed (by kernel_rfl) rfl ?_
        obtain ⟨Wc, hWc⟩ : ∃ Wc, Wc = wr.drew := ⟨_, rfl⟩
        rw [← hWc]
        have hcur : Ch [] wr Wc := by rw [hWc]; exact (Ch.refl _ _).drew
        clear hWc
        refine Ord.St.ho2 (T' := ?_) 0 [1, 2, 3, 4, 5, 6, 7, 8, 9, 10, 11, 12, 13, 14, 15] _ _ rfl (by kernel_rfl) rfl rfl rfl rfl ?_ (fun K w' hw' hk => ?_) ?_
        rotate_left
        · trivial
        · have hb4 := (HST.out.same hw').b4; have y0 := hb4.cell (i := 0) rfl; have y1 := hb4.cell (i := 1) rfl; have y2 := hb4.cell (i := 2) rfl; have a0 := (hw'.cell (cell_lt HA0.out) (by simp)).trans HA0.out; have b0 := (hw'.cell (cell_lt HB0.out) (by simp)).trans HB0.out; go_step; exact hk
        refine Ord.St.fl2 (T' := ?_) 1 [2, 3, 4, 5, 6, 7, 8, 9, 10, 11, 12, 13, 14, 15] _ _ rfl (by kernel_rfl) rfl rfl rfl rfl (fun K w' hk => ?_) ?_
        rotate_left
        · go_step; exact hk
        refine Ord.St.fl2 (T' := ?_) 2 [3, 4, 5, 6, 7, 8, 9, 10, 11, 12, 13, 14, 15] _ _ rfl (by kernel_rfl) rfl rfl rfl rfl (fun K w' hk => ?_) ?_
        rotate_left
        · go_step; exact hk
        refine Ord.St.fl2 (T' := ?_) 3 [4, 5, 6, 7, 8, 9, 10, 11, 12, 13, 14, 15] _ _ rfl (by kernel_rfl) rfl rfl rfl rfl (fun K w' hk => ?_) ?_
        rotate_left
        · go_step; exact hk
        refine Ord.St.ho2 (T' := ?_) 4 [5, 6, 7, 8, 9, 10, 11, 12, 13, 14, 15] _ _ rfl (by kernel_rfl) rfl rfl rfl rfl ?_ (fun K w' hw' hk => ?_) ?_
        rotate_left
        · trivial
        · have hb4 := (HST.out.same hw').b4; have y0 := hb4.cell (i := 0) rfl; have y1 := hb4.cell (i := 1) rfl; have y2 := hb4.cell (i := 2) rfl; have a0 := (hw'.cell (cell_lt HA0.out) (by simp)).trans HA0.out; have b0 := (hw'.cell (cell_lt HB0.out) (by simp)).trans HB0.out; go_step; exact hk
        refine Ord.St.fl2 (T' := ?_) 5 [6, 7, 8, 9, 10, 11, 12, 13, 14, 15] _ _ rfl (by kernel_rfl) rfl rfl rfl rfl (fun K w' hk => ?_) ?_
        rotate_left
        · go_step; exact hk
        refine Ord.St.fl2 (T' := ?_) 6 [7, 8, 9, 10, 11, 12, 13, 14, 15] _ _ rfl (by kernel_rfl) rfl rfl rfl rfl (fun K w' hk => ?_) ?_
        rotate_left
        · go_step; exact hk
        refine Ord.St.fl2 (T' := ?_) 7 [8, 9, 10, 11, 12, 13, 14, 15] _ _ rfl (by kernel_rfl) rfl rfl rfl rfl (fun K w' hk => ?_) ?_
        rotate_left
        · go_step; exact hk
        refine Ord.St.ho2 (T' := ?_) 8 [9, 10, 11, 12, 13, 14, 15] _ _ rfl (by kernel_rfl) rfl rfl rfl rfl ?_ (fun K w' hw' hk => ?_) ?_
        rotate_left
        · trivial
        · have hb4 := (HST.out.same hw').b4; have y0 := hb4.cell (i := 0) rfl; have y1 := hb4.cell (i := 1) rfl; have y2 := hb4.cell (i := 2) rfl; have a0 := (hw'.cell (cell_lt HA0.out) (by simp)).trans HA0.out; have b0 := (hw'.cell (cell_lt HB0.out) (by simp)).trans HB0.out; go_step; exact hk
        refine Ord.St.two 9 13 [10, 11, 12, 13, 14, 15] [9, 10, 11, 12, 14, 15] _ _ (by kernel_rfl) rfl rfl (by kernel_rfl) (by kernel_rfl) (fun K hK => ?_) (fun K hK => ?_)
        · have HA := Lib.hid (HM1.out _ hcur)
          go_wp2_with fail
          refine HA.out.mono ?_
          rintro e w7 ⟨rb2, cap2, rfl, hrg2, hch, hfr3⟩
          go_wp2_with fail
          refine ⟨rfl, hK _ _ ?_ ?_⟩
          · exact hcur.trans hch (by simp)
          clear hK K
          try have hne := rto_ne hb9 (by omega) hfr3
          try replace hb9 := hb9.ch hch (by simp)
          have hfr5 : rb2 = rbk ∨ wr.heap.size ≤ rb2 := by have := hcur.size; rcases hfr3 with e | e <;> omega
          replace hcur := hcur.trans hch (by simp)
          clear hch hfr3 HA
          refine Ord.St.fl2 (T' := ?_) 10 [11, 12, 13, 14, 15] _ _ rfl (by kernel_rfl) rfl rfl rfl rfl (fun K w' hk => ?_) ?_
          rotate_left
          · go_step; exact hk
          refine Ord.St.fl2 (T' := ?_) 11 [12, 13, 14, 15] _ _ rfl (by kernel_rfl) rfl rfl rfl rfl (fun K w' hk => ?_) ?_
          rotate_left
          · go_step; exact hk
          refine Ord.St.fl2 (T' := ?_) 12 [13, 14, 15] _ _ rfl (by kernel_rfl) rfl rfl rfl rfl (fun K w' hk => ?_) ?_
          rotate_left
          · go_step; exact hk
          refine Ord.St.efC 13 [14, 15] _ rfl (by kernel_rfl) (fun K hK => ?_)
          go_wp2_with fail
          refine ⟨rfl, hK _ _ ?_ ?_⟩
          · exact hcur.alloc _
          clear hK K
          refine Ord.St.alw ?_; intro Wn hWn
          have hb9 := alw_blk (xs := [.int .i64 0, .slice none 0 0, .int .i64 0]) hWn
          have hs9 := hcur.size
          try have hne := rg_ne hrg2
          try replace hrg2 := hrg2.ch (alw_ch hWn) (by simp)
          replace hcur := hcur.trans (alw_ch hWn) (by simp)
          clear hWn
          first | (have _t := hrg2; clear _t; generalize w7.heap.size = b9 at *) | generalize Wc.heap.size = b9 at *
          refine Ord.St.ef 14 [15] _ rfl (by kernel_rfl) (fun K hK => ?_)
          have z0 := hb9.cell (i := 0) rfl
          have z1 := hb9.cell (i := 1) rfl
          have z2 := hb9.cell (i := 2) rfl
          have g0 := hb9.frozen (i := 0)
          have g1 := hb9.frozen (i := 1)
          have g2 := hb9.frozen (i := 2)
          have HRG2 := Lib.hid hrg2; clear hrg2
          have HB9 := Lib.hid hb9; clear hb9
          have HCUR := Lib.hid hcur; clear hcur
          go_wp2_with fail
          refine ⟨rfl, hK _ _ ?_⟩; clear hK K
          refine Ord.St.fl2 (T' := ?_) 15 [] _ _ rfl (by kernel_rfl) rfl rfl rfl rfl (fun K w' hk => ?_) ?_
          rotate_left
          · go_step; exact hk
          refine Ord.St.nil ?_
          go_wp2_with fail
          go_meet
          case rel => exact TS.mk HCUR.out HRG2.out hfr5 HB9.out hs9 hne rfl
        · go_wp2_with fail
          refine ⟨rfl, hK _ _ ?_ ?_⟩
          · exact hcur.alloc _
          clear hK K
          refine Ord.St.alw ?_; intro Wn hWn
          have hb9 := alw_blk (xs := [.int .i64 0, .slice none 0 0, .int .i64 0]) hWn
          have hs9 := hcur.size
          try have hne := rg_ne hrg2
          try replace hrg2 := hrg2.ch (alw_ch hWn) (by simp)
          replace hcur := hcur.trans (alw_ch hWn) (by simp)
          clear hWn
          first | (have _t := hrg2; clear _t; generalize w7.heap.size = b9 at *) | generalize Wc.heap.size = b9 at *
          refine Ord.St.ef 9 [10, 11, 12, 14, 15] _ rfl (by kernel_rfl) (fun K hK => ?_)
          have HA := Lib.hid (HM1.out _ hcur)
          go_wp2_with fail
          refine HA.out.mono ?_
          rintro e w7 ⟨rb2, cap2, rfl, hrg2, hch, hfr3⟩
          go_wp2_with fail
          refine ⟨rfl, hK _ _ ?_⟩; clear hK K
          try have hne := rto_ne hb9 (by omega) hfr3
          try replace hb9 := hb9.ch hch (by simp)
          have hfr5 : rb2 = rbk ∨ wr.heap.size ≤ rb2 := by have := hcur.size; rcases hfr3 with e | e <;> omega
          replace hcur := hcur.trans hch (by simp)
          clear hch hfr3 HA
          refine Ord.St.fl2 (T' := ?_) 10 [11, 12, 14, 15] _ _ rfl (by kernel_rfl) rfl rfl rfl rfl (fun K w' hk => ?_) ?_
          rotate_left
          · go_step; exact hk
          refine Ord.St.fl2 (T' := ?_) 11 [12, 14, 15] _ _ rfl (by kernel_rfl) rfl rfl rfl rfl (fun K w' hk => ?_) ?_
          rotate_left
          · go_step; exact hk
          refine Ord.St.fl2 (T' := ?_) 12 [14, 15] _ _ rfl (by kernel_rfl) rfl rfl rfl rfl (fun K w' hk => ?_) ?_
          rotate_left
          · go_step; exact hk
          refine Ord.St.ef 14 [15] _ rfl (by kernel_rfl) (fun K hK => ?_)
          have z0 := hb9.cell (i := 0) rfl
          have z1 := hb9.cell (i := 1) rfl
          have z2 := hb9.cell (i := 2) rfl
          have g0 := hb9.frozen (i := 0)
          have g1 := hb9.frozen (i := 1)
          have g2 := hb9.frozen (i := 2)
          have HRG2 := Lib.hid hrg2; clear hrg2
          have HB9 := Lib.hid hb9; clear hb9
          have HCUR := Lib.hid hcur; clear hcur
          go_wp2_with fail
          refine ⟨rfl, hK _ _ ?_⟩; clear hK K
          refine Ord.St.fl2 (T' := ?_) 15 [] _ _ rfl (by kernel_rfl) rfl rfl rfl rfl (fun K w' hk => ?_) ?_
          rotate_left
          · go_step; exact hk
          refine Ord.St.nil ?_
          go_wp2_with fail
          go_meet
          case rel => exact TS.mk HCUR.out HRG2.out hfr5 HB9.out hs9 hne rfl
      case rest =>
        obtain ⟨rb3, cap3, b3, rfl, rfl, hc3, hrg3, hfr3, hb3, hlo3⟩ := hcut
        have hM := fun (W : World) (hW : Ch [] wc W) => HM2.out wc rb3 cap3 hrg3 W hW
        have HMM2 := Lib.hid hM; clear hM HM2
        have HB3 := Lib.hid hb3; clear hb3
        have hrl3 := hrg3.lt
        clear hrg3
        have HC3 := Lib.hid hc3; clear hc3
        go_upto_region 6 with fail
        go_cut [14, 15] (fun p q wd => TS wc wd rb3 ((G4, q4), p4) p q)
        case first =>
          have y0 := HB3.out.cell (i := 0) rfl
          have y1 := HB3.out.cell (i := 1) rfl
          have y2 := HB3.out.cell (i := 2) rfl
          go_wp2_with fail
          refine (HMM2.out _ (Ch.refl _ _)).mono ?_
          rintro e w7 ⟨rb2, cap2, rfl, hrg2, hch, hfr3⟩
          have HRG2 := Lib.hid hrg2; clear hrg2
          have HCH := Lib.hid hch; clear hch
          go_wp2_with fail
          go_meet
          case rel => exact TS.new HCH.out HRG2.out hfr3 rfl
        case rest =>
          obtain ⟨rb4, cap4, b4, rfl, rfl, hc4, hrg4, hfr4, hb4, hlo4⟩ := hcut
          have hz3 := HC3.out.size
          have hc := HC3.out.trans hc4 (by simp)
          have hfr : rb4 = rbk ∨ wr.heap.size ≤ rb4 := by rcases hfr4 with e | e; (rcases hfr3 with e2 | e2; left; omega; right; omega); (right; omega)
          clear hc4 hfr4 HB3
          have x0 := hb4.cell (i := 0) rfl
          have x1 := hb4.cell (i := 1) rfl
          have x2 := hb4.cell (i := 2) rfl
          have hbp := (HST.out.same hc).b4
          have f0 := hbp.frozen (i := 0)
          have f1 := hbp.frozen (i := 1)
          have f2 := hbp.frozen (i := 2)
          have y0 := hbp.cell (i := 0) rfl
          have y1 := hbp.cell (i := 1) rfl
          have y2 := hbp.cell (i := 2) rfl
          clear hbp
          have HCX := Lib.hid hc; clear hc
          have HRX := Lib.hid hrg4; clear hrg4
          have HBX := Lib.hid hb4; clear hb4
          go_upto_region 8 with fail
          refine wp_alw ?_
          intro W9 hW9
          have hst := HST.out.put HCX.out HRX.out hfr hW9
          clear hW9 x0 x1 x2 y0 y1 y2 f0 f1 f2 HRX HBX
          obtain ⟨na, nc, rfl⟩ := row.shape hst.rw
          have hlen9 : l2.length = j := HLEN
          have hrA := (hst.same (W' := W9.alloc (.cells #[.int .i64 p4] 3)) ((Ch.refl _ _).alloc _)).rw
          have hbA : blk (W9.alloc (.cells #[.int .i64 p4] 3)) W9.heap.size [.int .i64 p4] := blk.new' _ _ rfl
          rw [hlen9] at hrA
          have HRA := Lib.hid hrA; clear hrA
          have HBA := Lib.hid hbA; clear hbA
          have HS9 := Lib.hid hst; clear hst
          go_upto_region 9 with (at_builtin; go_loud (refine wpList_append_row slInts rfl _ _ rfl (v := .slice na l2.length nc) (n := l2.length) (xs := intCells (natInts l2)) rfl (by rw [HLEN.out]; exact HRA.out) (ad := ⟨W9.heap.size, 0, none⟩) (m := 1) (c := 1) (news := [.int .i64 p4]) rfl rfl (news_blk HBA.out) (by simp [Value.oneCell']) (by omega) (by omega) ?_; intro v' wz hown4 hC4 hf4; have HO4 := Lib.hid hown4; clear hown4; have HC4 := Lib.hid hC4; clear hC4; have HF4 := Lib.hid hf4; clear hf4))
          have hst := HS9.out.app HO4.out HC4.out HF4.out
          have hw9 := HS9.out.ch
          clear HRA HBA HO4 HC4 HF4 HS9
          have HS := Lib.hid hst; clear hst
          by_cases hjl : j + 1 < n
          · have ha1 : wz.cell? ⟨ab, ao + j, none⟩ = some (.int .i64 a) := (HS.out.ch.cell (cell_lt HXA.out) (by simp)).trans HXA.out
            have hb1 : wz.cell? ⟨bb, bo + j, none⟩ = some (.int .i64 b) := (HS.out.ch.cell (cell_lt HXB.out) (by simp)).trans HXB.out
            have HA1 := Lib.hid ha1; clear ha1
            have HB1 := Lib.hid hb1; clear hb1
            have HEN2 := Lib.hid (HEN.out.trans (if_pos hjl))
            have hj1 : (j : Int) < (n : Int) - 1 := by omega
            have hrl4 := HS.out.rg.lt
            have hM := fun (W : World) (hW : Ch [] wz W) => HM3.out wz rb4 cap4 HS.out.rg W hW
            have HMM3 := Lib.hid hM; clear hM HM3
            go_upto_region 10 with fail
            go_cut [16, 17] (fun p q wd => TS wz wd rb4 ((G5, q5), p5) p q)
            case first =>
              refine Ord.St.door (fun w' => Ch [] wz w') [.ho, .fl, .fl, .fl, .ho, .fl, .fl, .fl, .ho, .ef, .fl, .fl, .fl, .ef, .ef, .fl] [0, 0, 0, 6, 14, 0, 0, 96, 224, 511, 1023, 2047, 2047, 0, 12287, 32767] [0, 1, 2, 3, 4, 5, 6, 7, 8, 9, 10, 11, 12, 13, 14, 15] mixed (by kernel_rfl) rfl ?_
              obtain ⟨Wc, hWc⟩ : ∃ Wc, Wc = wz.drew := ⟨_, rfl⟩
              rw [← hWc]
              have hcur : Ch [] wz Wc := by rw [hWc]; exact (Ch.refl _ _).drew
              clear hWc
              refine Ord.St.ho2 (T' := ?_) 0 [1, 2, 3, 4, 5, 6, 7, 8, 9, 10, 11, 12, 13, 14, 15] _ _ rfl (by kernel_rfl) rfl rfl rfl rfl ?_ (fun K w' hw' hk => ?_) ?_
              rotate_left
              · trivial
              · have hb4 := (HS.out.same hw').b4; have y0 := hb4.cell (i := 0) rfl; have y1 := hb4.cell (i := 1) rfl; have y2 := hb4.cell (i := 2) rfl; have a0 := (hw'.cell (cell_lt HA1.out) (by simp)).trans HA1.out; have b0 := (hw'.cell (cell_lt HB1.out) (by simp)).trans HB1.out; go_step; exact hk
              refine Ord.St.fl2 (T' := ?_) 1 [2, 3, 4, 5, 6, 7, 8, 9, 10, 11, 12, 13, 14, 15] _ _ rfl (by kernel_rfl) rfl rfl rfl rfl (fun K w' hk => ?_) ?_
              rotate_left
              · go_step; exact hk
              refine Ord.St.fl2 (T' := ?_) 2 [3, 4, 5, 6, 7, 8, 9, 10, 11, 12, 13, 14, 15] _ _ rfl (by kernel_rfl) rfl rfl rfl rfl (fun K w' hk => ?_) ?_
              rotate_left
              · go_step; exact hk
              refine Ord.St.fl2 (T' := ?_) 3 [4, 5, 6, 7, 8, 9, 10, 11, 12, 13, 14, 15] _ _ rfl (by kernel_rfl) rfl rfl rfl rfl (fun K w' hk => ?_) ?_
              rotate_left
              · go_step; exact hk
              refine Ord.St.ho2 (T' := ?_) 4 [5, 6, 7, 8, 9, 10, 11, 12, 13, 14, 15] _ _ rfl (by kernel_rfl) rfl rfl rfl rfl ?_ (fun K w' hw' hk => ?_) ?_
              rotate_left
              · trivial
              · have hb4 := (HS.out.same hw').b4; have y0 := hb4.cell (i := 0) rfl; have y1 := hb4.cell (i := 1) rfl; have y2 := hb4.cell (i := 2) rfl; have a0 := (hw'.cell (cell_lt HA1.out) (by simp)).trans HA1.out; have b0 := (hw'.cell (cell_lt HB1.out) (by simp)).trans HB1.out; go_step; exact hk
              refine Ord.St.fl2 (T' := ?_) 5 [6, 7, 8, 9, 10, 11, 12, 13, 14, 15] _ _ rfl (by kernel_rfl) rfl rfl rfl rfl (fun K w' hk => ?_) ?_
              rotate_left
              · go_step; exact hk
              refine Ord.St.fl2 (T' := ?_) 6 [7, 8, 9, 10, 11, 12, 13, 14, 15] _ _ rfl (by kernel_rfl) rfl rfl rfl rfl (fun K w' hk => ?_) ?_
              rotate_left
              · go_step; exact hk
              refine Ord.St.fl2 (T' := ?_) 7 [8, 9, 10, 11, 12, 13, 14, 15] _ _ rfl (by kernel_rfl) rfl rfl rfl rfl (fun K w' hk => ?_) ?_
              rotate_left
              · go_step; exact hk
              refine Ord.St.ho2 (T' := ?_) 8 [9, 10, 11, 12, 13, 14, 15] _ _ rfl (by kernel_rfl) rfl rfl rfl rfl ?_ (fun K w' hw' hk => ?_) ?_
              rotate_left
              · trivial
              · have hb4 := (HS.out.same hw').b4; have y0 := hb4.cell (i := 0) rfl; have y1 := hb4.cell (i := 1) rfl; have y2 := hb4.cell (i := 2) rfl; have a0 := (hw'.cell (cell_lt HA1.out) (by simp)).trans HA1.out; have b0 := (hw'.cell (cell_lt HB1.out) (by simp)).trans HB1.out; go_step; exact hk
              refine Ord.St.two 9 13 [10, 11, 12, 13, 14, 15] [9, 10, 11, 12, 14, 15] _ _ (by kernel_rfl) rfl rfl (by kernel_rfl) (by kernel_rfl) (fun K hK => ?_) (fun K hK => ?_)
              · have HA := Lib.hid (HMM3.out _ hcur)
                go_wp2_with fail
                refine HA.out.mono ?_
                rintro e w7 ⟨rb2, cap2, rfl, hrg2, hch, hfr3⟩
                go_wp2_with fail
                refine ⟨rfl, hK _ _ ?_ ?_⟩
                · exact hcur.trans hch (by simp)
                clear hK K
                try have hne := rto_ne hb9 (by omega) hfr3
                try replace hb9 := hb9.ch hch (by simp)
                have hfr5 : rb2 = rb4 ∨ wz.heap.size ≤ rb2 := by have := hcur.size; rcases hfr3 with e | e <;> omega
                replace hcur := hcur.trans hch (by simp)
                clear hch hfr3 HA
                refine Ord.St.fl2 (T' := ?_) 10 [11, 12, 13, 14, 15] _ _ rfl (by kernel_rfl) rfl rfl rfl rfl (fun K w' hk => ?_) ?_
                rotate_left
                · go_step; exact hk
                refine Ord.St.fl2 (T' := ?_) 11 [12, 13, 14, 15] _ _ rfl (by kernel_rfl) rfl rfl rfl rfl (fun K w' hk => ?_) ?_
                rotate_left
                · go_step; exact hk
                refine Ord.St.fl2 (T' := ?_) 12 [13, 14, 15] _ _ rfl (by kernel_rfl) rfl rfl rfl rfl (fun K w' hk => ?_) ?_
                rotate_left
                · go_step; exact hk
                refine Ord.St.efC 13 [14, 15] _ rfl (by kernel_rfl) (fun K hK => ?_)
                go_wp2_with fail
                refine ⟨rfl, hK _ _ ?_ ?_⟩
                · exact hcur.alloc _
                clear hK K
                refine Ord.St.alw ?_; intro Wn hWn
                have hb9 := alw_blk (xs := [.int .i64 0, .slice none 0 0, .int .i64 0]) hWn
                have hs9 := hcur.size
                try have hne := rg_ne hrg2
                try replace hrg2 := hrg2.ch (alw_ch hWn) (by simp)
                replace hcur := hcur.trans (alw_ch hWn) (by simp)
                clear hWn
                first | (have _t := hrg2; clear _t; generalize w7.heap.size = b9 at *) | generalize Wc.heap.size = b9 at *
                refine Ord.St.ef 14 [15] _ rfl (by kernel_rfl) (fun K hK => ?_)
                have z0 := hb9.cell (i := 0) rfl
                have z1 := hb9.cell (i := 1) rfl
                have z2 := hb9.cell (i := 2) rfl
                have g0 := hb9.frozen (i := 0)
                have g1 := hb9.frozen (i := 1)
                have g2 := hb9.frozen (i := 2)
                have HRG2 := Lib.hid hrg2; clear hrg2
                have HB9 := Lib.hid hb9; clear hb9
                have HCUR := Lib.hid hcur; clear hcur
                go_wp2_with fail
                refine ⟨rfl, hK _ _ ?_⟩; clear hK K
                refine Ord.St.fl2 (T' := ?_) 15 [] _ _ rfl (by kernel_rfl) rfl rfl rfl rfl (fun K w' hk => ?_) ?_
                rotate_left
                · go_step; exact hk
                refine Ord.St.nil ?_
                go_wp2_with fail
                go_meet
                case rel => exact TS.mk HCUR.out HRG2.out hfr5 HB9.out hs9 hne rfl
              · go_wp2_with fail
                refine ⟨rfl, hK _ _ ?_ ?_⟩
                · exact hcur.alloc _
                clear hK K
                refine Ord.St.alw ?_; intro Wn hWn
                have hb9 := alw_blk (xs := [.int .i64 0, .slice none 0 0, .int .i64 0]) hWn
                have hs9 := hcur.size
                try have hne := rg_ne hrg2
                try replace hrg2 := hrg2.ch (alw_ch hWn) (by simp)
                replace hcur := hcur.trans (alw_ch hWn) (by simp)
                clear hWn
                first | (have _t := hrg2; clear _t; generalize w7.heap.size = b9 at *) | generalize Wc.heap.size = b9 at *
                refine Ord.St.ef 9 [10, 11, 12, 14, 15] _ rfl (by kernel_rfl) (fun K hK => ?_)
                have HA := Lib.hid (HMM3.out _ hcur)
                go_wp2_with fail
                refine HA.out.mono ?_
                rintro e w7 ⟨rb2, cap2, rfl, hrg2, hch, hfr3⟩
                go_wp2_with fail
                refine ⟨rfl, hK _ _ ?_⟩; clear hK K
                try have hne := rto_ne hb9 (by omega) hfr3
                try replace hb9 := hb9.ch hch (by simp)
                have hfr5 : rb2 = rb4 ∨ wz.heap.size ≤ rb2 := by have := hcur.size; rcases hfr3 with e | e <;> omega
                replace hcur := hcur.trans hch (by simp)
                clear hch hfr3 HA
                refine Ord.St.fl2 (T' := ?_) 10 [11, 12, 14, 15] _ _ rfl (by kernel_rfl) rfl rfl rfl rfl (fun K w' hk => ?_) ?_
                rotate_left
                · go_step; exact hk
                refine Ord.St.fl2 (T' := ?_) 11 [12, 14, 15] _ _ rfl (by kernel_rfl) rfl rfl rfl rfl (fun K w' hk => ?_) ?_
                rotate_left
                · go_step; exact hk
                refine Ord.St.fl2 (T' := ?_) 12 [14, 15] _ _ rfl (by kernel_rfl) rfl rfl rfl rfl (fun K w' hk => ?_) ?_
                rotate_left
                · go_step; exact hk
                refine Ord.St.ef 14 [15] _ rfl (by kernel_rfl) (fun K hK => ?_)
                have z0 := hb9.cell (i := 0) rfl
                have z1 := hb9.cell (i := 1) rfl
                have z2 := hb9.cell (i := 2) rfl
                have g0 := hb9.frozen (i := 0)
                have g1 := hb9.frozen (i := 1)
                have g2 := hb9.frozen (i := 2)
                have HRG2 := Lib.hid hrg2; clear hrg2
                have HB9 := Lib.hid hb9; clear hb9
                have HCUR := Lib.hid hcur; clear hcur
                go_wp2_with fail
                refine ⟨rfl, hK _ _ ?_⟩; clear hK K
                refine Ord.St.fl2 (T' := ?_) 15 [] _ _ rfl (by kernel_rfl) rfl rfl rfl rfl (fun K w' hk => ?_) ?_
                rotate_left
                · go_step; exact hk
                refine Ord.St.nil ?_
                go_wp2_with fail
                go_meet
                case rel => exact TS.mk HCUR.out HRG2.out hfr5 HB9.out hs9 hne rfl
            case rest =>
              obtain ⟨rb5, cap5, b5, rfl, rfl, hc5, hrg5, hfr5, hb5, hlo5⟩ := hcut
              have hM := fun (W : World) (hW : Ch [] wc W) => HM4.out wc rb5 cap5 hrg5 W hW
              have HMM4 := Lib.hid hM; clear hM HM4
              have HB5 := Lib.hid hb5; clear hb5
              have hrl5 := hrg5.lt
              clear hrg5
              have HC5 := Lib.hid hc5; clear hc5
              go_upto_region 11 with fail
              go_cut [18, 19] (fun p q wd => TS wc wd rb5 ((G6, q6), p6) p q)
              case first =>
                have y0 := HB5.out.cell (i := 0) rfl
                have y1 := HB5.out.cell (i := 1) rfl
                have y2 := HB5.out.cell (i := 2) rfl
                go_wp2_with fail
                refine (HMM4.out _ (Ch.refl _ _)).mono ?_
                rintro e w7 ⟨rb2, cap2, rfl, hrg2, hch, hfr3⟩
                have HRG2 := Lib.hid hrg2; clear hrg2
                have HCH := Lib.hid hch; clear hch
                go_wp2_with fail
                go_meet
                case rel => exact TS.new HCH.out HRG2.out hfr3 rfl
              case rest =>
                obtain ⟨rb6, cap6, b6, rfl, rfl, hc6, hrg6, hfr6, hb6, hlo6⟩ := hcut
                have hM := fun (W : World) (hW : Ch [] wc W) => HM5.out wc rb6 cap6 hrg6 W hW
                have HMM5 := Lib.hid hM; clear hM HM5
                have HB6 := Lib.hid hb6; clear hb6
                have hrl6 := hrg6.lt
                clear hrg6
                have hz5 := HC5.out.size
                have hfr65 : rb6 = rb4 ∨ wz.heap.size ≤ rb6 := by rcases hfr6 with e | e; (rcases hfr5 with e2 | e2; left; omega; right; omega); (right; omega)
                have HC6 := Lib.hid (HC5.out.trans hc6 (by simp)); clear hc6 HC5 HB5
                go_upto_region 12 with fail
                go_cut [20, 21] (fun p q wd => TS wc wd rb6 ((G7, q7), p7) p q)
                case first =>
                  have y0 := HB6.out.cell (i := 0) rfl
                  have y1 := HB6.out.cell (i := 1) rfl
                  have y2 := HB6.out.cell (i := 2) rfl
                  go_wp2_with fail
                  refine (HMM5.out _ (Ch.refl _ _)).mono ?_
                  rintro e w7 ⟨rb2, cap2, rfl, hrg2, hch, hfr3⟩
                  have HRG2 := Lib.hid hrg2; clear hrg2
                  have HCH := Lib.hid hch; clear hch
                  go_wp2_with fail
                  go_meet
                  case rel => exact TS.new HCH.out HRG2.out hfr3 rfl
                case rest =>
                  obtain ⟨rb7, cap7, b7, rfl, rfl, hc7, hrg7, hfr7, hb7, hlo7⟩ := hcut
                  have hz6 := HC6.out.size
                  have hc := HC6.out.trans hc7 (by simp)
                  have hfr : rb7 = rb4 ∨ wz.heap.size ≤ rb7 := by rcases hfr7 with e | e; (rcases hfr65 with e2 | e2; left; omega; right; omega); (right; omega)
                  clear hc7 hfr7 HB6 HC6
                  have x0 := hb7.cell (i := 0) rfl
                  have x1 := hb7.cell (i := 1) rfl
                  have x2 := hb7.cell (i := 2) rfl
                  have hbp := (HS.out.same hc).b4
                  have f0 := hbp.frozen (i := 0)
                  have f1 := hbp.frozen (i := 1)
                  have f2 := hbp.frozen (i := 2)
                  have y0 := hbp.cell (i := 0) rfl
                  have y1 := hbp.cell (i := 1) rfl
                  have y2 := hbp.cell (i := 2) rfl
                  clear hbp
                  have HCX := Lib.hid hc; clear hc
                  have HRX := Lib.hid hrg7; clear hrg7
                  have HBX := Lib.hid hb7; clear hb7
                  go_upto_region 4 with fail
                  refine wp_alw ?_
                  intro W12 hW9
                  have hst := HS.out.put HCX.out HRX.out hfr hW9
                  clear hW9 x0 x1 x2 y0 y1 y2 f0 f1 f2 HRX HBX
                  have HS12 := Lib.hid hst; clear hst
                  go_wp2_with fail
                  go_roundw
                  case rel => exact ⟨j + 1, rb7, cap7, by omega, by go_num, by rw [HEN2.out], by rw [HEN2.out]; exact HS12.out⟩
                  case measure => simp [intOf]; omega
          · have HEN2 := Lib.hid (HEN.out.trans (if_neg hjl))
            have hj1 : ¬ (j : Int) < (n : Int) - 1 := by omega
            go_wp2_with fail
            go_roundw
            case rel => exact ⟨j + 1, rb4, cap4, by omega, by go_num, by rw [HEN2.out], by rw [HEN2.out]; exact HS.out⟩
            case measure => simp [intOf]; omega
    · have hall : Z.take j = Z := List.take_of_length_le (by rw [HZL.out]; omega)
      rw [hall] at hst ho
      obtain ⟨⟨⟨G2, q2⟩, l2, c⟩, hES⟩ : ∃ ES, ES = E Z := ⟨_, rfl⟩
      rw [← hES] at hst ho
      simp only at hst ho
      subst ho
      have HES := Lib.hid hES; clear hES
      obtain ⟨na, nc, rfl⟩ := row.shape hst.rw
      have y0 := hst.b4.cell (i := 0) rfl
      have y1 := hst.b4.cell (i := 1) rfl
      have y2 := hst.b4.cell (i := 2) rfl
      have v0 := hst.b8.cell (i := 0) rfl
      have v1 := hst.b8.cell (i := 1) rfl
      have v2 := hst.b8.cell (i := 2) rfl
      have g0 := hst.b8.frozen (i := 0)
      have g1 := hst.b8.frozen (i := 1)
      have g2 := hst.b8.frozen (i := 2)
      have hl8 := hst.b8.lt
      have HST := Lib.hid hst; clear hst
      go_wp2_with fail
      refine bodyPost_ret (v := .tuple #[.agg #[.int .i64 G2.most, .slice (some ⟨rbk, 0, none⟩) G2.nodes.length capk, .int .i64 q2], .slice na l2.length nc]) (by simp [results, Tryz.results349, go_sem, v0, v1, v2]) rfl ?_
      show LTo w rb ((E Z).1, (E Z).2.1) _ _
      rw [← HES.out]
      exact HST.out.fin rfl
end
end Go.Proofs.YtehljgigebhddaaGreat
namespace Go.Proofs.YtehljgigebhddaaGreat
open Go.RowKit Go.Mem Go.Aig
section
variable {w : World} {rb cap : Nat} {G : Gra}
set_option maxRecDepth 100000 in
set_option maxHeartbeats 4000000 in
theorem r23AddQ_is (h : RG w rb cap G) {qe : Nat} (hqe : qe = 0 ∨ qe = 201) {xa ya : Option Addr} {X Y : List Nat} (n xc yc : Nat) (hX : Sl w xa (natInts X)) (hY : Sl w ya (natInts Y)) (hn : X.length = n) (hm : Y.length = n) (hn0 : n ≤ 1000) (hxr : ∀ r ∈ X, r < 2 * G.nodes.length) (hyr : ∀ r ∈ Y, r < 2 * G.nodes.length) :
    Calls Tryz.prog 337 #[.agg #[.int .i64 G.most, .slice (some ⟨rb, 0, none⟩) G.nodes.length cap, .int .i64 qe], .slice xa n xc, .slice ya n yc] w (LTo w rb (sumW n (G, qe) (X.zip Y) 0)) := by
  have hpos := h.ok.wf.pos
  have hS := fun (W : World) (hW : Ch [] w W) => r23SumQ_is (h.ch hW (by simp)) hqe n xc yc (hX.ch hW (by simp)) (hY.ch hW (by simp)) hn hm hn0 hxr hyr (c0 := 0) (by omega)
  generalize sumW n (G, qe) (X.zip Y) 0 = R at *
  obtain ⟨⟨G1, q1⟩, l1⟩ := R
  have HS := Lib.hid hS; clear hS
  have H := Lib.hid h; clear h hX hY hn hm hxr hyr
  go_enter Tryz.func337, Tryz.ntmps337
  go_wp2_with fail
  refine calls_named fun W hW => ?_
  have hst := RSt.start H.out hW rfl
  clear hW
  refine (HS.out W hst.ch).mono ?_
  rintro e w1 ⟨rb', cap', a, c, rfl, hrg, hch, hfr, hrow, hown⟩
  have b8 := hst.b8.ch hch (by simp)
  have z0 := b8.cell (i := 0) rfl
  have z1 := b8.cell (i := 1) rfl
  have z2 := b8.cell (i := 2) rfl
  have f0 := b8.frozen (i := 0)
  have f1 := b8.frozen (i := 1)
  have f2 := b8.frozen (i := 2)
  have hl8 := b8.lt
  have HST := Lib.hid hst; clear hst b8
  have HRG := Lib.hid hrg; clear hrg
  have HCH := Lib.hid hch; clear hch
  have HROW := Lib.hid hrow; clear hrow
  have HOWN := Lib.hid hown; clear hown
  go_wp2_with fail
  refine bodyPost_ret (v := .tuple #[.agg #[.int .i64 G1.most, .slice (some ⟨rb', 0, none⟩) G1.nodes.length cap', .int .i64 q1], .slice a l1.length c]) (by simp [results, Tryz.results337, go_sem, z0, z1, z2]) rfl ?_
  exact HST.out.outL (R := ((G1, q1), l1)) HRG.out HCH.out hfr HROW.out HOWN.out rfl
set_option maxRecDepth 100000 in
set_option maxHeartbeats 4000000 in
theorem r23SubQ_is (h : RG w rb cap G) {qe : Nat} (hqe : qe = 0 ∨ qe = 201) {xa ya : Option Addr} {X Y : List Nat} (n xc yc : Nat) (hX : Sl w xa (natInts X)) (hY : Sl w ya (natInts Y)) (hn : X.length = n) (hm : Y.length = n) (hn0 : n ≤ 1000) (hxr : ∀ r ∈ X, r < 2 * G.nodes.length) (hyr : ∀ r ∈ Y, r < 2 * G.nodes.length) :
    Calls Tryz.prog 339 #[.agg #[.int .i64 G.most, .slice (some ⟨rb, 0, none⟩) G.nodes.length cap, .int .i64 qe], .slice xa n xc, .slice ya n yc] w (LTo w rb (subW n (G, qe) X Y)) := by
  have hpos := h.ok.wf.pos
  have hsm := h.ok.small
  have hN := fun (W : World) (hW : Ch [] w W) => r23Not_is n yc hm (by omega) (hY.ch hW (by simp)) (fun r hr => by have := hyr r hr; omega)
  have hS := fun (W : World) (hW : Ch [] w W) (za : Option Addr) (zc : Nat) (hZ : Sl W za (natInts (Y.map neg))) => r23SumQ_is (h.ch hW (by simp)) hqe n xc zc (hX.ch hW (by simp)) hZ hn (by simp [hm]) hn0 hxr (fun r hr => by obtain ⟨z, hz, rfl⟩ := List.mem_map.1 hr; exact neg_lt (hyr z hz)) (c0 := 1) (by omega)
  unfold subW
  generalize sumW n (G, qe) (X.zip (Y.map neg)) 1 = R at *
  obtain ⟨⟨G1, q1⟩, l1⟩ := R
  have HN := Lib.hid hN; clear hN
  have HS := Lib.hid hS; clear hS
  have H := Lib.hid h; clear h hX hY hn hm hxr hyr
  go_enter Tryz.func339, Tryz.ntmps339
  go_upto_region 1 with fail
  refine wp_alw ?_
  intro W hW
  have hst := RSt.start H.out hW rfl
  clear hW
  have HST := Lib.hid hst; clear hst
  have hcur0 := (Ch.refl [] W).drew
  refine Ord.St.door (fun w' => Ch [] W w') [.ho, .fl, .fl, .ef, .ef, .fl, .fl, .ef, .fl] [0, 0, 0, 4, 15, 31, 31, 127, 255] [0, 1, 2, 3, 4, 5, 6, 7, 8] mixed (by kernel_rfl) rfl ?_
  refine Ord.St.ho2 (T' := ?_) 0 [1, 2, 3, 4, 5, 6, 7, 8] _ _ rfl (by kernel_rfl) rfl rfl rfl rfl ?_ (fun K w' hw' hk => ?_) ?_
  rotate_left
  · exact hcur0
  · have hb4 := (HST.out.same hw').b4; have y0 := hb4.cell (i := 0) rfl; have y1 := hb4.cell (i := 1) rfl; have y2 := hb4.cell (i := 2) rfl; go_step; exact hk
  refine Ord.St.fl2 (T' := ?_) 1 [2, 3, 4, 5, 6, 7, 8] _ _ rfl (by kernel_rfl) rfl rfl rfl rfl (fun K w' hk => ?_) ?_
  rotate_left
  · go_step; exact hk
  refine Ord.St.fl2 (T' := ?_) 2 [3, 4, 5, 6, 7, 8] _ _ rfl (by kernel_rfl) rfl rfl rfl rfl (fun K w' hk => ?_) ?_
  rotate_left
  · go_step; exact hk
  refine Ord.St.efC 3 [4, 5, 6, 7, 8] _ rfl (by kernel_rfl) (fun K hK => ?_)
  go_wp2_with fail
  refine (HN.out _ (HST.out.ch.trans hcur0 (by simp))).mono ?_
  rintro e w2 ⟨v, rfl, hro, hlo, hc2⟩
  have hcur : Ch [] W w2 := hcur0.trans hc2 (by simp)
  obtain ⟨na, nc, rfl⟩ := row.shape hro
  have hsl := Sl.of_ints hro (by omega)
  have HSL := Lib.hid hsl; clear hsl hro hlo hc2
  go_wp2_with fail
  refine ⟨rfl, hK _ _ ?_ ?_⟩
  · exact hcur
  clear hK K
  refine Ord.St.ef 4 [5, 6, 7, 8] _ rfl (by kernel_rfl) (fun K hK => ?_)
  go_wp2_with fail
  refine (HS.out _ (HST.out.ch.trans hcur (by simp)) na nc HSL.out).mono ?_
  rintro e w1 ⟨rb', cap', a, c, rfl, hrg, hch, hfr, hrow, hown⟩
  have b8 := (HST.out.b8.ch hcur (by simp)).ch hch (by simp)
  have z0 := b8.cell (i := 0) rfl
  have z1 := b8.cell (i := 1) rfl
  have z2 := b8.cell (i := 2) rfl
  have f0 := b8.frozen (i := 0)
  have f1 := b8.frozen (i := 1)
  have f2 := b8.frozen (i := 2)
  have hl8 := b8.lt
  have hzz := hcur.size
  have HRG := Lib.hid hrg; clear hrg b8
  have HCH := Lib.hid (hcur.trans hch (by simp)); clear hch
  have HROW := Lib.hid hrow; clear hrow
  have HOWN := Lib.hid hown; clear hown
  go_wp2_with fail
  refine ⟨rfl, hK _ _ ?_⟩; clear hK K
  refine Ord.St.fl2 (T' := ?_) 5 [6, 7, 8] _ _ rfl (by kernel_rfl) rfl rfl rfl rfl (fun K w' hk => ?_) ?_
  rotate_left
  · go_step; exact hk
  refine Ord.St.fl2 (T' := ?_) 6 [7, 8] _ _ rfl (by kernel_rfl) rfl rfl rfl rfl (fun K w' hk => ?_) ?_
  rotate_left
  · go_step; exact hk
  refine Ord.St.ef 7 [8] _ rfl (by kernel_rfl) (fun K hK => ?_)
  go_wp2_with fail
  refine ⟨rfl, hK _ _ ?_⟩; clear hK K
  refine Ord.St.fl2 (T' := ?_) 8 [] _ _ rfl (by kernel_rfl) rfl rfl rfl rfl (fun K w' hk => ?_) ?_
  rotate_left
  · go_step; exact hk
  refine Ord.St.nil ?_
  go_wp2_with fail
  refine bodyPost_ret (v := .tuple #[.agg #[.int .i64 G1.most, .slice (some ⟨rb', 0, none⟩) G1.nodes.length cap', .int .i64 q1], .slice a l1.length c]) (by simp [results, Tryz.results339, go_sem, z0, z1, z2]) rfl ?_
  exact HST.out.outL (R := ((G1, q1), l1)) HRG.out HCH.out (by omega) HROW.out (fun q hq => by have := HOWN.out q hq; omega) rfl
set_option maxRecDepth 100000 in
set_option maxHeartbeats 4000000 in
theorem r23LeQ_is (h : RG w rb cap G) {qe : Nat} (hqe : qe = 0 ∨ qe = 201) {xa ya : Option Addr} {X Y : List Nat} (n xc yc : Nat) (hX : Sl w xa (natInts X)) (hY : Sl w ya (natInts Y)) (hn : X.length = n) (hm : Y.length = n) (hn0 : n ≤ 1000) (hxr : ∀ r ∈ X, r < 2 * G.nodes.length) (hyr : ∀ r ∈ Y, r < 2 * G.nodes.length) (hp : (ltF (G, qe) (Y.zip X)).2 ≤ 1000000) :
    Calls Tryz.prog 338 #[.agg #[.int .i64 G.most, .slice (some ⟨rb, 0, none⟩) G.nodes.length cap, .int .i64 qe], .slice xa n xc, .slice ya n yc] w (STo w rb (negS (ltF (G, qe) (Y.zip X)))) := by
  have hS := fun (W : World) (hW : Ch [] w W) => r23LtQ_is (h.ch hW (by simp)) hqe n yc xc (hY.ch hW (by simp)) (hX.ch hW (by simp)) hm hn hn0 hyr hxr
  unfold negS
  generalize ltF (G, qe) (Y.zip X) = R at *
  obtain ⟨⟨G1, q1⟩, p1⟩ := R
  simp only at hp
  have hN := fun (W : World) => rNot_is W p1 (by omega)
  have HN := Lib.hid hN; clear hN
  have HS := Lib.hid hS; clear hS
  have H := Lib.hid h; clear h hX hY hn hm hxr hyr
  go_enter Tryz.func338, Tryz.ntmps338
  go_wp2_with fail
  refine calls_named fun W hW => ?_
  have hst := RSt.start H.out hW rfl
  clear hW
  refine (HS.out W hst.ch).mono ?_
  rintro e w1 ⟨rb', cap', rfl, hrg, hch, hfr⟩
  have HST := Lib.hid hst; clear hst
  have HRG := Lib.hid hrg; clear hrg
  have HCH := Lib.hid hch; clear hch
  go_upto_region 2 with fail
  refine wp_alw ?_
  intro W8 hW8
  have hb8 : blk W8 w1.heap.size [.int .i64 G1.most, .slice (some ⟨rb', 0, none⟩) G1.nodes.length cap', .int .i64 q1] := by rw [hW8]; exact blk.new' _ _ rfl
  have hcA : Ch [] w1 W8 := by rw [hW8]; exact (Ch.refl _ _).alloc _
  have hc8 : Ch [] W W8 := HCH.out.trans hcA (by simp)
  have hrg8 := HRG.out.ch hcA (by simp)
  clear hW8 HRG hcA
  have x0 := hb8.cell (i := 0) rfl
  have x1 := hb8.cell (i := 1) rfl
  have x2 := hb8.cell (i := 2) rfl
  have b8 := HST.out.b8.ch hc8 (by simp)
  have z0 := b8.cell (i := 0) rfl
  have z1 := b8.cell (i := 1) rfl
  have z2 := b8.cell (i := 2) rfl
  have f0 := b8.frozen (i := 0)
  have f1 := b8.frozen (i := 1)
  have f2 := b8.frozen (i := 2)
  have hl8 := b8.lt
  have HRG2 := Lib.hid hrg8; clear hrg8 b8 hb8
  have HC9 := Lib.hid hc8; clear hc8
  go_wp2_with fail
  refine Ord.St.door (fun _ => True) [.rd, .fl, .fl, .ef, .fl] [0, 0, 2, 7, 15] [0, 1, 2, 3, 4] mixed (by kernel_rfl) rfl ?_
  refine Ord.St.rd2 (T' := ?_) 0 [1, 2, 3, 4] _ _ rfl (by kernel_rfl) rfl rfl rfl rfl (fun K hk => ?_) ?_
  rotate_left
  · go_step; exact hk
  refine Ord.St.fl2 (T' := ?_) 1 [2, 3, 4] _ _ rfl (by kernel_rfl) rfl rfl rfl rfl (fun K w' hk => ?_) ?_
  rotate_left
  · go_step; exact hk
  refine Ord.St.fl2 (T' := ?_) 2 [3, 4] _ _ rfl (by kernel_rfl) rfl rfl rfl rfl (fun K w' hk => ?_) ?_
  rotate_left
  · go_step; refine (HN.out _).mono ?_; rintro e w'' ⟨rfl, rfl⟩; exact hk
  refine Ord.St.ef 3 [4] _ rfl (by kernel_rfl) (fun K hK => ?_)
  go_wp2_with fail
  refine ⟨rfl, hK _ _ ?_⟩; clear hK K
  refine Ord.St.fl2 (T' := ?_) 4 [] _ _ rfl (by kernel_rfl) rfl rfl rfl rfl (fun K w' hk => ?_) ?_
  rotate_left
  · go_step; exact hk
  refine Ord.St.nil ?_
  go_wp2_with fail
  refine bodyPost_ret (v := .tuple #[.agg #[.int .i64 G1.most, .slice (some ⟨rb', 0, none⟩) G1.nodes.length cap', .int .i64 q1], .int .i64 (neg p1 : Nat)]) (by simp [results, Tryz.results338, go_sem, z0, z1, z2]) rfl ?_
  exact HST.out.outS (R := ((G1, q1), neg p1)) (HRG2.out.ch (Ch.refl [] _).drew (by simp)) HC9.out.drew hfr rfl
end
end Go.Proofs.YtehljgigebhddaaGreat
namespace Go.Aig
/-- the products of one bit, the first j places -/
def rowA (s : Mk) (b : Nat) (x : List Nat) (k j : Nat) : Mk × List Nat := ((andsF s b (x.take (j - k))).1, List.replicate (min j k) 0 ++ (andsF s b (x.take (j - k))).2)
theorem rowA_zero (s : Mk) (b : Nat) (x : List Nat) (k : Nat) : rowA s b x k 0 = (s, []) := by
  unfold rowA
  rw [Nat.zero_sub, List.take_zero, Nat.zero_min]
  rfl
theorem rowA_low (s : Mk) (b : Nat) (x : List Nat) {k j : Nat} (h : j < k) : rowA s b x k (j + 1) = ((rowA s b x k j).1, (rowA s b x k j).2 ++ [0]) := by
  unfold rowA
  rw [show j + 1 - k = 0 by omega, show j - k = 0 by omega, List.take_zero, Nat.min_eq_left (by omega), Nat.min_eq_left (by omega)]
  show ((andsF s b []).1, List.replicate (j + 1) 0 ++ []) = ((andsF s b []).1, (List.replicate j 0 ++ []) ++ [0])
  rw [List.append_nil, List.append_nil, List.replicate_succ']
theorem rowA_high (s : Mk) (b : Nat) (x : List Nat) {k j a : Nat} (h : k ≤ j) (ha : x[j - k]? = some a) : rowA s b x k (j + 1) = ((rstep (rowA s b x k j).1 (and (rowA s b x k j).1.1 a b)).1, (rowA s b x k j).2 ++ [(rstep (rowA s b x k j).1 (and (rowA s b x k j).1.1 a b)).2]) := by
  unfold rowA
  rw [show j + 1 - k = (j - k) + 1 by omega, List.take_add_one, ha, Option.toList_some, andsF_snoc, Nat.min_eq_right (by omega), Nat.min_eq_right h]
  unfold eachS rop
  simp only [List.append_assoc]
theorem rowA_len (s : Mk) (b : Nat) (x : List Nat) {k j : Nat} (h : j - k ≤ x.length) : (rowA s b x k j).2.length = j := by
  unfold rowA
  simp only [List.length_append, List.length_replicate, andsF_len, List.length_take]
  omega
theorem rmS_row (x : List Nat) (q : Mk × List Nat) (b : Nat) {k : Nat} (hk : k ≤ x.length) : rmS x q (b, k) = if k = 0 then rowA q.1 b x k x.length else sumW x.length (rowA q.1 b x k x.length).1 (q.2.zip (rowA q.1 b x k x.length).2) 0 := by
  unfold rmS rowA
  simp only [Nat.min_eq_right hk]
theorem rowA_ok {G : Gra} {s : Mk} (hs : SOk G s) {b : Nat} {x : List Nat} (hb : b < 2 * s.1.nodes.length) (hx : ∀ r ∈ x, r < 2 * s.1.nodes.length) (k j : Nat) : LOk s.1 (rowA s b x k j) := by
  have h := eachF_sok' hs full_and ((x.take (j - k)).map fun a => (a, b)) (fun p hp => by
    obtain ⟨r, hr, rfl⟩ := List.mem_map.1 hp
    exact ⟨hx r (List.mem_of_mem_take hr), hb⟩)
  refine ⟨h.s, fun r hr => ?_⟩
  unfold rowA at hr ⊢
  rcases List.mem_append.1 hr with hr | hr
  · rw [List.mem_replicate] at hr
    have := h.s.ok.wf.pos
    show r < 2 * (andsF s b (x.take (j - k))).1.1.nodes.length
    unfold andsF
    omega
  · exact h.lt r hr
end Go.Aig
namespace Go.Proofs.YtehljgigebhddaaGreat
open Go.RowKit Go.Mem Go.Aig
section
variable {w W W' : World} {rb0 rb cap : Nat} {s : Mk} {v v' : Value} {l l' : List Nat}
/-- another word in the place of the one that is made -/
theorem RSt.word (h : RSt w W rb0 rb cap s v l) (hr : row W 3 1 v' l'.length (intCells (natInts l'))) (ho : ∀ q, v'.ownBlock = some q → w.heap.size + 2 ≤ q ∧ q ≠ rb) : RSt w W rb0 rb cap s v' l' :=
  ⟨h.ch, h.rg, h.fr, h.b4, h.b8, hr, ho, h.low⟩
theorem RSt.noWord (h : RSt w W rb0 rb cap s v l) : RSt w W rb0 rb cap s (.slice none 0 0) [] := h.word ⟨rfl, .inl ⟨rfl, rfl⟩⟩ (by simp [Value.ownBlock])
/-- the state, the word that is made, and another word that is kept -/
structure RS2 (w W : World) (rb0 rb cap : Nat) (s : Mk) (v : Value) (l : List Nat) (ov : Value) (lo : List Nat) : Prop where
  st : RSt w W rb0 rb cap s v l
  ow : row W 3 1 ov lo.length (intCells (natInts lo))
  own : ∀ q, ov.ownBlock = some q → w.heap.size + 2 ≤ q ∧ q ≠ rb ∧ v.ownBlock ≠ some q
theorem RSt.two (h : RSt w W rb0 rb cap s v l) : RS2 w W rb0 rb cap s (.slice none 0 0) [] v l := ⟨h.noWord, h.rw, fun q hq => ⟨(h.own q hq).1, (h.own q hq).2, by simp [Value.ownBlock]⟩⟩
variable {ov : Value} {lo : List Nat}
theorem RS2.same (h : RS2 w W rb0 rb cap s v l ov lo) (hc : Ch [] W W') : RS2 w W' rb0 rb cap s v l ov lo := ⟨h.st.same hc, h.ow.ch hc (by simp), h.own⟩
theorem RS2.put {Wb : World} {rb' cap' q' : Nat} {G' : Gra} (h : RS2 w Wb rb0 rb cap s v l ov lo) (hc : Ch [] Wb W) (hr : RG W rb' cap' G') (hf : rb' = rb ∨ Wb.heap.size ≤ rb')
    (hW : W' = ((W.setCell ⟨w.heap.size, 0, none⟩ (.int .i64 G'.most)).setCell ⟨w.heap.size, 1, none⟩ (.slice (some ⟨rb', 0, none⟩) G'.nodes.length cap')).setCell ⟨w.heap.size, 2, none⟩ (.int .i64 q')) : RS2 w W' rb0 rb' cap' (G', q') v l ov lo := by
  have hcs := set3_ch hW
  refine ⟨h.st.put hc hr hf hW, (h.ow.ch hc (by simp)).ch hcs (fun k hk => by have := (h.own k hk).1; simp; omega), fun q hq => ?_⟩
  obtain ⟨h1, h2, h3⟩ := h.own q hq
  have h4 := (h.ow.lt q hq).2
  exact ⟨h1, by rcases hf with e | e <;> omega, h3⟩
theorem RS2.app {na : Option Addr} {nc r : Nat} {o : Obj} {wz : World} (h : RS2 w W rb0 rb cap s (.slice na l.length nc) l ov lo) (hrow : row wz 3 1 v' (l.length + 1) (intCells (natInts l) ++ [.int .i64 r]))
    (hc : Ch (Value.slice na l.length nc).ownBlock.toList (W.alloc o) wz) (hf : ∀ k, v'.ownBlock = some k → (Value.slice na l.length nc).ownBlock = some k ∨ (W.alloc o).heap.size ≤ k) : RS2 w wz rb0 rb cap s v' (l ++ [r]) ov lo := by
  have hcA : Ch [] W (W.alloc o) := (Ch.refl _ _).alloc _
  refine ⟨h.st.app hrow hc hf, (h.ow.ch hcA (by simp)).ch hc (fun k hk hin => (h.own k hk).2.2 (by simpa using hin)), fun q hq => ?_⟩
  obtain ⟨h1, h2, h3⟩ := h.own q hq
  have h4 := (h.ow.lt q hq).2
  have h5 := hcA.size
  refine ⟨h1, h2, fun e => ?_⟩
  rcases hf q e with e | e
  · exact h3 e
  · omega
end
end Go.Proofs.YtehljgigebhddaaGreat
namespace Go.Aig
theorem sumF_lokQ {G : Gra} (hG : Ok G) {q0 : Nat} (hq0 : q0 = 0 ∨ q0 = 201) (n : Nat) (l : List (Nat × Nat)) (hl : ∀ p ∈ l, p.1 < 2 * G.nodes.length ∧ p.2 < 2 * G.nodes.length) {c : Nat} (hc : c < 2 * G.nodes.length) : LOk G (sumW n (G, q0) l c) := by
  have : ∀ (l : List (Nat × Nat)) (q : Mk × List Nat × Nat), LOk G (q.1, q.2.1) → q.2.2 < 2 * q.1.1.nodes.length → (∀ p ∈ l, p.1 < 2 * G.nodes.length ∧ p.2 < 2 * G.nodes.length) → LOk G ((l.foldl (sumS n) q).1, (l.foldl (sumS n) q).2.1) := by
    intro l
    induction l with
    | nil => intro q h _ _; exact h
    | cons p l ih =>
      intro q h hq hl
      have hp := hl p (by simp)
      obtain ⟨h1, h2, h3⟩ := rstep_sok h.s (Y := rXor q.1.1 p.1 p.2) (fun _ => rXor_full h.s.ok (h.s.ext.lt hp.1) (h.s.ext.lt hp.2))
      obtain ⟨k1, k2, k3⟩ := rstep_sok h1 (Y := rXor (sXor q.1 p.1 p.2).1.1 (sXor q.1 p.1 p.2).2 q.2.2) (fun _ => rXor_full h1.ok h2 (h3.lt hq))
      have hl2 : ∀ p ∈ l, p.1 < 2 * G.nodes.length ∧ p.2 < 2 * G.nodes.length := fun p hp => hl p (by simp [hp])
      rw [List.foldl_cons]
      unfold sumS
      dsimp only
      split
      · obtain ⟨a1, a2, a3⟩ := rstep_sok k1 (Y := and (sXor (sXor q.1 p.1 p.2).1 (sXor q.1 p.1 p.2).2 q.2.2).1.1 p.1 p.2) (fun _ => and_full k1.ok (k1.ext.lt hp.1) (k1.ext.lt hp.2))
        obtain ⟨b1, b2, b3⟩ := rstep_sok a1 (Y := and (sAnd (sXor (sXor q.1 p.1 p.2).1 (sXor q.1 p.1 p.2).2 q.2.2).1 p.1 p.2).1.1 (sXor q.1 p.1 p.2).2 q.2.2) (fun _ => and_full a1.ok (a3.lt (k3.lt h2)) (a3.lt (k3.lt (h3.lt hq))))
        obtain ⟨c1, c2, c3⟩ := rstep_sok b1 (Y := rOr (sAnd (sAnd (sXor (sXor q.1 p.1 p.2).1 (sXor q.1 p.1 p.2).2 q.2.2).1 p.1 p.2).1 (sXor q.1 p.1 p.2).2 q.2.2).1.1 (sAnd (sXor (sXor q.1 p.1 p.2).1 (sXor q.1 p.1 p.2).2 q.2.2).1 p.1 p.2).2 (sAnd (sAnd (sXor (sXor q.1 p.1 p.2).1 (sXor q.1 p.1 p.2).2 q.2.2).1 p.1 p.2).1 (sXor q.1 p.1 p.2).2 q.2.2).2) (fun _ => rOr_full b1.ok (b3.lt a2) b2)
        exact ih _ (h.snoc c1 ((((h3.trans k3).trans a3).trans b3).trans c3) (((a3.trans b3).trans c3).lt k2)) c2 hl2
      · exact ih _ (h.snoc k1 (h3.trans k3) k2) (k3.lt (h3.lt hq)) hl2
  exact this l _ ⟨⟨hG, .refl _, hq0⟩, by simp⟩ hc hl
theorem rmF_ok {G : Gra} (hG : Ok G) {x : List Nat} (hx : ∀ r ∈ x, r < 2 * G.nodes.length) : ∀ y : List Nat, (∀ r ∈ y, r < 2 * G.nodes.length) → y.length ≤ x.length → LOk G (rmF x (G, 0) y) := by
  intro y
  induction y using List.snocRec with
  | nil => intro _ _; exact ⟨.start hG, by simp [rmF]⟩
  | snoc y b ih =>
    intro hy hl
    rw [List.length_append] at hl
    simp at hl
    have ih := ih (fun r hr => hy r (by simp [hr])) (by omega)
    rw [rmF_snoc, rmS_row _ _ _ (by omega)]
    have hA := rowA_ok (k := y.length) (j := x.length) ih.s (b := b) (x := x) (ih.s.ext.lt (hy b (by simp))) (fun r hr => ih.s.ext.lt (hx r hr))
    have hA2 : SOk G (rowA (rmF x (G, 0) y).1 b x y.length x.length).1 := ⟨hA.s.ok, ih.s.ext.trans hA.s.ext, hA.s.err⟩
    split
    · exact ⟨hA2, hA.lt⟩
    · have := sumF_lokQ hA.s.ok hA.s.err x.length ((rmF x (G, 0) y).2.zip (rowA (rmF x (G, 0) y).1 b x y.length x.length).2) (fun p hp => ⟨hA.s.ext.lt (ih.lt _ (List.of_mem_zip hp).1), hA.lt _ (List.of_mem_zip hp).2⟩) (c := 0) (by have := hA.s.ok.wf.pos; omega)
      exact ⟨⟨this.s.ok, hA2.ext.trans this.s.ext, this.s.err⟩, this.lt⟩
end Go.Aig
namespace Go.Proofs.YtehljgigebhddaaGreat
open Go.RowKit Go.Mem Go.Aig
section
variable {w : World}
set_option maxRecDepth 100000 in
set_option maxHeartbeats 16000000 in
theorem r24Mul_is {rb cap : Nat} {G : Gra} (h : RG w rb cap G) {xa ya : Option Addr} {X Y : List Nat} (n xc yc : Nat) (hX : Sl w xa (natInts X)) (hY : Sl w ya (natInts Y)) (hn : X.length = n) (hm : Y.length = n) (hn0 : n ≤ 1000) (hxr : ∀ r ∈ X, r < 2 * G.nodes.length) (hyr : ∀ r ∈ Y, r < 2 * G.nodes.length) :
    Calls Tryz.prog 300 #[.agg #[.int .i64 G.most, .slice (some ⟨rb, 0, none⟩) G.nodes.length cap, .int .i64 0], .slice xa n xc, .slice ya n yc] w (LTo w rb (rmF X (G, 0) Y)) := by
  have hok := h.ok
  have hElok := fun k (hk : k ≤ n) => rmF_ok hok hxr (Y.take k) (fun r hr => hyr r (List.mem_of_mem_take hr)) (by rw [List.length_take]; omega)
  have hElen := fun k (h1 : 1 ≤ k) (h2 : k ≤ n) => rmF_len (x := X) (G, 0) (Y.take k) (by rw [List.length_take]; omega) (by rw [List.length_take]; omega)
  have hEsn := fun k b (hb : Y[k]? = some b) => by
    have hl := (List.getElem?_eq_some_iff.1 hb).1
    have e : rmF X (G, 0) (Y.take (k + 1)) = rmS X (rmF X (G, 0) (Y.take k)) (b, k) := by
      rw [List.take_add_one, hb, Option.toList_some, rmF_snoc, List.length_take, Nat.min_eq_left (by omega)]
    rw [rmS_row _ _ _ (by omega)] at e
    exact e
  have HX := Lib.hid hX; clear hX
  have HY := Lib.hid hY; clear hY
  have H := Lib.hid h; clear h
  have HELOK := Lib.hid hElok; clear hElok
  have HELEN := Lib.hid hElen; clear hElen
  have HESN := Lib.hid hEsn; clear hEsn
  have HN := Lib.hid hn
  have HM0 := Lib.hid hm
  have HXR := Lib.hid hxr; clear hxr
  have HYR := Lib.hid hyr; clear hyr
  clear hn hm
  go_enter Tryz.func300, Tryz.ntmps300
  go_wp2_with fail
  refine wp_alw ?_
  intro W0 hW0
  have hst := RSt.start H.out hW0 rfl
  clear hW0
  have HST := Lib.hid hst; clear hst
  go_loopw [8, 9] (fun o i wr => ∃ (k rbk capk : Nat), k ≤ n ∧ i = .int .i64 k ∧ RSt w wr rb rbk capk (rmF X (G, 0) (Y.take k)).1 o (rmF X (G, 0) (Y.take k)).2) (fun _ i _ => n - (intOf i).toNat)
  case atStart => exact ⟨0, rb, cap, by omega, rfl, HST.out⟩
  case round =>
    clear HST
    obtain ⟨k, rbk, capk, hk, rfl, hst⟩ := hrel
    by_cases hkn : k < n
    · obtain ⟨b, hb⟩ : ∃ b, Y[k]? = some b := ⟨_, List.getElem?_eq_getElem (by rw [HM0.out]; exact hkn)⟩
      have hbr := HYR.out b (List.mem_of_getElem? hb)
      have hes := HESN.out k b hb
      have hlk := HELOK.out k hk
      have hll := HELEN.out k
      generalize hEE : rmF X (G, 0) (Y.take (k + 1)) = EN at hes
      generalize rmF X (G, 0) (Y.take k) = ES at hes hlk hst hll
      obtain ⟨⟨G2, q2⟩, lo⟩ := ES
      simp only at hst hes hll
      have hsl := hlk.s
      simp only at hsl
      have hRok := fun j => rowA_ok (s := (G2, q2)) ⟨hsl.ok, .refl _, hsl.err⟩ (b := b) (x := X) (hsl.ext.lt hbr) (fun r hr => hsl.ext.lt (HXR.out r hr)) k j
      have hb2 := hsl.ext.lt hbr
      have HSE := Lib.hid hsl.ext
      have hlo := hlk.lt
      simp only at hRok hb2 hlo
      obtain ⟨oa, oc, rfl⟩ := row.shape hst.rw
      have HS0 := Lib.hid hst.two; clear hst
      have HROK := Lib.hid hRok; clear hRok
      have HEE := Lib.hid hEE; clear hEE
      have HES := Lib.hid hes; clear hes
      have HLL := Lib.hid hll; clear hll
      have HLO := Lib.hid hlo; clear hlo hlk
      have HB := Lib.hid hb; clear hb
      go_wp2_with fail
      go_loopw [10, 11] (fun p i wq => ∃ (j rbj capj : Nat), j ≤ n ∧ i = .int .i64 j ∧ RS2 w wq rb rbj capj (rowA (G2, q2) b X k j).1 p (rowA (G2, q2) b X k j).2 (.slice oa lo.length oc) lo) (fun _ i _ => n - (intOf i).toNat)
      case atStart => exact ⟨0, rbk, capk, by omega, rfl, by rw [rowA_zero]; exact HS0.out⟩
      case round =>
        clear HS0
        obtain ⟨j, rbj, capj, hj, rfl, hs⟩ := hrel
        by_cases hjn : j < n
        · by_cases hkj : k ≤ j
          · obtain ⟨jk, hjk⟩ : ∃ jk, jk = j - k := ⟨_, rfl⟩
            obtain ⟨a, ha⟩ : ∃ a, X[jk]? = some a := ⟨_, List.getElem?_eq_getElem (by rw [HN.out]; omega)⟩
            have har := HXR.out a (List.mem_of_getElem? ha)
            have hrw := rowA_high (G2, q2) b X hkj (by rw [← hjk]; exact ha)
            have hok2 := HROK.out j
            have hlen := rowA_len (G2, q2) b X (k := k) (j := j) (by rw [HN.out]; omega)
            generalize hAA : rowA (G2, q2) b X k (j + 1) = AN at hrw
            generalize rowA (G2, q2) b X k j = AS at hrw hok2 hs hlen
            obtain ⟨⟨G3, q3⟩, lp⟩ := AS
            simp only at hs hrw hlen
            have ha3 : a < 2 * G3.nodes.length := hok2.s.ext.lt (HSE.out.lt har)
            have hb3 : b < 2 * G3.nodes.length := hok2.s.ext.lt hb2
            have hM := fun (W : World) (hW : Ch [] wr W) => r23And_is (q := q3) (hs.st.rg.ch hW (by simp)) ha3 hb3
            obtain ⟨⟨⟨G4, q4⟩, p4⟩, hR⟩ : ∃ R : Mk × Nat, R = rstep (G3, q3) (and G3 a b) := ⟨_, rfl⟩
            simp only [← hR] at hrw hM
            subst hrw
            clear hR hok2 har ha3 hb3
            obtain ⟨ab, ao, ae, ac⟩ := HX.out.cells jk (a : Int) (by simp [natInts, ha])
            obtain ⟨bb, bo, be, bc⟩ := HY.out.cells k (b : Int) (by simp [natInts, HB.out])
            have ha1 : wr.cell? ⟨ab, ao + jk, none⟩ = some (.int .i64 a) := (hs.st.ch.cell (cell_lt ac) (by simp)).trans ac
            have hb1 : wr.cell? ⟨bb, bo + k, none⟩ = some (.int .i64 b) := (hs.st.ch.cell (cell_lt bc) (by simp)).trans bc
            subst ae be
            clear ac bc
            have hsub : (j : Int) - (k : Int) = ((jk : Nat) : Int) := by omega
            have q1 : decide ((k : Int) ≤ (j : Int)) = true := decide_eq_true (by omega)
            have hjkn : jk < n := by omega
            have hrlj := hs.st.rg.lt
            have HJK := Lib.hid hjk; clear hjk
            have HA1 := Lib.hid ha1; clear ha1
            have HB1 := Lib.hid hb1; clear hb1
            have HAA := Lib.hid hAA; clear hAA
            have HM := Lib.hid hM; clear hM
            have HLEN := Lib.hid hlen; clear hlen
            have HS := Lib.hid hs; clear hs ha
            go_upto_region 11 with fail
            go_cut [13, 14] (fun p q wd => TS wr wd rbj ((G4, q4), p4) p q)
            case first =>
              refine Ord.St.door (fun w' => Ch [] wr w') [.ho, .fl, .fl, .fl, .fl, .fl, .ho, .fl, .fl, .fl, .ho, .ef, .fl, .fl, .fl, .ef, .ef, .fl] [0, 0, 0, 0, 12, 30, 62, 0, 0, 384, 896, 2047, 4095, 8191, 8191, 0, 49151, 131071] [0, 1, 2, 3, 4, 5, 6, 7, 8, 9, 10, 11, 12, 13, 14, 15, 16, 17] mixed (by kernel_rfl) rfl ?_
              obtain ⟨Wc, hWc⟩ : ∃ Wc, Wc = wr.drew := ⟨_, rfl⟩
              rw [← hWc]
              have hcur : Ch [] wr Wc := by rw [hWc]; exact (Ch.refl _ _).drew
              clear hWc
              refine Ord.St.ho2 (T' := ?_) 0 [1, 2, 3, 4, 5, 6, 7, 8, 9, 10, 11, 12, 13, 14, 15, 16, 17] _ _ rfl (by kernel_rfl) rfl rfl rfl rfl ?_ (fun K w' hw' hk => ?_) ?_
              rotate_left
              · trivial
              · have hb4 := (HS.out.st.same hw').b4; have y0 := hb4.cell (i := 0) rfl; have y1 := hb4.cell (i := 1) rfl; have y2 := hb4.cell (i := 2) rfl; have a0 := (hw'.cell (cell_lt HA1.out) (by simp)).trans HA1.out; have b0 := (hw'.cell (cell_lt HB1.out) (by simp)).trans HB1.out; clear hb4; go_step; exact hk
              refine Ord.St.fl2 (T' := ?_) 1 [2, 3, 4, 5, 6, 7, 8, 9, 10, 11, 12, 13, 14, 15, 16, 17] _ _ rfl (by kernel_rfl) rfl rfl rfl rfl (fun K w' hk => ?_) ?_
              rotate_left
              · go_step; exact hk
              refine Ord.St.fl2 (T' := ?_) 2 [3, 4, 5, 6, 7, 8, 9, 10, 11, 12, 13, 14, 15, 16, 17] _ _ rfl (by kernel_rfl) rfl rfl rfl rfl (fun K w' hk => ?_) ?_
              rotate_left
              · go_step; exact hk
              refine Ord.St.fl2 (T' := ?_) 3 [4, 5, 6, 7, 8, 9, 10, 11, 12, 13, 14, 15, 16, 17] _ _ rfl (by kernel_rfl) rfl rfl rfl rfl (fun K w' hk => ?_) ?_
              rotate_left
              · go_step; exact hk
              refine Ord.St.fl2 (T' := ?_) 4 [5, 6, 7, 8, 9, 10, 11, 12, 13, 14, 15, 16, 17] _ _ rfl (by kernel_rfl) rfl rfl rfl rfl (fun K w' hk => ?_) ?_
              rotate_left
              · go_step; exact hk
              refine Ord.St.fl2 (T' := ?_) 5 [6, 7, 8, 9, 10, 11, 12, 13, 14, 15, 16, 17] _ _ rfl (by kernel_rfl) rfl rfl rfl rfl (fun K w' hk => ?_) ?_
              rotate_left
              · go_step; exact hk
              refine Ord.St.ho2 (T' := ?_) 6 [7, 8, 9, 10, 11, 12, 13, 14, 15, 16, 17] _ _ rfl (by kernel_rfl) rfl rfl rfl rfl ?_ (fun K w' hw' hk => ?_) ?_
              rotate_left
              · trivial
              · have hb4 := (HS.out.st.same hw').b4; have y0 := hb4.cell (i := 0) rfl; have y1 := hb4.cell (i := 1) rfl; have y2 := hb4.cell (i := 2) rfl; have a0 := (hw'.cell (cell_lt HA1.out) (by simp)).trans HA1.out; have b0 := (hw'.cell (cell_lt HB1.out) (by simp)).trans HB1.out; clear hb4; go_step; exact hk
              refine Ord.St.fl2 (T' := ?_) 7 [8, 9, 10, 11, 12, 13, 14, 15, 16, 17] _ _ rfl (by kernel_rfl) rfl rfl rfl rfl (fun K w' hk => ?_) ?_
              rotate_left
              · go_step; exact hk
              refine Ord.St.fl2 (T' := ?_) 8 [9, 10, 11, 12, 13, 14, 15, 16, 17] _ _ rfl (by kernel_rfl) rfl rfl rfl rfl (fun K w' hk => ?_) ?_
              rotate_left
              · go_step; exact hk
              refine Ord.St.fl2 (T' := ?_) 9 [10, 11, 12, 13, 14, 15, 16, 17] _ _ rfl (by kernel_rfl) rfl rfl rfl rfl (fun K w' hk => ?_) ?_
              rotate_left
              · go_step; exact hk
              refine Ord.St.ho2 (T' := ?_) 10 [11, 12, 13, 14, 15, 16, 17] _ _ rfl (by kernel_rfl) rfl rfl rfl rfl ?_ (fun K w' hw' hk => ?_) ?_
              rotate_left
              · trivial
              · have hb4 := (HS.out.st.same hw').b4; have y0 := hb4.cell (i := 0) rfl; have y1 := hb4.cell (i := 1) rfl; have y2 := hb4.cell (i := 2) rfl; have a0 := (hw'.cell (cell_lt HA1.out) (by simp)).trans HA1.out; have b0 := (hw'.cell (cell_lt HB1.out) (by simp)).trans HB1.out; clear hb4; go_step; exact hk
              refine Ord.St.two 11 15 [12, 13, 14, 15, 16, 17] [11, 12, 13, 14, 16, 17] _ _ (by kernel_rfl) rfl rfl (by kernel_rfl) (by kernel_rfl) (fun K hK => ?_) (fun K hK => ?_)
              · have HA := Lib.hid (HM.out _ hcur)
                go_wp2_with fail
                refine HA.out.mono ?_
                rintro e w7 ⟨rb2, cap2, rfl, hrg2, hch, hfr3⟩
                go_wp2_with fail
                refine ⟨rfl, hK _ _ ?_ ?_⟩
                · exact hcur.trans hch (by simp)
                clear hK K
                try have hne := rto_ne hb9 (by omega) hfr3
                try replace hb9 := hb9.ch hch (by simp)
                have hfr5 : rb2 = rbj ∨ wr.heap.size ≤ rb2 := by have := hcur.size; rcases hfr3 with e | e <;> omega
                replace hcur := hcur.trans hch (by simp)
                clear hch hfr3 HA
                refine Ord.St.fl2 (T' := ?_) 12 [13, 14, 15, 16, 17] _ _ rfl (by kernel_rfl) rfl rfl rfl rfl (fun K w' hk => ?_) ?_
                rotate_left
                · go_step; exact hk
                refine Ord.St.fl2 (T' := ?_) 13 [14, 15, 16, 17] _ _ rfl (by kernel_rfl) rfl rfl rfl rfl (fun K w' hk => ?_) ?_
                rotate_left
                · go_step; exact hk
                refine Ord.St.fl2 (T' := ?_) 14 [15, 16, 17] _ _ rfl (by kernel_rfl) rfl rfl rfl rfl (fun K w' hk => ?_) ?_
                rotate_left
                · go_step; exact hk
                refine Ord.St.efC 15 [16, 17] _ rfl (by kernel_rfl) (fun K hK => ?_)
                go_wp2_with fail
                refine ⟨rfl, hK _ _ ?_ ?_⟩
                · exact hcur.alloc _
                clear hK K
                refine Ord.St.alw ?_; intro Wn hWn
                have hb9 := alw_blk (xs := [.int .i64 0, .slice none 0 0, .int .i64 0]) hWn
                have hs9 := hcur.size
                try have hne := rg_ne hrg2
                try replace hrg2 := hrg2.ch (alw_ch hWn) (by simp)
                replace hcur := hcur.trans (alw_ch hWn) (by simp)
                clear hWn
                first | (have _t := hrg2; clear _t; generalize w7.heap.size = b9 at *) | generalize Wc.heap.size = b9 at *
                refine Ord.St.ef 16 [17] _ rfl (by kernel_rfl) (fun K hK => ?_)
                have z0 := hb9.cell (i := 0) rfl
                have z1 := hb9.cell (i := 1) rfl
                have z2 := hb9.cell (i := 2) rfl
                have g0 := hb9.frozen (i := 0)
                have g1 := hb9.frozen (i := 1)
                have g2 := hb9.frozen (i := 2)
                have HRG2 := Lib.hid hrg2; clear hrg2
                have HB9 := Lib.hid hb9; clear hb9
                have HCUR := Lib.hid hcur; clear hcur
                go_wp2_with fail
                refine ⟨rfl, hK _ _ ?_⟩; clear hK K
                refine Ord.St.fl2 (T' := ?_) 17 [] _ _ rfl (by kernel_rfl) rfl rfl rfl rfl (fun K w' hk => ?_) ?_
                rotate_left
                · go_step; exact hk
                refine Ord.St.nil ?_
                go_wp2_with fail
                go_meet
                case rel => exact TS.mk HCUR.out HRG2.out hfr5 HB9.out hs9 hne rfl
              · go_wp2_with fail
                refine ⟨rfl, hK _ _ ?_ ?_⟩
                · exact hcur.alloc _
                clear hK K
                refine Ord.St.alw ?_; intro Wn hWn
                have hb9 := alw_blk (xs := [.int .i64 0, .slice none 0 0, .int .i64 0]) hWn
                have hs9 := hcur.size
                try have hne := rg_ne hrg2
                try replace hrg2 := hrg2.ch (alw_ch hWn) (by simp)
                replace hcur := hcur.trans (alw_ch hWn) (by simp)
                clear hWn
                first | (have _t := hrg2; clear _t; generalize w7.heap.size = b9 at *) | generalize Wc.heap.size = b9 at *
                refine Ord.St.ef 11 [12, 13, 14, 16, 17] _ rfl (by kernel_rfl) (fun K hK => ?_)
                have HA := Lib.hid (HM.out _ hcur)
                go_wp2_with fail
                refine HA.out.mono ?_
                rintro e w7 ⟨rb2, cap2, rfl, hrg2, hch, hfr3⟩
                go_wp2_with fail
                refine ⟨rfl, hK _ _ ?_⟩; clear hK K
                try have hne := rto_ne hb9 (by omega) hfr3
                try replace hb9 := hb9.ch hch (by simp)
                have hfr5 : rb2 = rbj ∨ wr.heap.size ≤ rb2 := by have := hcur.size; rcases hfr3 with e | e <;> omega
                replace hcur := hcur.trans hch (by simp)
                clear hch hfr3 HA
                refine Ord.St.fl2 (T' := ?_) 12 [13, 14, 16, 17] _ _ rfl (by kernel_rfl) rfl rfl rfl rfl (fun K w' hk => ?_) ?_
                rotate_left
                · go_step; exact hk
                refine Ord.St.fl2 (T' := ?_) 13 [14, 16, 17] _ _ rfl (by kernel_rfl) rfl rfl rfl rfl (fun K w' hk => ?_) ?_
                rotate_left
                · go_step; exact hk
                refine Ord.St.fl2 (T' := ?_) 14 [16, 17] _ _ rfl (by kernel_rfl) rfl rfl rfl rfl (fun K w' hk => ?_) ?_
                rotate_left
                · go_step; exact hk
                refine Ord.St.ef 16 [17] _ rfl (by kernel_rfl) (fun K hK => ?_)
                have z0 := hb9.cell (i := 0) rfl
                have z1 := hb9.cell (i := 1) rfl
                have z2 := hb9.cell (i := 2) rfl
                have g0 := hb9.frozen (i := 0)
                have g1 := hb9.frozen (i := 1)
                have g2 := hb9.frozen (i := 2)
                have HRG2 := Lib.hid hrg2; clear hrg2
                have HB9 := Lib.hid hb9; clear hb9
                have HCUR := Lib.hid hcur; clear hcur
                go_wp2_with fail
                refine ⟨rfl, hK _ _ ?_⟩; clear hK K
                refine Ord.St.fl2 (T' := ?_) 17 [] _ _ rfl (by kernel_rfl) rfl rfl rfl rfl (fun K w' hk => ?_) ?_
                rotate_left
                · go_step; exact hk
                refine Ord.St.nil ?_
                go_wp2_with fail
                go_meet
                case rel => exact TS.mk HCUR.out HRG2.out hfr5 HB9.out hs9 hne rfl
            case rest =>
              obtain ⟨rb5, cap5, b5, rfl, rfl, hc5, hrg5, hfr5, hb5, hlo5⟩ := hcut
              have x0 := hb5.cell (i := 0) rfl
              have x1 := hb5.cell (i := 1) rfl
              have x2 := hb5.cell (i := 2) rfl
              have hbp := (HS.out.st.same hc5).b4
              have f0 := hbp.frozen (i := 0)
              have f1 := hbp.frozen (i := 1)
              have f2 := hbp.frozen (i := 2)
              have y0 := hbp.cell (i := 0) rfl
              have y1 := hbp.cell (i := 1) rfl
              have y2 := hbp.cell (i := 2) rfl
              clear hbp
              have HCX := Lib.hid hc5; clear hc5
              have HRX := Lib.hid hrg5; clear hrg5
              have HBX := Lib.hid hb5; clear hb5
              go_upto_region 13 with fail
              refine wp_alw ?_
              intro W9 hW9
              have hs := HS.out.put HCX.out HRX.out hfr5 hW9
              clear hW9 x0 x1 x2 y0 y1 y2 f0 f1 f2 HRX HBX
              have hlen9 := HLEN.out
              obtain ⟨na, nc, rfl⟩ := row.shape hs.st.rw
              have hrA := (hs.same (W' := W9.alloc (.cells #[.int .i64 p4] 3)) ((Ch.refl _ _).alloc _)).st.rw
              have hbA : blk (W9.alloc (.cells #[.int .i64 p4] 3)) W9.heap.size [.int .i64 p4] := blk.new' _ _ rfl
              have HRA := Lib.hid hrA; clear hrA
              have HBA := Lib.hid hbA; clear hbA
              have HS9 := Lib.hid hs; clear hs
              go_wp2_with (at_builtin; go_loud (refine wpList_append_row slInts rfl _ _ rfl (v := .slice na lp.length nc) (n := lp.length) (xs := intCells (natInts lp)) rfl HRA.out (ad := ⟨W9.heap.size, 0, none⟩) (m := 1) (c := 1) (news := [.int .i64 p4]) rfl rfl (news_blk HBA.out) (by simp [Value.oneCell']) (by omega) (by omega) ?_; intro v' w10 hown4 hC4 hf4; have HO4 := Lib.hid hown4; clear hown4; have HC4 := Lib.hid hC4; clear hC4; have HF4 := Lib.hid hf4; clear hf4))
              go_roundw
              case rel => exact ⟨j + 1, rb5, cap5, by omega, by go_num, by rw [HAA.out]; exact HS9.out.app HO4.out HC4.out HF4.out⟩
              case measure => simp [intOf]; omega
          · have hrw := rowA_low (G2, q2) b X (k := k) (j := j) (by omega)
            have hlen9 := rowA_len (G2, q2) b X (k := k) (j := j) (by omega)
            generalize hAA : rowA (G2, q2) b X k (j + 1) = AN at hrw
            generalize rowA (G2, q2) b X k j = AS at hrw hs hlen9
            obtain ⟨⟨G3, q3⟩, lp⟩ := AS
            simp only at hs hrw hlen9
            subst hrw
            have q1 : decide ((k : Int) ≤ (j : Int)) = false := decide_eq_false (by omega)
            have HAA := Lib.hid hAA; clear hAA
            obtain ⟨na, nc, rfl⟩ := row.shape hs.st.rw
            have hrA := (hs.same (W' := wr.alloc (.cells #[.int .i64 0] 3)) ((Ch.refl _ _).alloc _)).st.rw
            have hbA : blk (wr.alloc (.cells #[.int .i64 0] 3)) wr.heap.size [.int .i64 0] := blk.new' _ _ rfl
            have HRA := Lib.hid hrA; clear hrA
            have HBA := Lib.hid hbA; clear hbA
            have HS9 := Lib.hid hs; clear hs
            go_wp2_with (at_builtin; go_loud (refine wpList_append_row slInts rfl _ _ rfl (v := .slice na lp.length nc) (n := lp.length) (xs := intCells (natInts lp)) rfl HRA.out (ad := ⟨wr.heap.size, 0, none⟩) (m := 1) (c := 1) (news := [.int .i64 0]) rfl rfl (news_blk HBA.out) (by simp [Value.oneCell']) (by omega) (by omega) ?_; intro v' w10 hown4 hC4 hf4; have HO4 := Lib.hid hown4; clear hown4; have HC4 := Lib.hid hC4; clear hC4; have HF4 := Lib.hid hf4; clear hf4))
            go_roundw
            case rel => exact ⟨j + 1, rbj, capj, by omega, by go_num, by rw [HAA.out]; exact HS9.out.app HO4.out HC4.out HF4.out⟩
            case measure => simp [intOf]; omega
        · have hjn2 : j = n := by omega
          have hlen9 := rowA_len (G2, q2) b X (k := k) (j := j) (by rw [HN.out]; omega)
          have hes := HES.out
          rw [HN.out, ← hjn2] at hes
          have hok2 := HROK.out j
          generalize rowA (G2, q2) b X k j = AS at hes hs hok2 hlen9
          obtain ⟨⟨G3, q3⟩, lp⟩ := AS
          simp only at hs hes hlen9
          by_cases hk0 : k = 0
          · rw [if_pos hk0] at hes
            subst hes
            have q2' : ((k : Int) == 0) = true := beqI (by omega)
            obtain ⟨na, nc, rfl⟩ := row.shape hs.st.rw
            have HSF := Lib.hid hs.st; clear hs hok2
            have HK0 := Lib.hid hk0; clear hk0
            go_wp2_with fail
            go_roundw
            case rel => exact ⟨k + 1, rbj, capj, by omega, by go_num, by rw [HEE.out]; exact HSF.out⟩
            case measure => simp [intOf]; omega
          · rw [if_neg hk0] at hes
            have q2' : ((k : Int) == 0) = false := beqN (by omega)
            have e1 : lo.length = j := by rw [HLL.out (by omega) hk, HN.out]; omega
            obtain ⟨na, nc, rfl⟩ := row.shape hs.st.rw
            have hA := fun (W : World) (hW : Ch [] wr W) => r23AddQ_is (hs.st.rg.ch hW (by simp)) hok2.s.err j oc nc ((Sl.of_ints hs.ow (by omega)).ch hW (by simp)) ((Sl.of_ints hs.st.rw (by omega)).ch hW (by simp)) e1 hlen9 (by omega) (fun r hr => hok2.s.ext.lt (HLO.out r hr)) (fun r hr => hok2.lt r hr)
            simp only at hA
            rw [← hes] at hA
            obtain ⟨⟨G5, q5⟩, l5⟩ := EN
            have y0 := hs.st.b4.cell (i := 0) rfl
            have y1 := hs.st.b4.cell (i := 1) rfl
            have y2 := hs.st.b4.cell (i := 2) rfl
            have hrlj := hs.st.rg.lt
            have hlow := hs.st.lt
            have HA := Lib.hid hA; clear hA
            have HSF := Lib.hid hs.st; clear hs hok2
            have HK0 := Lib.hid hk0; clear hk0 hes
            rw [e1, hlen9]
            go_upto_region 16 with fail
            clear hjn2 e1 hlen9
            go_wp2_with fail
            refine (HA.out _ (Ch.refl _ _)).mono ?_
            rintro e w7 ⟨rb2, cap2, a2, c2, rfl, hrg2, hch, hfr3, hrow2, hown2⟩
            have HRG2 := Lib.hid hrg2; clear hrg2
            have HROW2 := Lib.hid hrow2; clear hrow2
            have HOWN2 := Lib.hid hown2; clear hown2
            have HCH := Lib.hid hch; clear hch y0 y1 y2
            go_upto_region 17 with fail
            refine wp_alw ?_
            intro W8 hW8
            have hb8 : blk W8 w7.heap.size [.int .i64 G5.most, .slice (some ⟨rb2, 0, none⟩) G5.nodes.length cap2, .int .i64 q5] := by rw [hW8]; exact blk.new' _ _ rfl
            have hc8 : Ch [] w7 W8 := by rw [hW8]; exact (Ch.refl _ _).alloc _
            clear hW8
            have hc18 := HCH.out.trans hc8 (by simp)
            have x0 := hb8.cell (i := 0) rfl
            have x1 := hb8.cell (i := 1) rfl
            have x2 := hb8.cell (i := 2) rfl
            have hbp := (HSF.out.same hc18).b4
            have f0 := hbp.frozen (i := 0)
            have f1 := hbp.frozen (i := 1)
            have f2 := hbp.frozen (i := 2)
            have y0 := hbp.cell (i := 0) rfl
            have y1 := hbp.cell (i := 1) rfl
            have y2 := hbp.cell (i := 2) rfl
            have HC8 := Lib.hid hc8; clear hc8
            have HC18 := Lib.hid hc18; clear hc18 hbp hb8
            go_upto_region 4 with fail
            refine wp_alw ?_
            intro W9 hW9
            have hst := HSF.out.put HC18.out (HRG2.out.ch HC8.out (by simp)) hfr3 hW9
            have hcs := set3_ch hW9
            have hst := hst.word (v' := .slice a2 l5.length c2) (l' := l5) ((HROW2.out.ch HC8.out (by simp)).ch hcs (fun q hq => by have := (HOWN2.out q hq).1; simp; omega)) (fun q hq => ⟨by have := (HOWN2.out q hq).1; omega, (HOWN2.out q hq).2⟩)
            clear hW9 hcs x0 x1 x2 y0 y1 y2 f0 f1 f2
            have HS9 := Lib.hid hst; clear hst
            go_wp2_with fail
            go_roundw
            case rel => exact ⟨k + 1, rb2, cap2, by omega, by go_num, by rw [HEE.out]; exact HS9.out⟩
            case measure => simp [intOf]; omega
    · have hall : Y.take k = Y := List.take_of_length_le (by rw [HM0.out]; omega)
      rw [hall] at hst
      obtain ⟨⟨⟨G2, q2⟩, l2⟩, hES⟩ : ∃ ES, ES = rmF X (G, 0) Y := ⟨_, rfl⟩
      rw [← hES] at hst
      simp only at hst
      have HES := Lib.hid hES; clear hES
      obtain ⟨na, nc, rfl⟩ := row.shape hst.rw
      have y0 := hst.b4.cell (i := 0) rfl
      have y1 := hst.b4.cell (i := 1) rfl
      have y2 := hst.b4.cell (i := 2) rfl
      have v0 := hst.b8.cell (i := 0) rfl
      have v1 := hst.b8.cell (i := 1) rfl
      have v2 := hst.b8.cell (i := 2) rfl
      have g0 := hst.b8.frozen (i := 0)
      have g1 := hst.b8.frozen (i := 1)
      have g2 := hst.b8.frozen (i := 2)
      have hl8 := hst.b8.lt
      have HST := Lib.hid hst; clear hst
      go_wp2_with fail
      refine bodyPost_ret (v := .tuple #[.agg #[.int .i64 G2.most, .slice (some ⟨rbk, 0, none⟩) G2.nodes.length capk, .int .i64 q2], .slice na l2.length nc]) (by simp [results, Tryz.results300, go_sem, v0, v1, v2]) rfl ?_
      show LTo w rb (rmF X (G, 0) Y) _ _
      rw [← HES.out]
      exact HST.out.fin rfl
end
end Go.Proofs.YtehljgigebhddaaGreat
namespace Go.Aig
theorem chF_sok {G : Gra} {s : Mk} (hs : SOk G s) {c : Nat} (hc : c < 2 * s.1.nodes.length) (l : List (Nat × Nat)) (hl : ∀ p ∈ l, p.1 < 2 * s.1.nodes.length ∧ p.2 < 2 * s.1.nodes.length) : LOk s.1 (chF c s l) := by
  have : ∀ (l : List (Nat × Nat)) (q : Mk × List Nat), LOk s.1 q → (∀ p ∈ l, p.1 < 2 * s.1.nodes.length ∧ p.2 < 2 * s.1.nodes.length) → LOk s.1 (l.foldl (eachS (fun s a b => sMux s c a b)) q) := by
    intro l
    induction l with
    | nil => intro q h _; exact h
    | cons p l ih =>
      intro q h hl
      obtain ⟨h1, h2⟩ := hl p (List.mem_cons_self ..)
      obtain ⟨k1, k2, k3⟩ := rstep_sok h.s (Y := rMux q.1.1 c p.1 p.2) (fun _ => rMux_full h.s.ok (h.s.ext.lt hc) (h.s.ext.lt h1) (h.s.ext.lt h2))
      exact ih _ (LOk.snoc h k1 k3 k2) (fun p hp => hl p (List.mem_cons_of_mem _ hp))
  exact this l _ ⟨⟨hs.ok, .refl _, hs.err⟩, by simp⟩ hl
theorem chF_len (c : Nat) (s : Mk) (l : List (Nat × Nat)) : (chF c s l).2.length = l.length := eachF_len' _ s l
/-- the steps of one more bit of the quotient are right -/
structure RdOk (G : Gra) (s : Mk) (D R' : List Nat) (L : Mk × Nat) (E : Mk × List Nat) (M : Nat → Mk × List Nat) : Prop where
  l : VOk G L
  e : LOk G E
  le : Ext s.1 L.1.1
  de : Ext L.1.1 E.1.1
  m : ∀ k, LOk E.1.1 (M k)
theorem rdOk {G : Gra} {s : Mk} (hs : SOk G s) {D qs R : List Nat} {b : Nat} (hD : ∀ r ∈ D, r < 2 * s.1.nodes.length) (hb : b < 2 * s.1.nodes.length) (hR : ∀ r ∈ R, r < 2 * s.1.nodes.length) :
    RdOk G s D (b :: R.dropLast) (rdL D (s, qs, R) b) (rdD D (s, qs, R) b) (fun k => chF (rdL D (s, qs, R) b).2 (rdD D (s, qs, R) b).1 (((rdD D (s, qs, R) b).2.zip (b :: R.dropLast)).take k)) := by
  obtain ⟨G1, q1⟩ := s
  simp only at hD hb hR
  have hR' : ∀ r ∈ b :: R.dropLast, r < 2 * G1.nodes.length := fun r hr => by
    rcases List.mem_cons.1 hr with rfl | hr
    · exact hb
    · exact hR r (List.dropLast_sublist _ |>.subset hr)
  have hZ : ∀ p ∈ (b :: R.dropLast).zip D, p.1 < 2 * G1.nodes.length ∧ p.2 < 2 * G1.nodes.length := fun p hp => ⟨hR' _ (List.of_mem_zip hp).1, hD _ (List.of_mem_zip hp).2⟩
  have h1 := ltF_preQ hs.ok hs.err hZ _ (fun p hp => hp)
  have hL : VOk G1 (rdL D ((G1, q1), qs, R) b) := ⟨h1.s, neg_lt h1.lt⟩
  have h2 : LOk (rdL D ((G1, q1), qs, R) b).1.1 (rdD D ((G1, q1), qs, R) b) := by
    have := sumF_lokQ hL.s.ok hL.s.err (b :: R.dropLast).length ((b :: R.dropLast).zip (D.map neg)) (fun p hp => ⟨hL.s.ext.lt (hR' _ (List.of_mem_zip hp).1), by
      obtain ⟨z, hz, e⟩ := List.mem_map.1 (List.of_mem_zip hp).2
      rw [← e]
      exact hL.s.ext.lt (neg_lt (hD z hz))⟩) (c := 1) (by have := hL.s.ok.wf.pos; omega)
    exact this
  have hE : LOk G (rdD D ((G1, q1), qs, R) b) := ⟨⟨h2.s.ok, (hs.ext.trans hL.s.ext).trans h2.s.ext, h2.s.err⟩, h2.lt⟩
  refine ⟨⟨⟨hL.s.ok, hs.ext.trans hL.s.ext, hL.s.err⟩, hL.lt⟩, hE, hL.s.ext, h2.s.ext, fun k => chF_sok hE.s (h2.s.ext.lt hL.lt) _ (fun p hp => ?_)⟩
  have hp := List.mem_of_mem_take hp
  exact ⟨hE.lt _ (List.of_mem_zip hp).1, h2.s.ext.lt (hL.s.ext.lt (hR' _ (List.of_mem_zip hp).2))⟩
theorem rdD_len (D qs R : List Nat) (s : Mk) (b : Nat) (h : R.length = D.length) (h1 : 1 ≤ D.length) : (rdD D (s, qs, R) b).2.length = D.length := by
  unfold rdD sumW
  rw [Go.Proofs.YtehljgigebhddaaGreat.sumF_len, List.length_zip, List.length_map, List.length_cons, List.length_dropLast]
  show min (R.length - 1 + 1) D.length = _
  omega
theorem rdM_take (D qs R : List Nat) (s : Mk) (b n : Nat) (h : R.length = n) (hD : D.length = n) (h1 : 1 ≤ n) : rdM D (s, qs, R) b = chF (rdL D (s, qs, R) b).2 (rdD D (s, qs, R) b).1 (((rdD D (s, qs, R) b).2.zip (b :: R.dropLast)).take n) := by
  rw [List.take_of_length_le]
  · rfl
  · rw [List.length_zip, rdD_len _ _ _ _ _ (by omega) (by omega)]; omega
theorem rdF_ok {G : Gra} (hG : Ok G) {D : List Nat} (h1 : 1 ≤ D.length) (hD : ∀ r ∈ D, r < 2 * G.nodes.length) : ∀ l : List Nat, (∀ r ∈ l, r < 2 * G.nodes.length) → LOk G ((rdF D (G, 0) l).1, (rdF D (G, 0) l).2.2) ∧ (rdF D (G, 0) l).2.2.length = D.length ∧ (rdF D (G, 0) l).2.1.length = l.length := by
  intro l
  induction l using List.snocRec with
  | nil =>
    intro _
    refine ⟨⟨.start hG, fun r hr => ?_⟩, by simp [rdF], rfl⟩
    rw [show (rdF D (G, 0) []).2.2 = List.replicate D.length 0 from rfl, List.mem_replicate] at hr
    have := hG.wf.pos
    show r < 2 * G.nodes.length
    omega
  | snoc l b ih =>
    intro hl
    obtain ⟨ih1, ih2, ih3⟩ := ih (fun r hr => hl r (by simp [hr]))
    rw [rdF_snoc]
    generalize rdF D (G, 0) l = q at *
    obtain ⟨s, qs, R⟩ := q
    simp only at ih1 ih2 ih3
    have hk := rdOk (qs := qs) ih1.s (D := D) (b := b) (R := R) (fun r hr => ih1.s.ext.lt (hD r hr)) (ih1.s.ext.lt (hl b (by simp))) ih1.lt
    have hm := hk.m D.length
    rw [← rdM_take D qs R s b D.length ih2 rfl h1] at hm
    refine ⟨⟨⟨hm.s.ok, hk.e.s.ext.trans hm.s.ext, hm.s.err⟩, hm.lt⟩, ?_, by show (qs ++ [_]).length = _; simp [ih3]⟩
    show (rdM D (s, qs, R) b).2.length = _
    rw [rdM_take D qs R s b D.length ih2 rfl h1, chF_len, List.length_take, List.length_zip, rdD_len _ _ _ _ _ ih2 h1, List.length_cons, List.length_dropLast]
    omega
end Go.Aig
namespace Go.Proofs.YtehljgigebhddaaGreat
open Go.RowKit Go.Mem Go.Aig
/-- the state, the word that is made, other words that are kept, and a block that is written -/
structure RSK (w W : World) (rb0 rb cap : Nat) (s : Mk) (v : Value) (l : List Nat) (K : List (Value × List Nat)) (qb : Nat) (Q : List Nat) : Prop where
  st : RSt w W rb0 rb cap s v l
  kw : ∀ p ∈ K, row W 3 1 p.1 p.2.length (intCells (natInts p.2))
  ko : ∀ p ∈ K, ∀ q, p.1.ownBlock = some q → w.heap.size + 2 ≤ q ∧ q ≠ rb ∧ v.ownBlock ≠ some q ∧ q ≠ qb
  qw : blk W qb (intCells (natInts Q))
  qo : w.heap.size + 2 ≤ qb ∧ qb ≠ rb ∧ v.ownBlock ≠ some qb
section
variable {w W W' : World} {rb0 rb cap qb : Nat} {s : Mk} {v v' : Value} {l l' Q : List Nat} {K K' : List (Value × List Nat)}
theorem RSK.same (h : RSK w W rb0 rb cap s v l K qb Q) (hc : Ch [] W W') : RSK w W' rb0 rb cap s v l K qb Q := ⟨h.st.same hc, fun p hp => (h.kw p hp).ch hc (by simp), h.ko, h.qw.ch hc (by simp), h.qo⟩
theorem RSK.put {Wb : World} {rb' cap' q' : Nat} {G' : Gra} (h : RSK w Wb rb0 rb cap s v l K qb Q) (hc : Ch [] Wb W) (hr : RG W rb' cap' G') (hf : rb' = rb ∨ Wb.heap.size ≤ rb')
    (hW : W' = ((W.setCell ⟨w.heap.size, 0, none⟩ (.int .i64 G'.most)).setCell ⟨w.heap.size, 1, none⟩ (.slice (some ⟨rb', 0, none⟩) G'.nodes.length cap')).setCell ⟨w.heap.size, 2, none⟩ (.int .i64 q')) : RSK w W' rb0 rb' cap' (G', q') v l K qb Q := by
  have hcs := set3_ch hW
  refine ⟨h.st.put hc hr hf hW, fun p hp => ((h.kw p hp).ch hc (by simp)).ch hcs (fun k hk => by have := (h.ko p hp k hk).1; simp; omega), fun p hp q hq => ?_, (h.qw.ch hc (by simp)).ch hcs (by have := h.qo.1; simp; omega), h.qo.1, ?_, h.qo.2.2⟩
  · obtain ⟨h1, h2, h3, h5⟩ := h.ko p hp q hq
    have h4 := ((h.kw p hp).lt q hq).2
    exact ⟨h1, by rcases hf with e | e <;> omega, h3, h5⟩
  · have h4 := h.qw.lt
    have h5 := h.qo.2.1
    rcases hf with e | e <;> omega
theorem RSK.app {na : Option Addr} {nc r : Nat} {o : Obj} {wz : World} (h : RSK w W rb0 rb cap s (.slice na l.length nc) l K qb Q) (hrow : row wz 3 1 v' (l.length + 1) (intCells (natInts l) ++ [.int .i64 r]))
    (hc : Ch (Value.slice na l.length nc).ownBlock.toList (W.alloc o) wz) (hf : ∀ k, v'.ownBlock = some k → (Value.slice na l.length nc).ownBlock = some k ∨ (W.alloc o).heap.size ≤ k) : RSK w wz rb0 rb cap s v' (l ++ [r]) K qb Q := by
  have hcA : Ch [] W (W.alloc o) := (Ch.refl _ _).alloc _
  have h5 := hcA.size
  refine ⟨h.st.app hrow hc hf, fun p hp => ((h.kw p hp).ch hcA (by simp)).ch hc (fun k hk hin => (h.ko p hp k hk).2.2.1 (by simpa using hin)), fun p hp q hq => ?_, (h.qw.ch hcA (by simp)).ch hc (fun hin => h.qo.2.2 (by simpa using hin)), h.qo.1, h.qo.2.1, fun e => ?_⟩
  · obtain ⟨h1, h2, h3, h6⟩ := h.ko p hp q hq
    have h4 := ((h.kw p hp).lt q hq).2
    refine ⟨h1, h2, fun e => ?_, h6⟩
    rcases hf q e with e | e
    · exact h3 e
    · omega
  · have h4 := h.qw.lt
    rcases hf qb e with e | e
    · exact h.qo.2.2 e
    · omega
/-- another word in the place of the one that is made -/
theorem RSK.word (h : RSK w W rb0 rb cap s v l K qb Q) (hr : row W 3 1 v' l'.length (intCells (natInts l'))) (ho : ∀ q, v'.ownBlock = some q → w.heap.size + 2 ≤ q ∧ q ≠ rb ∧ q ≠ qb ∧ ∀ p ∈ K, p.1.ownBlock ≠ some q) : RSK w W rb0 rb cap s v' l' K qb Q :=
  ⟨h.st.word hr (fun q hq => ⟨(ho q hq).1, (ho q hq).2.1⟩), h.kw, fun p hp q hq => ⟨(h.ko p hp q hq).1, (h.ko p hp q hq).2.1, fun e => (ho q e).2.2.2 p hp hq, (h.ko p hp q hq).2.2.2⟩, h.qw, h.qo.1, h.qo.2.1, fun e => (ho qb e).2.2.1 rfl⟩
/-- the word that is made is kept, and a new one begins -/
theorem RSK.keep (h : RSK w W rb0 rb cap s v l K qb Q) : RSK w W rb0 rb cap s (.slice none 0 0) [] ((v, l) :: K) qb Q :=
  ⟨h.st.noWord, fun p hp => by
    rcases List.mem_cons.1 hp with rfl | hp
    · exact h.st.rw
    · exact h.kw p hp, fun p hp q hq => by
    rcases List.mem_cons.1 hp with rfl | hp
    · exact ⟨(h.st.own q hq).1, (h.st.own q hq).2, by simp [Value.ownBlock], fun e => h.qo.2.2 (e ▸ hq)⟩
    · exact ⟨(h.ko p hp q hq).1, (h.ko p hp q hq).2.1, by simp [Value.ownBlock], (h.ko p hp q hq).2.2.2⟩, h.qw, h.qo.1, h.qo.2.1, by simp [Value.ownBlock]⟩
/-- fewer words are kept -/
theorem RSK.less (h : RSK w W rb0 rb cap s v l K qb Q) (hK : ∀ p ∈ K', p ∈ K) : RSK w W rb0 rb cap s v l K' qb Q := ⟨h.st, fun p hp => h.kw p (hK p hp), fun p hp => h.ko p (hK p hp), h.qw, h.qo⟩
/-- one more word -/
theorem RSK.more (h : RSK w W rb0 rb cap s v l K qb Q) {u : Value} {m : List Nat} (hr : row W 3 1 u m.length (intCells (natInts m))) (ho : ∀ q, u.ownBlock = some q → w.heap.size + 2 ≤ q ∧ q ≠ rb ∧ v.ownBlock ≠ some q ∧ q ≠ qb) : RSK w W rb0 rb cap s v l ((u, m) :: K) qb Q := by
  refine ⟨h.st, fun p hp => ?_, fun p hp q hq' => ?_, h.qw, h.qo⟩
  · rcases List.mem_cons.1 hp with rfl | hp
    · exact hr
    · exact h.kw p hp
  · rcases List.mem_cons.1 hp with rfl | hp
    · exact ho q hq'
    · exact h.ko p hp q hq'
/-- a number of the block that is written -/
theorem RSK.set (h : RSK w W rb0 rb cap s v l K qb Q) (i r : Nat) (hW : W' = W.setCell ⟨qb, i, none⟩ (.int .i64 r)) : RSK w W' rb0 rb cap s v l K qb (Q.set i r) := by
  have hc : Ch [qb] W W' := by rw [hW]; exact (Ch.refl [qb] _).setCell (by simp) _
  have hlo := h.st.lt
  have hst := h.st
  have hqo := h.qo
  refine ⟨⟨hst.ch.trans hc (fun k hk => .inr (by simp at hk; omega)), hst.rg.ch hc (by simp; omega), hst.fr, hst.b4.ch hc (by simp; omega), hst.b8.ch hc (by simp; omega), hst.rw.ch hc (fun k hk => by simp; intro e; exact hqo.2.2 (e ▸ hk)), hst.own, hst.low⟩, fun p hp => (h.kw p hp).ch hc (fun k hk => by have := (h.ko p hp k hk).2.2.2; simp; omega), h.ko, ?_, hqo⟩
  rw [hW]
  have := h.qw.set (i := i) (.int .i64 r)
  rw [show intCells (natInts (Q.set i r)) = (intCells (natInts Q)).set i (.int .i64 r) by simp [intCells, natInts, List.map_set]]
  exact this
end
end Go.Proofs.YtehljgigebhddaaGreat
namespace Go.Aig
/-- the bits of a quotient that there are: the lower ones are not yet known -/
def qBits (n : Nat) (qs : List Nat) : List Nat := List.replicate (n - qs.length) 0 ++ qs.reverse
theorem qBits_len {n : Nat} {qs : List Nat} (h : qs.length ≤ n) : (qBits n qs).length = n := by unfold qBits; simp; omega
theorem qBits_set {n k j f : Nat} {qs : List Nat} (hq : qs.length = k) (hj : j + k + 1 = n) : (qBits n qs).set j f = qBits n (qs ++ [f]) := by
  unfold qBits
  have e1 : n - qs.length = j + 1 := by omega
  have e2 : n - (qs ++ [f]).length = j := by simp; omega
  rw [e1, e2, List.replicate_succ', List.append_assoc, List.set_append_right _ _ (by simp)]
  simp
theorem qBits_all {n : Nat} {qs : List Nat} (h : qs.length = n) : qBits n qs = qs.reverse := by unfold qBits; rw [h, Nat.sub_self]; rfl
theorem rev_at {X : List Nat} {n k j b : Nat} (hn : X.length = n) (hj : j + k + 1 = n) (hb : X[j]? = some b) : X.reverse[k]? = some b := by
  rw [List.getElem?_reverse (by omega), ← hb]
  congr 1
  omega
end Go.Aig
namespace Go.Proofs.YtehljgigebhddaaGreat
open Go.RowKit Go.Mem Go.Aig
/-- what a function of the reference's states leaves: a state, and two words of its own -/
def B2To (w : World) (rb : Nat) (R : Mk × List Nat × List Nat) (e : Ending) (w' : World) : Prop := ∃ rb' cap' a c a2 c2, e = .returned (.tuple #[.agg #[.int .i64 R.1.1.most, .slice (some ⟨rb', 0, none⟩) R.1.1.nodes.length cap', .int .i64 R.1.2], .slice a R.2.1.length c, .slice a2 R.2.2.length c2]) ∧ RG w' rb' cap' R.1.1 ∧ Ch [] w w' ∧ (rb' = rb ∨ w.heap.size ≤ rb') ∧ Sl w' a (natInts R.2.1) ∧ Sl w' a2 (natInts R.2.2) ∧ (∀ p, a = some p → w.heap.size ≤ p.block ∧ p.block ≠ rb') ∧ (∀ p, a2 = some p → w.heap.size ≤ p.block ∧ p.block ≠ rb')
theorem B2To.same {w W W' : World} {rb : Nat} {R : Mk × List Nat × List Nat} {e : Ending} (h : B2To w rb R e W) (hc : Ch [] W W') : B2To w rb R e W' := by
  obtain ⟨rb', cap', a, c, a2, c2, h0, h1, h2, h3, h4, h5, h6, h7⟩ := h
  exact ⟨rb', cap', a, c, a2, c2, h0, h1.ch hc (by simp), h2.trans hc (by simp), h3, h4.ch hc (by simp), h5.ch hc (by simp), h6, h7⟩
theorem row.fresh9 {w : World} {n : Nat} (xs : List Value) (T : TypeId) (hn : xs.length = n) (hm : n ≤ 1000000) : row (w.alloc (.cells xs.toArray T)) T 1 (.slice (some ⟨w.heap.size, 0, none⟩) n n) n xs :=
  ⟨by simp [hn], .inr ⟨w.heap.size, n, xs.toArray, rfl, Nat.zero_le _, heap_alloc_new w _, Nat.le_refl _, by unfold maxLen; omega, by simp [hn], by subst hn; simp⟩⟩
theorem row.at9 {w : World} {e : TypeId} {g n m c j : Nat} {xs : List Value} {u : Value} (h : row w e 1 (.slice (some ⟨g, 0, none⟩) n c) m xs) (hu : xs[j]? = some u) : w.cell? ⟨g, j, none⟩ = some u := by
  have := h.cells (g := g) rfl j u hu
  rw [Addr.add_lit, Nat.zero_add] at this
  exact this
theorem intCells_at {l : List Nat} {j u : Nat} (h : l[j]? = some u) : (intCells (natInts l))[j]? = some (.int .i64 u) := by simp [intCells, natInts, h]
theorem intCells_len (l : List Nat) : (intCells (natInts l)).length = l.length := by simp [intCells, natInts]
theorem intCells_one (l : List Nat) : ∀ u ∈ intCells (natInts l), u.oneCell' = true := fun u hu => by
  unfold intCells at hu
  obtain ⟨z, _, rfl⟩ := List.mem_map.1 hu
  rfl
theorem Sl.blk9 {w : World} {b : Nat} {c : List Int} (h : blk w b (intCells c)) (hn : c.length ≤ 1000000) : Sl w (some ⟨b, 0, none⟩) c :=
  ⟨fun i x hx => ⟨b, 0, rfl, by rw [Nat.zero_add]; exact h.cell (by simp [intCells, hx])⟩, by omega⟩
theorem metCells_ints (n : Nat) : metCells (List.replicate n false) = intCells (natInts (List.replicate n 0)) := by
  simp [metCells, intCells, natInts]
section
variable {w W W' : World} {rb0 rb cap qb : Nat} {s : Mk} {l Q : List Nat} {K : List (Value × List Nat)}
theorem RSK.fin2 {n g c m : Nat} (h : RSK w W rb0 rb cap s (.slice (some ⟨g, 0, none⟩) m c) l K qb Q) (hQ : Q.length = n) (hl : l.length = n + 1) (hn : n ≤ 1000)
    (hW : W' = ((W.setCell ⟨w.heap.size + 1, 0, none⟩ (.int .i64 s.1.most)).setCell ⟨w.heap.size + 1, 1, none⟩ (.slice (some ⟨rb, 0, none⟩) s.1.nodes.length cap)).setCell ⟨w.heap.size + 1, 2, none⟩ (.int .i64 s.2)) :
    B2To w rb0 (s, Q, l.take n) (.returned (.tuple #[.agg #[.int .i64 s.1.most, .slice (some ⟨rb, 0, none⟩) s.1.nodes.length cap, .int .i64 s.2], .slice (some ⟨qb, 0, none⟩) n n, .slice (some ⟨g, 0, none⟩) n c])) W' := by
  have hcs := set3_ch hW
  have hfr := h.st.fr
  have hl0 := h.st.low
  have hqo := h.qo
  have hgo := h.st.own g rfl
  have hrw := h.st.rw.ch hcs (fun k hk => by have := (h.st.own k hk).1; simp; omega)
  refine ⟨rb, cap, some ⟨qb, 0, none⟩, n, some ⟨g, 0, none⟩, c, by simp only [hQ]; rw [show (l.take n).length = n by rw [List.length_take]; omega], h.st.rg.ch hcs (by simp; omega), h.st.ch.trans hcs (fun k hk => .inr (by simp at hk; omega)), by omega, ?_, ?_, ?_, ?_⟩
  · exact Sl.blk9 (h.qw.ch hcs (by simp; omega)) (by simp [natInts, hQ]; omega)
  · refine ⟨fun i x hx => ⟨g, 0, rfl, ?_⟩, by simp [natInts]; omega⟩
    rw [Nat.zero_add]
    refine row.at9 hrw ?_
    unfold natInts at hx ⊢
    rw [List.getElem?_map] at hx
    obtain ⟨z, hz, rfl⟩ := Option.map_eq_some_iff.1 hx
    have hz2 : l[i]? = some z := by rw [List.getElem?_take] at hz; split at hz; exact hz; cases hz
    exact intCells_at hz2
  · intro p hp; cases hp; exact ⟨by show w.heap.size ≤ qb; omega, hqo.2.1⟩
  · intro p hp; cases hp; exact ⟨by show w.heap.size ≤ g; omega, hgo.2⟩
end
set_option maxRecDepth 100000 in
set_option maxHeartbeats 16000000 in
theorem r24Both_is {w : World} {rb cap : Nat} {G : Gra} (h : RG w rb cap G) {xa ya : Option Addr} {X Y : List Nat} (n xc yc : Nat) (hX : Sl w xa (natInts X)) (hY : Sl w ya (natInts Y)) (hn : X.length = n) (hm : Y.length = n) (h1 : 1 ≤ n) (hn0 : n ≤ 900) (hxr : ∀ r ∈ X, r < 2 * G.nodes.length) (hyr : ∀ r ∈ Y, r < 2 * G.nodes.length) :
    Calls Tryz.prog 301 #[.agg #[.int .i64 G.most, .slice (some ⟨rb, 0, none⟩) G.nodes.length cap, .int .i64 0], .slice xa n xc, .slice ya n yc] w (B2To w rb ((rdF (Y ++ [0]) (G, 0) X.reverse).1, (rdF (Y ++ [0]) (G, 0) X.reverse).2.1.reverse, (rdF (Y ++ [0]) (G, 0) X.reverse).2.2.take n)) := by
  have hok := h.ok
  have hDr : ∀ r ∈ Y ++ [0], r < 2 * G.nodes.length := fun r hr => by
    rcases List.mem_append.1 hr with hr | hr
    · exact hyr r hr
    · rw [List.mem_singleton.1 hr]; have := hok.wf.pos; omega
  have hDl : (Y ++ [0]).length = n + 1 := by simp [hm]
  have hFok := fun k => rdF_ok hok (D := Y ++ [0]) (by omega) hDr (X.reverse.take k) (fun r hr => hxr r (List.mem_reverse.1 (List.mem_of_mem_take hr)))
  have hFsn := fun k b (hb : X.reverse[k]? = some b) => show rdF (Y ++ [0]) (G, 0) (X.reverse.take (k + 1)) = rdS (Y ++ [0]) (rdF (Y ++ [0]) (G, 0) (X.reverse.take k)) b by
    rw [List.take_add_one, hb, Option.toList_some, rdF_snoc]
  have hRv := fun j k b (hj : j + k + 1 = n) (hb : X[j]? = some b) => rev_at hn hj hb
  have hall : X.reverse.take n = X.reverse := List.take_of_length_le (by simp [hn])
  have hXRl : ∀ k, k ≤ n → (X.reverse.take k).length = k := fun k hk => by rw [List.length_take, List.length_reverse, hn]; omega
  obtain ⟨y9, hy9⟩ : ∃ y9, (natInts Y)[0]? = some y9 := ⟨_, List.getElem?_eq_getElem (by simp [natInts]; omega)⟩
  obtain ⟨yb, yo, rfl, hyc9⟩ := hY.cells 0 _ hy9
  clear hyc9 hy9 y9
  have hnw : ∀ (W : World), Ch [] w W → ∀ j u, (intCells (natInts Y))[j]? = some u → W.cell? ((⟨yb, yo, none⟩ : Addr).add j) = some u := fun W hW j u hu => by
    unfold intCells at hu
    rw [List.getElem?_map] at hu
    obtain ⟨z, hz, rfl⟩ := Option.map_eq_some_iff.1 hu
    obtain ⟨b', o', e, hc⟩ := hY.cells j z hz
    cases e
    rw [Addr.add_lit]
    exact (hW.cell (cell_lt hc) (by simp)).trans hc
  generalize hXR : X.reverse = XR at *
  have hDm : intCells (natInts (Y ++ [0])) = intCells (natInts Y) ++ [.int .i64 0] := natInts_snoc' Y 0
  have hyl : (intCells (natInts Y)).length = n := by simp [intCells, natInts, hm]
  obtain ⟨YC, hYC⟩ : ∃ YC, YC = intCells (natInts Y) := ⟨_, rfl⟩
  rw [← hYC] at hDm hnw hyl
  have hone : ∀ u ∈ YC, u.oneCell' = true := fun u hu => by
    rw [hYC] at hu
    unfold intCells at hu
    obtain ⟨z, _, rfl⟩ := List.mem_map.1 hu
    rfl
  obtain ⟨D, hD⟩ : ∃ D, D = Y ++ [0] := ⟨_, rfl⟩
  rw [← hD] at hDr hDl hFok hFsn hDm ⊢
  clear hY hYC hD hm hyr
  have HX := Lib.hid hX; clear hX
  have H := Lib.hid h; clear h
  have HFOK := Lib.hid hFok; clear hFok
  have HFSN := Lib.hid hFsn; clear hFsn
  have HRV := Lib.hid hRv; clear hRv
  have HALL := Lib.hid hall; clear hall
  have HXRL := Lib.hid hXRl; clear hXRl
  have HNW := Lib.hid hnw; clear hnw
  have HN := Lib.hid hn; clear hn
  have HDM := Lib.hid hDm; clear hDm
  have HYL := Lib.hid hyl; clear hyl
  have HDR := Lib.hid hDr; clear hDr
  have HDL := Lib.hid hDl; clear hDl
  have HONE := Lib.hid hone; clear hone
  have HXR := Lib.hid hxr; clear hxr hXR hok
  go_enter Tryz.func301, Tryz.ntmps301
  go_upto_region 1 with fail
  refine wp_alw ?_
  intro W0 hW0
  have hst := RSt.start H.out hW0 rfl
  clear hW0
  have HST := Lib.hid hst; clear hst
  have he0 : row (W0.alloc (.cells #[] 3)) 3 1 (.slice (some ⟨W0.heap.size, 0, none⟩) 0 0) 0 [] := row.fresh9 [] _ rfl (by omega)
  have hnA := HNW.out (W0.alloc (.cells #[] 3)) (HST.out.ch.alloc _)
  have HE0 := Lib.hid he0; clear he0
  have HNA := Lib.hid hnA; clear hnA
  have hmk := fun (W : World) => run_make_ints W n (by omega)
  have hmk1 := fun (W : World) => run_make_ints W (n + 1) (by omega)
  rw [show ((n + 1 : Nat) : Int) = (n : Int) + 1 from rfl] at hmk1
  go_wp2_with (at_builtin; first | (go_loud (refine wpList_append_row slInts rfl _ _ rfl (v := .slice (some ⟨W0.heap.size, 0, none⟩) 0 0) (n := 0) (xs := []) rfl HE0.out (ad := ⟨yb, yo, none⟩) (m := n) (c := yc) (news := YC) rfl (by rw [HYL.out, Nat.mul_one]) HNA.out HONE.out (by omega) (by omega) ?_; intro v1 wA hr1 hcA hf1; rw [Nat.zero_add, List.nil_append] at hr1; obtain ⟨da, dc, rfl⟩ := row.shape hr1; have hbA : blk (wA.alloc (.cells #[.int .i64 0] 3)) wA.heap.size [.int .i64 0] := blk.new' _ _ rfl; have hrA := hr1.ch ((Ch.refl [] wA).alloc (.cells #[.int .i64 0] 3)) (by simp); have HR1 := Lib.hid hrA; clear hr1 hrA; have HBA := Lib.hid hbA; clear hbA; have HCA := Lib.hid hcA; clear hcA; have HF1 := Lib.hid hf1; clear hf1)) | (go_loud (refine wpList_append_row slInts rfl _ _ rfl (v := .slice da n dc) (n := n) (xs := YC) rfl HR1.out (ad := ⟨wA.heap.size, 0, none⟩) (m := 1) (c := 1) (news := [.int .i64 0]) rfl rfl (news_blk HBA.out) (by simp [Value.oneCell']) (by omega) (by omega) ?_; intro v2 wB hr2 hcB hf2; obtain ⟨ea, ec, rfl⟩ := row.shape hr2; have HR2 := Lib.hid hr2; clear hr2; have HCB := Lib.hid hcB; clear hcB; have HF2 := Lib.hid hf2; clear hf2)))
  clear hmk hmk1
  refine wp_alw ?_
  intro W1 hW1
  have h0A : Ch [] W0 wA := (((Ch.refl [] W0).alloc (.cells #[] 3)).mono (by simp)).trans HCA.out (fun k hk => .inr (by simp [Value.ownBlock] at hk; omega))
  have hd1 : ∀ k, (Value.slice da n dc).ownBlock = some k → W0.heap.size ≤ k := fun k hk => by
    rcases HF1.out k hk with e | e
    · simp at e; omega
    · have := ((Ch.refl [] W0).alloc (.cells #[] 3)).size; omega
  have h0B : Ch [] W0 wB := ((h0A.alloc (.cells #[.int .i64 0] 3))).trans HCB.out (fun k hk => .inr (hd1 k (by simpa using hk)))
  have hd2 : ∀ k, (Value.slice ea (n + 1) ec).ownBlock = some k → W0.heap.size ≤ k := fun k hk => by
    rcases HF2.out k hk with e | e
    · exact hd1 k e
    · have := (h0A.alloc (.cells #[.int .i64 0] 3)).size; omega
  have hBr : row (wB.alloc (.cells (metCells (List.replicate (n + 1) false)).toArray 3)) 3 1 (.slice (some ⟨wB.heap.size, 0, none⟩) (n + 1) (n + 1)) (n + 1) (metCells (List.replicate (n + 1) false)) := row.fresh9 _ _ (by simp [metCells]) (by omega)
  have hcl : Ch [] (wB.alloc (.cells (metCells (List.replicate (n + 1) false)).toArray 3)) W1 := by rw [hW1]; exact (Ch.refl _ _).alloc _
  have hB1 : Ch [] wB W1 := ((Ch.refl [] wB).alloc (.cells (metCells (List.replicate (n + 1) false)).toArray 3)).trans hcl (by simp)
  have hqb : blk W1 (wB.heap.size + 1) (metCells (List.replicate n false)) := by rw [hW1]; exact blk.new' _ _ (by simp)
  have hr1 := hBr.ch hcl (by simp)
  rw [metCells_ints] at hr1 hqb
  have hd := HR2.out.ch hB1 (by simp)
  have hdlt : ∀ k, (Value.slice ea (n + 1) ec).ownBlock = some k → k < wB.heap.size := fun k hk => (HR2.out.lt k hk).2
  rw [← HDM.out] at hd
  have h01 := h0B.trans hB1 (by simp)
  have hlow := HST.out.low
  have hW0l := HST.out.lt
  have hBs := h0B.size
  have hstA := (HST.out.same h01).word (v' := .slice (some ⟨wB.heap.size, 0, none⟩) (n + 1) (n + 1)) (l' := List.replicate (n + 1) 0) (by rw [List.length_replicate]; exact hr1) (fun q hq => by simp at hq; omega)
  have hsk : RSK w W1 rb rb cap (G, 0) (.slice (some ⟨wB.heap.size, 0, none⟩) (n + 1) (n + 1)) (List.replicate (n + 1) 0) [(.slice ea (n + 1) ec, D)] (wB.heap.size + 1) (qBits n []) := by
    refine ⟨hstA, fun p hp => ?_, fun p hp q hq => ?_, by rw [show qBits n [] = List.replicate n 0 by simp [qBits]]; exact hqb, by omega, by omega, by simp⟩
    · rw [List.mem_singleton.1 hp]
      simp only
      rw [HDL.out]
      exact hd
    · rw [List.mem_singleton.1 hp] at hq
      have h1 := hd2 q hq
      have h2 := hdlt q hq
      exact ⟨by omega, by omega, by simp; omega, by omega⟩
  have h00 : rdF D (G, 0) (XR.take 0) = ((G, 0), [], List.replicate (n + 1) 0) := by rw [List.take_zero]; unfold rdF; rw [HDL.out]; rfl
  have HSK := Lib.hid hsk; clear hsk hstA hdlt hd hr1 hqb hB1 hcl hBr hd2 h0B hd1 h0A hW1
  clear HR1 HR2 HCA HCB HF1 HF2 HBA HST HE0 HNA h01
  have H00 := Lib.hid h00; clear h00
  go_loopw [11, 13] (fun r i wr => ∃ (k rbk capk : Nat), k ≤ n ∧ i = .int .i64 ((n : Int) - 1 - k) ∧ RSK w wr rb rbk capk (rdF D (G, 0) (XR.take k)).1 r (rdF D (G, 0) (XR.take k)).2.2 [(.slice ea (n + 1) ec, D)] (wB.heap.size + 1) (qBits n (rdF D (G, 0) (XR.take k)).2.1)) (fun _ i _ => (intOf i + 1).toNat)
  case atStart => exact ⟨0, rb, cap, by omega, by simp, by rw [H00.out]; exact HSK.out⟩
  case round =>
    clear HSK H00
    obtain ⟨k, rbk, capk, hk, hi, hst⟩ := hrel
    by_cases hkn : k < n
    · obtain ⟨j, hj⟩ : ∃ j : Nat, j + k + 1 = n := ⟨n - 1 - k, by omega⟩
      have hij : (n : Int) - 1 - k = (j : Int) := by omega
      rw [hij] at hi
      subst hi
      clear hij
      obtain ⟨b, hb⟩ : ∃ b, X[j]? = some b := ⟨_, List.getElem?_eq_getElem (by rw [HN.out]; omega)⟩
      have hbr := HXR.out b (List.mem_of_getElem? hb)
      have hes := HFSN.out k b (HRV.out j k b hj hb)
      have hlk := (HFOK.out k).2.2
      rw [HXRL.out k hk] at hlk
      have hrl := (HFOK.out k).2.1
      have hok := (HFOK.out k).1
      generalize hEE : rdF D (G, 0) (XR.take (k + 1)) = EN at hes
      generalize rdF D (G, 0) (XR.take k) = ES at hes hst hlk hrl hok
      obtain ⟨⟨G2, q2⟩, qs, R⟩ := ES
      simp only at hst hes hlk hrl hok
      rw [HDL.out] at hrl
      have hDr2 : ∀ r ∈ D, r < 2 * G2.nodes.length := fun r hr => hok.s.ext.lt (HDR.out r hr)
      have hop := rdOk (qs := qs) hok.s (D := D) (b := b) (R := R) hDr2 (hok.s.ext.lt hbr) hok.lt
      have hdl := rdD_len D qs R (G2, q2) b (by rw [hrl, HDL.out]) (by rw [HDL.out]; omega)
      rw [HDL.out] at hdl
      unfold rdS at hes
      rw [rdM_take D qs R (G2, q2) b (n + 1) hrl HDL.out (by omega)] at hes
      obtain ⟨R2, hR2⟩ : ∃ R2, R2 = b :: R.dropLast := ⟨_, rfl⟩
      have hR2l : R2.length = n + 1 := by rw [hR2, List.length_cons, List.length_dropLast, hrl]; omega
      have hR2r : ∀ r ∈ R2, r < 2 * G2.nodes.length := fun r hr => by
        rw [hR2] at hr
        rcases List.mem_cons.1 hr with e | hr
        · rw [e]; exact hok.s.ext.lt hbr
        · exact hok.lt r ((List.dropLast_sublist _).subset hr)
      have eL : rdL D ((G2, q2), qs, R) b = negS (ltF (G2, q2) (R2.zip D)) := by rw [hR2]; rfl
      have eD : rdD D ((G2, q2), qs, R) b = subW (n + 1) (rdL D ((G2, q2), qs, R) b).1 R2 D := by rw [← hR2l, hR2]; rfl
      have hRc : intCells (natInts R2) = [.int .i64 b] ++ intCells (natInts (R.take n)) := by rw [hR2, List.dropLast_eq_take, hrl, Nat.add_sub_cancel]; simp [intCells, natInts]
      rw [← hR2] at hes
      simp only [← hR2] at hop
      have hv := ltF_preQ hok.s.ok hok.s.err (Z := R2.zip D) (fun p hp => ⟨hR2r _ (List.of_mem_zip hp).1, hDr2 _ (List.of_mem_zip hp).2⟩) _ (fun p hp => hp)
      have hp : (ltF (G2, q2) (R2.zip D)).2 ≤ 1000000 := by have h1 := hv.lt; have h2 := hv.s.ok.small; exact Nat.le_trans (Nat.le_of_lt h1) (by omega)
      have hLe := fun (W : World) (hW : RG W rbk capk G2) (a1 : Option Addr) (c1 : Nat) (s1 : Sl W a1 (natInts D)) (a2 : Option Addr) (c2 : Nat) (s2 : Sl W a2 (natInts R2)) => r23LeQ_is hW hok.s.err (n + 1) c1 c2 s1 s2 HDL.out hR2l (by omega) hDr2 hR2r hp
      rw [← eL] at hLe
      generalize rdL D ((G2, q2), qs, R) b = L at *
      generalize rdD D ((G2, q2), qs, R) b = E at *
      obtain ⟨⟨G3, q3⟩, f⟩ := L
      have hSub := fun (W : World) (rbx capx : Nat) (hW : RG W rbx capx G3) (a1 : Option Addr) (c1 : Nat) (s1 : Sl W a1 (natInts R2)) (a2 : Option Addr) (c2 : Nat) (s2 : Sl W a2 (natInts D)) => r23SubQ_is hW hop.l.s.err (n + 1) c1 c2 s1 s2 hR2l HDL.out (by omega) (fun r hr => hop.le.lt (hR2r r hr)) (fun r hr => hop.le.lt (hDr2 r hr))
      simp only at hSub hLe eD
      rw [← eD] at hSub
      obtain ⟨⟨G5, q5⟩, EL⟩ := E
      simp only at hes hdl hop
      have hf5 : f < 2 * G5.nodes.length := hop.de.lt hop.l.lt
      have hR5 : ∀ r ∈ R2, r < 2 * G5.nodes.length := fun r hr => hop.de.lt (hop.le.lt (hR2r r hr))
      have hE5 : ∀ r ∈ EL, r < 2 * G5.nodes.length := hop.e.lt
      have hcm := hop.m
      clear eL eD hv hp hop hDr2 hR2r hok
      -- the row of the rest
      have hrw := hst.st.rw
      obtain ⟨rg, rc, hrg⟩ := hrw.parts (by omega)
      subst hrg
      have hrcap := row_cap hrw
      obtain ⟨ab, ao, ae, ac⟩ := HX.out.cells j (b : Int) (by simp [natInts, hb])
      have ac2 := (hst.st.ch.cell (cell_lt ac) (by simp)).trans ac
      have abl := cell_lt ac
      subst ae
      have hrl2 : (intCells (natInts (R.take n))).length = n := by rw [intCells_len, List.length_take]; omega
      have hnews : ∀ (W : World), Ch [] wr W → ∀ i u, (intCells (natInts (R.take n)))[i]? = some u → W.cell? ((⟨rg, 0, none⟩ : Addr).add i) = some u := fun W hW i u hu => by
        have hu2 : (intCells (natInts R))[i]? = some u := by
          unfold intCells natInts at hu ⊢
          rw [List.map_take, List.map_take, List.getElem?_take] at hu
          split at hu
          · exact hu
          · cases hu
        have := hrw.cells (g := rg) rfl i u hu2
        have h2 := (hrw.lt rg rfl).2
        rw [Addr.add_lit] at this ⊢
        exact (hW.cell (p := ⟨rg, 0 + i, none⟩) h2 (by simp)).trans this
      have hoc := intCells_one (R.take n)
      obtain ⟨RC, hRC⟩ : ∃ RC, RC = intCells (natInts (R.take n)) := ⟨_, rfl⟩
      rw [← hRC] at hnews hoc hrl2 hRc
      rw [hrl] at hrcap
      clear hrw hRC ac
      have hjn : j < n := by omega
      have HJ := Lib.hid hj; clear hj
      have HST := Lib.hid hst; clear hst
      have HEE := Lib.hid hEE; clear hEE
      have HES := Lib.hid hes; clear hes
      have HLE := Lib.hid hLe; clear hLe
      have HSUB := Lib.hid hSub; clear hSub
      have HCM := Lib.hid hcm; clear hcm
      have HR5 := Lib.hid hR5; clear hR5
      have HE5 := Lib.hid hE5; clear hE5
      have HF5 := Lib.hid hf5; clear hf5
      have HNEWS := Lib.hid hnews; clear hnews
      have HOC := Lib.hid hoc; clear hoc
      have HRL2 := Lib.hid hrl2; clear hrl2
      have HRL := Lib.hid hrl; clear hrl
      have HRC := Lib.hid hRc; clear hRc
      have HLK := Lib.hid hlk; clear hlk
      have HDLL := Lib.hid hdl; clear hdl
      have HR2L := Lib.hid hR2l; clear hR2l hR2 hb hbr
      have hkk := hkn
      clear hkn hk
      obtain ⟨rl, hrleq⟩ : ∃ rl, rl = R.length := ⟨_, rfl⟩
      rw [HRL.out]
      clear hrleq rl
      go_upto_region 8 with fail
      go_cut [11] (fun r wd => ∃ (ra rc2 : Nat), r = .slice (some ⟨ra, 0, none⟩) (n + 1) rc2 ∧ Ch [] wr wd ∧ row wd 3 1 r (n + 1) (intCells (natInts R2)) ∧ wr.heap.size ≤ ra)
      case first =>
        refine Ord.St.door (fun _ => True) [.fl, .fl, .fl, .rd, .ef, .fl, .fl, .fl, .ef, .fl] [0, 0, 3, 7, 15, 0, 0, 96, 255, 511] [0, 1, 2, 3, 4, 5, 6, 7, 8, 9] mixed (by kernel_rfl) rfl ?_
        refine Ord.St.fl2 (T' := ?_) 0 [1, 2, 3, 4, 5, 6, 7, 8, 9] _ _ rfl (by kernel_rfl) rfl rfl rfl rfl (fun K w' hk => ?_) ?_
        rotate_left
        · go_step; exact hk
        refine Ord.St.fl2 (T' := ?_) 1 [2, 3, 4, 5, 6, 7, 8, 9] _ _ rfl (by kernel_rfl) rfl rfl rfl rfl (fun K w' hk => ?_) ?_
        rotate_left
        · go_step; exact hk
        refine Ord.St.fl2 (T' := ?_) 2 [3, 4, 5, 6, 7, 8, 9] _ _ rfl (by kernel_rfl) rfl rfl rfl rfl (fun K w' hk => ?_) ?_
        rotate_left
        · go_step; exact hk
        obtain ⟨Wc, hWc⟩ : ∃ Wc, Wc = wr.drew := ⟨_, rfl⟩
        try rw [← hWc]
        have hcur : Ch [] wr Wc := by rw [hWc]; exact (Ch.refl _ _).drew
        clear hWc
        have a0 := (hcur.cell (cell_lt ac2) (by simp)).trans ac2
        refine Ord.St.rd2 (T' := ?_) 3 [4, 5, 6, 7, 8, 9] _ _ rfl (by kernel_rfl) rfl rfl rfl rfl (fun K hk => ?_) ?_
        rotate_left
        · go_step; exact hk
        refine Ord.St.fl2 (T' := ?_) 5 [4, 6, 7, 8, 9] _ _ rfl (by kernel_rfl) rfl rfl rfl rfl (fun K w' hk => ?_) ?_
        rotate_left
        · go_step; exact hk
        refine Ord.St.fl2 (T' := ?_) 6 [4, 7, 8, 9] _ _ rfl (by kernel_rfl) rfl rfl rfl rfl (fun K w' hk => ?_) ?_
        rotate_left
        · go_step; exact hk
        refine Ord.St.fl2 (T' := ?_) 7 [4, 8, 9] _ _ rfl (by kernel_rfl) rfl rfl rfl rfl (fun K w' hk => ?_) ?_
        rotate_left
        · go_step; exact hk
        refine Ord.St.ef 4 [8, 9] _ rfl (by kernel_rfl) (fun K hK => ?_)
        go_wp2_with fail
        refine ⟨rfl, hK _ _ ?_⟩; clear hK K
        refine Ord.St.ef 8 [9] _ rfl (by kernel_rfl) (fun K hK => ?_)
        have hra : row (Wc.alloc (.cells #[.int .i64 b] 3)) 3 1 (.slice (some ⟨Wc.heap.size, 0, none⟩) 1 1) 1 [.int .i64 b] := row.fresh9 _ _ rfl (by omega)
        have hnw := HNEWS.out (Wc.alloc (.cells #[.int .i64 b] 3)) (hcur.alloc _)
        have HRA := Lib.hid hra; clear hra
        have HNW2 := Lib.hid hnw; clear hnw a0
        go_wp2_with (at_builtin; go_loud (refine wpList_append_row slInts rfl _ _ rfl (v := .slice (some ⟨Wc.heap.size, 0, none⟩) 1 1) (n := 1) (xs := [.int .i64 b]) rfl HRA.out (ad := ⟨rg, 0, none⟩) (m := n) (c := rc) (news := RC) rfl (by rw [HRL2.out, Nat.mul_one]) HNW2.out HOC.out (by omega) (by omega) ?_; intro v' w4 hown4 hC4 hf4; rw [Nat.add_comm 1 n, ← HRC.out] at hown4; obtain ⟨ga, gc, rfl⟩ := hown4.parts (by omega); have HO4 := Lib.hid hown4; clear hown4; have HC4 := Lib.hid hC4; clear hC4; have HF4 := Lib.hid hf4; clear hf4))
        refine ⟨rfl, hK _ _ ?_⟩; clear hK K
        refine Ord.St.fl2 (T' := ?_) 9 [] _ _ rfl (by kernel_rfl) rfl rfl rfl rfl (fun K w' hk => ?_) ?_
        rotate_left
        · go_step; exact hk
        refine Ord.St.nil ?_
        go_wp2_with fail
        go_meet
        case rel =>
          refine ⟨ga, gc, rfl, (hcur.alloc (.cells #[.int .i64 b] 3)).trans HC4.out (fun k hk => .inr (by simp at hk; have := hcur.size; omega)), HO4.out, ?_⟩
          have h1 := hcur.size
          have h2 := (hcur.alloc (.cells #[.int .i64 b] 3)).size
          rcases HF4.out ga rfl with e | e
          · simp at e; omega
          · omega
      case rest =>
        obtain ⟨ra, rc2, rfl, hcA, hrowA, hralo⟩ := hcut
        have hdk := HST.out.kw (.slice ea (n + 1) ec, D) (by simp)
        simp only at hdk
        rw [HDL.out] at hdk
        have hdlt : ∀ q, (Value.slice ea (n + 1) ec).ownBlock = some q → q < wr.heap.size := fun q hq => (hdk.lt q hq).2
        have hrbk := HST.out.st.rg.lt
        have hqbl := HST.out.qw.lt
        have hwl := HST.out.st.lt
        have hdA := hdk.ch hcA (by simp)
        have hRS := HST.out.same hcA
        have hra1 := (hrowA.lt ra rfl).2
        have hwc := hcA.size
        have hA := HLE.out wc hRS.st.rg ea ec (Sl.of_ints hdA (by omega)) (some ⟨ra, 0, none⟩) rc2 (Sl.of_ints hrowA (by omega))
        have y0 := hRS.st.b4.cell (i := 0) rfl
        have y1 := hRS.st.b4.cell (i := 1) rfl
        have y2 := hRS.st.b4.cell (i := 2) rfl
        have HA := Lib.hid hA; clear hA
        have HRS := Lib.hid hRS; clear hRS
        have HD := Lib.hid hdA; clear hdA hdk
        have HDLT := Lib.hid hdlt; clear hdlt
        have HRW := Lib.hid hrowA; clear hrowA hcA
        go_wp2_with fail
        refine HA.out.mono ?_
        rintro e w7 ⟨rb2, cap2, rfl, hrg2, hch, hfr3⟩
        have HRG2 := Lib.hid hrg2; clear hrg2
        have HCH := Lib.hid hch; clear hch y0 y1 y2 HA
        go_upto_region 10 with fail
        refine wp_alw ?_
        intro W8 hW8
        have hb8 : blk W8 w7.heap.size [.int .i64 G3.most, .slice (some ⟨rb2, 0, none⟩) G3.nodes.length cap2, .int .i64 q3] := by rw [hW8]; exact blk.new' _ _ rfl
        have hc8 : Ch [] w7 W8 := by rw [hW8]; exact (Ch.refl _ _).alloc _
        clear hW8
        have hc18 := HCH.out.trans hc8 (by simp)
        have x0 := hb8.cell (i := 0) rfl
        have x1 := hb8.cell (i := 1) rfl
        have x2 := hb8.cell (i := 2) rfl
        have hA := HSUB.out W8 rb2 cap2 (HRG2.out.ch hc8 (by simp)) (some ⟨ra, 0, none⟩) rc2 (Sl.of_ints (HRW.out.ch hc18 (by simp)) (by omega)) ea ec (Sl.of_ints (HD.out.ch hc18 (by simp)) (by omega))
        have HA2 := Lib.hid hA; clear hA hb8
        have hz8 := hc18.size
        have HC18 := Lib.hid hc18; clear hc18
        have HRX2 := Lib.hid (HRG2.out.ch hc8 (by simp)); clear HRG2 hc8
        go_wp2_with fail
        refine HA2.out.mono ?_
        rintro e w9 ⟨rb3, cap3, la, lc, rfl, hrg3, hch3, hfr4, hrow3, hown3⟩
        have hdl := HDLL.out
        simp only at hrow3 hown3 hrg3
        rw [hdl] at hrow3 hown3
        rw [hdl]
        obtain ⟨lb, lc2, hla⟩ := hrow3.parts (by omega)
        injection hla with hla1 hla2 hla3
        subst hla1
        clear hla2 hla3 hdl lc2
        have hlb := hown3 lb rfl
        have HRG3 := Lib.hid hrg3; clear hrg3
        have HROW3 := Lib.hid hrow3; clear hrow3 hown3
        have HCH3 := Lib.hid hch3; clear hch3 x0 x1 x2 HA2
        go_upto_region 11 with fail
        refine wp_alw ?_
        intro W10 hW10
        have hb10 : blk W10 w9.heap.size [.int .i64 G5.most, .slice (some ⟨rb3, 0, none⟩) G5.nodes.length cap3, .int .i64 q5] := by rw [hW10]; exact blk.new' _ _ rfl
        have hc10 : Ch [] w9 W10 := by rw [hW10]; exact (Ch.refl _ _).alloc _
        clear hW10
        have hcW := (HC18.out.trans HCH3.out (by simp)).trans hc10 (by simp)
        have x0 := hb10.cell (i := 0) rfl
        have x1 := hb10.cell (i := 1) rfl
        have x2 := hb10.cell (i := 2) rfl
        have hbp := (HRS.out.same hcW).st.b4
        have f0 := hbp.frozen (i := 0)
        have f1 := hbp.frozen (i := 1)
        have f2 := hbp.frozen (i := 2)
        have y0 := hbp.cell (i := 0) rfl
        have y1 := hbp.cell (i := 1) rfl
        have y2 := hbp.cell (i := 2) rfl
        have hrx3 := HRG3.out.ch hc10 (by simp)
        have hrl3 := HROW3.out.ch hc10 (by simp)
        have HCW := Lib.hid hcW; clear hcW hbp hb10
        have HRX3 := Lib.hid hrx3; clear hrx3 HRG3
        have HRL3 := Lib.hid hrl3; clear hrl3 HROW3 hc10
        go_upto_region 12 with fail
        refine wp_alw ?_
        intro W11 hW11
        have hsp := HRS.out.put HCW.out HRX3.out (by rcases hfr3 with e | e <;> rcases hfr4 with e2 | e2 <;> omega) hW11
        have hcs := set3_ch hW11
        have hrk := (HRW.out.ch HCW.out (by simp)).ch hcs (fun q hq => by simp at hq; simp; omega)
        have hlk3 := HRL3.out.ch hcs (fun q hq => by simp at hq; simp; omega)
        have hlw := (hlk3.lt lb rfl).2
        have hs0 := ((hsp.word (v' := .slice (some ⟨ra, 0, none⟩) (n + 1) rc2) (l' := R2) (by rw [HR2L.out]; exact hrk) (fun q hq => by
          simp at hq
          subst hq
          refine ⟨by omega, by rcases hfr3 with e | e <;> rcases hfr4 with e2 | e2 <;> omega, by omega, fun p hp e => ?_⟩
          rw [List.mem_singleton.1 hp] at e
          have := HDLT.out _ e
          omega)).keep).more (u := .slice (some ⟨lb, 0, none⟩) (n + 1) lc) (m := EL) (by rw [HDLL.out]; exact hlk3) (fun q hq => by
          simp at hq
          subst hq
          exact ⟨by omega, hlb.2, by simp [Value.ownBlock], by omega⟩)
        clear hW11 hcs x0 x1 x2 y0 y1 y2 f0 f1 f2 hsp hrk hlk3 hlb hfr3 hfr4
        have HS0 := Lib.hid hs0; clear hs0
        clear HRS HRX2 HC18 HCH3 HCW HRX3 HRL3 HRW HD HST HLE HSUB HNEWS HCH ac2
        go_wp2_with fail
        go_loopw [18, 19] (fun nx i wq => ∃ (m rbj capj : Nat), m ≤ n + 1 ∧ i = .int .i64 m ∧ RSK w wq rb rbj capj (chF f (G5, q5) ((EL.zip R2).take m)).1 nx (chF f (G5, q5) ((EL.zip R2).take m)).2 [(.slice (some ⟨lb, 0, none⟩) (n + 1) lc, EL), (.slice (some ⟨ra, 0, none⟩) (n + 1) rc2, R2), (.slice ea (n + 1) ec, D)] (wB.heap.size + 1) (qBits n qs)) (fun _ i _ => n + 1 - (intOf i).toNat)
        case atStart => exact ⟨0, rb3, cap3, by omega, rfl, by rw [List.take_zero]; exact HS0.out⟩
        case round =>
          clear HS0
          obtain ⟨m, rbj, capj, hm, rfl, hs⟩ := hrel
          have hlen := chF_len f (G5, q5) ((EL.zip R2).take m)
          rw [List.length_take, List.length_zip, HDLL.out, HR2L.out] at hlen
          by_cases hmn : m < n + 1
          · obtain ⟨u, hu⟩ : ∃ u, EL[m]? = some u := ⟨_, List.getElem?_eq_getElem (by rw [HDLL.out]; exact hmn)⟩
            obtain ⟨v, hv⟩ : ∃ v, R2[m]? = some v := ⟨_, List.getElem?_eq_getElem (by rw [HR2L.out]; exact hmn)⟩
            have hzz : (EL.zip R2)[m]? = some (u, v) := List.getElem?_zip_eq_some.2 ⟨hu, hv⟩
            have hrw := chF_snoc f (G5, q5) ((EL.zip R2).take m) (u, v)
            have htk : (EL.zip R2).take (m + 1) = (EL.zip R2).take m ++ [(u, v)] := by rw [List.take_add_one, hzz]; rfl
            rw [← htk] at hrw
            have hcm := HCM.out m
            have hu5 := HE5.out u (List.mem_of_getElem? hu)
            have hv5 := HR5.out v (List.mem_of_getElem? hv)
            generalize hAA : chF f (G5, q5) ((EL.zip R2).take (m + 1)) = AN at hrw
            generalize chF f (G5, q5) ((EL.zip R2).take m) = AS at hrw hcm hs hlen
            obtain ⟨⟨G6, q6⟩, lp⟩ := AS
            unfold eachS sMux at hrw
            simp only at hs hrw hlen
            have hlp : lp.length = m := by omega
            have hM := fun (W : World) (hW : Ch [] wr W) => r23Mux_is (q := q6) (hs.st.rg.ch hW (by simp)) (hcm.s.ext.lt HF5.out) (hcm.s.ext.lt hu5) (hcm.s.ext.lt hv5)
            obtain ⟨⟨⟨G7, q7⟩, p7⟩, hR⟩ : ∃ T : Mk × Nat, T = rstep (G6, q6) (rMux G6 f u v) := ⟨_, rfl⟩
            simp only [← hR] at hrw hM
            subst hrw
            have hkl := hs.kw (.slice (some ⟨lb, 0, none⟩) (n + 1) lc, EL) (by simp)
            have hkr := hs.kw (.slice (some ⟨ra, 0, none⟩) (n + 1) rc2, R2) (by simp)
            have ha1 : wr.cell? ⟨lb, m, none⟩ = some (.int .i64 u) := row.at9 hkl (intCells_at hu)
            have hb1 : wr.cell? ⟨ra, m, none⟩ = some (.int .i64 v) := row.at9 hkr (intCells_at hv)
            have hrlj := hs.st.rg.lt
            have q1 : decide ((m : Int) ≤ (n : Int)) = true := decide_eq_true (by omega)
            clear hR hcm hu hv hzz htk hu5 hv5 hkl hkr hlen
            have HA1 := Lib.hid ha1; clear ha1
            have HB1 := Lib.hid hb1; clear hb1
            have HAA := Lib.hid hAA; clear hAA
            have HM := Lib.hid hM; clear hM
            have HLEN := Lib.hid hlp; clear hlp
            have HS := Lib.hid hs; clear hs
            go_upto_region 16 with fail
            go_cut [20, 21] (fun p q wd => TS wr wd rbj ((G7, q7), p7) p q)
            case first =>
              refine Ord.St.door (fun w' => Ch [] wr w') [.ho, .fl, .fl, .fl, .fl, .ho, .fl, .fl, .fl, .ho, .ef, .fl, .fl, .fl, .ef, .ef, .fl] [0, 0, 0, 0, 12, 28, 0, 0, 192, 448, 1023, 2047, 4095, 4095, 0, 24575, 65535] [0, 1, 2, 3, 4, 5, 6, 7, 8, 9, 10, 11, 12, 13, 14, 15, 16] mixed (by kernel_rfl) rfl ?_
              obtain ⟨Wc, hWc⟩ : ∃ Wc, Wc = wr.drew := ⟨_, rfl⟩
              rw [← hWc]
              have hcur : Ch [] wr Wc := by rw [hWc]; exact (Ch.refl _ _).drew
              clear hWc
              refine Ord.St.ho2 (T' := ?_) 0 [1, 2, 3, 4, 5, 6, 7, 8, 9, 10, 11, 12, 13, 14, 15, 16] _ _ rfl (by kernel_rfl) rfl rfl rfl rfl ?_ (fun K w' hw' hk => ?_) ?_
              rotate_left
              · trivial
              · have hb4 := (HS.out.same hw').st.b4; have y0 := hb4.cell (i := 0) rfl; have y1 := hb4.cell (i := 1) rfl; have y2 := hb4.cell (i := 2) rfl; have a0 := (hw'.cell (cell_lt HA1.out) (by simp)).trans HA1.out; have b0 := (hw'.cell (cell_lt HB1.out) (by simp)).trans HB1.out; clear hb4; go_step; exact hk
              refine Ord.St.fl2 (T' := ?_) 1 [2, 3, 4, 5, 6, 7, 8, 9, 10, 11, 12, 13, 14, 15, 16] _ _ rfl (by kernel_rfl) rfl rfl rfl rfl (fun K w' hk => ?_) ?_
              rotate_left
              · go_step; exact hk
              refine Ord.St.fl2 (T' := ?_) 2 [3, 4, 5, 6, 7, 8, 9, 10, 11, 12, 13, 14, 15, 16] _ _ rfl (by kernel_rfl) rfl rfl rfl rfl (fun K w' hk => ?_) ?_
              rotate_left
              · go_step; exact hk
              refine Ord.St.fl2 (T' := ?_) 3 [4, 5, 6, 7, 8, 9, 10, 11, 12, 13, 14, 15, 16] _ _ rfl (by kernel_rfl) rfl rfl rfl rfl (fun K w' hk => ?_) ?_
              rotate_left
              · go_step; exact hk
              refine Ord.St.fl2 (T' := ?_) 4 [5, 6, 7, 8, 9, 10, 11, 12, 13, 14, 15, 16] _ _ rfl (by kernel_rfl) rfl rfl rfl rfl (fun K w' hk => ?_) ?_
              rotate_left
              · go_step; exact hk
              refine Ord.St.ho2 (T' := ?_) 5 [6, 7, 8, 9, 10, 11, 12, 13, 14, 15, 16] _ _ rfl (by kernel_rfl) rfl rfl rfl rfl ?_ (fun K w' hw' hk => ?_) ?_
              rotate_left
              · trivial
              · have hb4 := (HS.out.same hw').st.b4; have y0 := hb4.cell (i := 0) rfl; have y1 := hb4.cell (i := 1) rfl; have y2 := hb4.cell (i := 2) rfl; have a0 := (hw'.cell (cell_lt HA1.out) (by simp)).trans HA1.out; have b0 := (hw'.cell (cell_lt HB1.out) (by simp)).trans HB1.out; clear hb4; go_step; exact hk
              refine Ord.St.fl2 (T' := ?_) 6 [7, 8, 9, 10, 11, 12, 13, 14, 15, 16] _ _ rfl (by kernel_rfl) rfl rfl rfl rfl (fun K w' hk => ?_) ?_
              rotate_left
              · go_step; exact hk
              refine Ord.St.fl2 (T' := ?_) 7 [8, 9, 10, 11, 12, 13, 14, 15, 16] _ _ rfl (by kernel_rfl) rfl rfl rfl rfl (fun K w' hk => ?_) ?_
              rotate_left
              · go_step; exact hk
              refine Ord.St.fl2 (T' := ?_) 8 [9, 10, 11, 12, 13, 14, 15, 16] _ _ rfl (by kernel_rfl) rfl rfl rfl rfl (fun K w' hk => ?_) ?_
              rotate_left
              · go_step; exact hk
              refine Ord.St.ho2 (T' := ?_) 9 [10, 11, 12, 13, 14, 15, 16] _ _ rfl (by kernel_rfl) rfl rfl rfl rfl ?_ (fun K w' hw' hk => ?_) ?_
              rotate_left
              · trivial
              · have hb4 := (HS.out.same hw').st.b4; have y0 := hb4.cell (i := 0) rfl; have y1 := hb4.cell (i := 1) rfl; have y2 := hb4.cell (i := 2) rfl; have a0 := (hw'.cell (cell_lt HA1.out) (by simp)).trans HA1.out; have b0 := (hw'.cell (cell_lt HB1.out) (by simp)).trans HB1.out; clear hb4; go_step; exact hk
              refine Ord.St.two 10 14 [11, 12, 13, 14, 15, 16] [10, 11, 12, 13, 15, 16] _ _ (by kernel_rfl) rfl rfl (by kernel_rfl) (by kernel_rfl) (fun K hK => ?_) (fun K hK => ?_)
              · have HA := Lib.hid (HM.out _ hcur)
                go_wp2_with fail
                refine HA.out.mono ?_
                rintro e w7 ⟨rb2, cap2, rfl, hrg2, hch, hfr3⟩
                go_wp2_with fail
                refine ⟨rfl, hK _ _ ?_ ?_⟩
                · exact hcur.trans hch (by simp)
                clear hK K
                try have hne := rto_ne hb9 (by omega) hfr3
                try replace hb9 := hb9.ch hch (by simp)
                have hfr5 : rb2 = rbj ∨ wr.heap.size ≤ rb2 := by have := hcur.size; rcases hfr3 with e | e <;> omega
                replace hcur := hcur.trans hch (by simp)
                clear hch hfr3 HA
                refine Ord.St.fl2 (T' := ?_) 11 [12, 13, 14, 15, 16] _ _ rfl (by kernel_rfl) rfl rfl rfl rfl (fun K w' hk => ?_) ?_
                rotate_left
                · go_step; exact hk
                refine Ord.St.fl2 (T' := ?_) 12 [13, 14, 15, 16] _ _ rfl (by kernel_rfl) rfl rfl rfl rfl (fun K w' hk => ?_) ?_
                rotate_left
                · go_step; exact hk
                refine Ord.St.fl2 (T' := ?_) 13 [14, 15, 16] _ _ rfl (by kernel_rfl) rfl rfl rfl rfl (fun K w' hk => ?_) ?_
                rotate_left
                · go_step; exact hk
                refine Ord.St.efC 14 [15, 16] _ rfl (by kernel_rfl) (fun K hK => ?_)
                go_wp2_with fail
                refine ⟨rfl, hK _ _ ?_ ?_⟩
                · exact hcur.alloc _
                clear hK K
                refine Ord.St.alw ?_; intro Wn hWn
                have hb9 := alw_blk (xs := [.int .i64 0, .slice none 0 0, .int .i64 0]) hWn
                have hs9 := hcur.size
                try have hne := rg_ne hrg2
                try replace hrg2 := hrg2.ch (alw_ch hWn) (by simp)
                replace hcur := hcur.trans (alw_ch hWn) (by simp)
                clear hWn
                first | (have _t := hrg2; clear _t; generalize w7.heap.size = b9 at *) | generalize Wc.heap.size = b9 at *
                refine Ord.St.ef 15 [16] _ rfl (by kernel_rfl) (fun K hK => ?_)
                have z0 := hb9.cell (i := 0) rfl
                have z1 := hb9.cell (i := 1) rfl
                have z2 := hb9.cell (i := 2) rfl
                have g0 := hb9.frozen (i := 0)
                have g1 := hb9.frozen (i := 1)
                have g2 := hb9.frozen (i := 2)
                have HRG2 := Lib.hid hrg2; clear hrg2
                have HB9 := Lib.hid hb9; clear hb9
                have HCUR := Lib.hid hcur; clear hcur
                go_wp2_with fail
                refine ⟨rfl, hK _ _ ?_⟩; clear hK K
                refine Ord.St.fl2 (T' := ?_) 16 [] _ _ rfl (by kernel_rfl) rfl rfl rfl rfl (fun K w' hk => ?_) ?_
                rotate_left
                · go_step; exact hk
                refine Ord.St.nil ?_
                go_wp2_with fail
                go_meet
                case rel => exact TS.mk HCUR.out HRG2.out hfr5 HB9.out hs9 hne rfl
              · go_wp2_with fail
                refine ⟨rfl, hK _ _ ?_ ?_⟩
                · exact hcur.alloc _
                clear hK K
                refine Ord.St.alw ?_; intro Wn hWn
                have hb9 := alw_blk (xs := [.int .i64 0, .slice none 0 0, .int .i64 0]) hWn
                have hs9 := hcur.size
                try have hne := rg_ne hrg2
                try replace hrg2 := hrg2.ch (alw_ch hWn) (by simp)
                replace hcur := hcur.trans (alw_ch hWn) (by simp)
                clear hWn
                first | (have _t := hrg2; clear _t; generalize w7.heap.size = b9 at *) | generalize Wc.heap.size = b9 at *
                refine Ord.St.ef 10 [11, 12, 13, 15, 16] _ rfl (by kernel_rfl) (fun K hK => ?_)
                have HA := Lib.hid (HM.out _ hcur)
                go_wp2_with fail
                refine HA.out.mono ?_
                rintro e w7 ⟨rb2, cap2, rfl, hrg2, hch, hfr3⟩
                go_wp2_with fail
                refine ⟨rfl, hK _ _ ?_⟩; clear hK K
                try have hne := rto_ne hb9 (by omega) hfr3
                try replace hb9 := hb9.ch hch (by simp)
                have hfr5 : rb2 = rbj ∨ wr.heap.size ≤ rb2 := by have := hcur.size; rcases hfr3 with e | e <;> omega
                replace hcur := hcur.trans hch (by simp)
                clear hch hfr3 HA
                refine Ord.St.fl2 (T' := ?_) 11 [12, 13, 15, 16] _ _ rfl (by kernel_rfl) rfl rfl rfl rfl (fun K w' hk => ?_) ?_
                rotate_left
                · go_step; exact hk
                refine Ord.St.fl2 (T' := ?_) 12 [13, 15, 16] _ _ rfl (by kernel_rfl) rfl rfl rfl rfl (fun K w' hk => ?_) ?_
                rotate_left
                · go_step; exact hk
                refine Ord.St.fl2 (T' := ?_) 13 [15, 16] _ _ rfl (by kernel_rfl) rfl rfl rfl rfl (fun K w' hk => ?_) ?_
                rotate_left
                · go_step; exact hk
                refine Ord.St.ef 15 [16] _ rfl (by kernel_rfl) (fun K hK => ?_)
                have z0 := hb9.cell (i := 0) rfl
                have z1 := hb9.cell (i := 1) rfl
                have z2 := hb9.cell (i := 2) rfl
                have g0 := hb9.frozen (i := 0)
                have g1 := hb9.frozen (i := 1)
                have g2 := hb9.frozen (i := 2)
                have HRG2 := Lib.hid hrg2; clear hrg2
                have HB9 := Lib.hid hb9; clear hb9
                have HCUR := Lib.hid hcur; clear hcur
                go_wp2_with fail
                refine ⟨rfl, hK _ _ ?_⟩; clear hK K
                refine Ord.St.fl2 (T' := ?_) 16 [] _ _ rfl (by kernel_rfl) rfl rfl rfl rfl (fun K w' hk => ?_) ?_
                rotate_left
                · go_step; exact hk
                refine Ord.St.nil ?_
                go_wp2_with fail
                go_meet
                case rel => exact TS.mk HCUR.out HRG2.out hfr5 HB9.out hs9 hne rfl
            case rest =>
              obtain ⟨rb5, cap5, b5, rfl, rfl, hc5, hrg5, hfr5, hb5, hlo5⟩ := hcut
              have x0 := hb5.cell (i := 0) rfl
              have x1 := hb5.cell (i := 1) rfl
              have x2 := hb5.cell (i := 2) rfl
              have hbp := (HS.out.same hc5).st.b4
              have f0 := hbp.frozen (i := 0)
              have f1 := hbp.frozen (i := 1)
              have f2 := hbp.frozen (i := 2)
              have y0 := hbp.cell (i := 0) rfl
              have y1 := hbp.cell (i := 1) rfl
              have y2 := hbp.cell (i := 2) rfl
              clear hbp
              have HCX := Lib.hid hc5; clear hc5
              have HRX := Lib.hid hrg5; clear hrg5
              have HBX := Lib.hid hb5; clear hb5
              go_upto_region 18 with fail
              refine wp_alw ?_
              intro W9 hW9
              have hs := HS.out.put HCX.out HRX.out hfr5 hW9
              clear hW9 x0 x1 x2 y0 y1 y2 f0 f1 f2 HRX HBX
              have hlen9 := HLEN.out
              obtain ⟨na, nc, rfl⟩ := row.shape hs.st.rw
              have hrA := (hs.same (W' := W9.alloc (.cells #[.int .i64 p7] 3)) ((Ch.refl _ _).alloc _)).st.rw
              have hbA : blk (W9.alloc (.cells #[.int .i64 p7] 3)) W9.heap.size [.int .i64 p7] := blk.new' _ _ rfl
              have HRA := Lib.hid hrA; clear hrA
              have HBA := Lib.hid hbA; clear hbA
              have HS9 := Lib.hid hs; clear hs
              go_wp2_with (at_builtin; go_loud (refine wpList_append_row slInts rfl _ _ rfl (v := .slice na lp.length nc) (n := lp.length) (xs := intCells (natInts lp)) rfl HRA.out (ad := ⟨W9.heap.size, 0, none⟩) (m := 1) (c := 1) (news := [.int .i64 p7]) rfl rfl (news_blk HBA.out) (by simp [Value.oneCell']) (by omega) (by omega) ?_; intro v' w10 hown4 hC4 hf4; have HO4 := Lib.hid hown4; clear hown4; have HC4 := Lib.hid hC4; clear hC4; have HF4 := Lib.hid hf4; clear hf4))
              go_roundw
              case rel => exact ⟨m + 1, rb5, cap5, by omega, by go_num, by rw [HAA.out]; exact HS9.out.app HO4.out HC4.out HF4.out⟩
              case measure => simp [intOf]; omega
          · have hmn2 : m = n + 1 := by omega
            have hes := HES.out
            rw [← hmn2] at hes
            generalize chF f (G5, q5) ((EL.zip R2).take m) = AS at hes hs hlen
            obtain ⟨⟨G6, q6⟩, lp⟩ := AS
            simp only at hs hes hlen
            subst hes
            obtain ⟨na, nc, hna⟩ := row.shape hs.st.rw
            subst hna
            have hql : j < (qBits n qs).length := by rw [qBits_len (by rw [HLK.out]; omega)]; omega
            obtain ⟨old, hold⟩ : ∃ old, (intCells (natInts (qBits n qs)))[j]? = some old := ⟨_, List.getElem?_eq_getElem (by rw [intCells_len]; exact hql)⟩
            have c0 := hs.qw.cell hold
            have f0 := hs.qw.frozen (i := j)
            have hqlt := hs.qw.lt
            have HSF := Lib.hid hs; clear hs
            have q1 : decide ((m : Int) ≤ (n : Int)) = false := decide_eq_false (by omega)
            clear hql hold hlen hmn2
            go_wp2_with fail
            go_roundw
            case rel =>
              refine ⟨k + 1, rbj, capj, by omega, by congr 1; have := HJ.out; omega, ?_⟩
              rw [HEE.out]
              show RSK w _ rb rbj capj (G6, q6) _ lp _ _ (qBits n (qs ++ [f]))
              rw [← qBits_set HLK.out HJ.out]
              exact (HSF.out.less (K' := [(.slice ea (n + 1) ec, D)]) (by simp)).set j f rfl
            case measure => simp [intOf]
    · have hkn2 : k = n := by omega
      have hi2 : (n : Int) - 1 - k = -1 := by omega
      rw [hi2] at hi
      subst hi
      have hf := HFOK.out n
      rw [HXRL.out n (Nat.le_refl n), HALL.out] at hf
      rw [hkn2, HALL.out] at hst
      obtain ⟨_, hl1, hl2⟩ := hf
      rw [HDL.out] at hl1
      obtain ⟨⟨⟨G2, q2⟩, qs, R⟩, hES⟩ : ∃ ES, ES = rdF D (G, 0) XR := ⟨_, rfl⟩
      rw [← hES] at hst hl1 hl2
      simp only at hst hl1 hl2
      rw [qBits_all hl2] at hst
      have HES := Lib.hid hES; clear hES hi2 hkn2
      have hrw := hst.st.rw
      obtain ⟨rg, rc, hrg⟩ := hrw.parts (by omega)
      subst hrg
      have hrcap := row_cap hrw
      rw [hl1] at hrcap
      rw [hl1] at hst
      rw [hl1]
      have hgl := (hrw.lt rg rfl).2
      have y0 := hst.st.b4.cell (i := 0) rfl
      have y1 := hst.st.b4.cell (i := 1) rfl
      have y2 := hst.st.b4.cell (i := 2) rfl
      have v0 := hst.st.b8.cell (i := 0) rfl
      have v1 := hst.st.b8.cell (i := 1) rfl
      have v2 := hst.st.b8.cell (i := 2) rfl
      have g0 := hst.st.b8.frozen (i := 0)
      have g1 := hst.st.b8.frozen (i := 1)
      have g2 := hst.st.b8.frozen (i := 2)
      have hl8 := hst.st.b8.lt
      have HST := Lib.hid hst; clear hst hrw
      have HL1 := Lib.hid hl1; clear hl1
      have HL2 := Lib.hid hl2; clear hl2
      go_wp2_with fail
      refine Ord.St.door (fun _ => True) [.rd, .fl, .fl, .fl, .fl, .ef, .fl, .fl] [0, 0, 0, 0, 12, 1, 35, 127] [0, 1, 2, 3, 4, 5, 6, 7] mixed (by kernel_rfl) rfl ?_
      refine Ord.St.rd2 (T' := ?_) 0 [1, 2, 3, 4, 5, 6, 7] _ _ rfl (by kernel_rfl) rfl rfl rfl rfl (fun K hk => ?_) ?_
      rotate_left
      · go_step; exact hk
      refine Ord.St.fl2 (T' := ?_) 1 [2, 3, 4, 5, 6, 7] _ _ rfl (by kernel_rfl) rfl rfl rfl rfl (fun K w' hk => ?_) ?_
      rotate_left
      · go_step; exact hk
      refine Ord.St.fl2 (T' := ?_) 2 [3, 4, 5, 6, 7] _ _ rfl (by kernel_rfl) rfl rfl rfl rfl (fun K w' hk => ?_) ?_
      rotate_left
      · go_step; exact hk
      refine Ord.St.fl2 (T' := ?_) 3 [4, 5, 6, 7] _ _ rfl (by kernel_rfl) rfl rfl rfl rfl (fun K w' hk => ?_) ?_
      rotate_left
      · go_step; exact hk
      refine Ord.St.fl2 (T' := ?_) 4 [5, 6, 7] _ _ rfl (by kernel_rfl) rfl rfl rfl rfl (fun K w' hk => ?_) ?_
      rotate_left
      · go_step; exact hk
      refine Ord.St.ef 5 [6, 7] _ rfl (by kernel_rfl) (fun K hK => ?_)
      go_wp2_with fail
      refine ⟨rfl, hK _ _ ?_⟩; clear hK K
      refine Ord.St.fl2 (T' := ?_) 6 [7] _ _ rfl (by kernel_rfl) rfl rfl rfl rfl (fun K w' hk => ?_) ?_
      rotate_left
      · go_step; exact hk
      refine Ord.St.fl2 (T' := ?_) 7 [] _ _ rfl (by kernel_rfl) rfl rfl rfl rfl (fun K w' hk => ?_) ?_
      rotate_left
      · go_step; exact hk
      refine Ord.St.nil ?_
      go_wp2_with fail
      refine bodyPost_ret (v := .tuple #[.agg #[.int .i64 G2.most, .slice (some ⟨rbk, 0, none⟩) G2.nodes.length capk, .int .i64 q2], .slice (some ⟨wB.heap.size + 1, 0, none⟩) n n, .slice (some ⟨rg, 0, none⟩) n rc]) (by simp [results, Tryz.results301, go_sem, v0, v1, v2]) rfl ?_
      show B2To w rb ((rdF D (G, 0) XR).1, (rdF D (G, 0) XR).2.1.reverse, (rdF D (G, 0) XR).2.2.take n) _ _
      rw [← HES.out]
      refine B2To.same (HST.out.fin2 (by rw [List.length_reverse]; exact HL2.out) HL1.out (by omega) rfl) ?_
      exact (Ch.refl _ _).drew
end Go.Proofs.YtehljgigebhddaaGreat
namespace Go.Aig
/-- what the reference makes, of words that are right: a state, and two words -/
def RF24 (k : Nat) (G : Gra) (X Y : List Nat) (N : Nat) : Mk × List Nat × List Nat :=
  match k with
  | 0 => ((rmF X (G, 0) Y).1, (rmF X (G, 0) Y).2, [])
  | 1 => ((rdF (Y ++ [0]) (G, 0) X.reverse).1, (rdF (Y ++ [0]) (G, 0) X.reverse).2.1.reverse, [])
  | 2 => ((rdF (Y ++ [0]) (G, 0) X.reverse).1, (rdF (Y ++ [0]) (G, 0) X.reverse).2.2.take X.length, [])
  | 3 => ((rdF (Y ++ [0]) (G, 0) X.reverse).1, (rdF (Y ++ [0]) (G, 0) X.reverse).2.1.reverse, (rdF (Y ++ [0]) (G, 0) X.reverse).2.2.take X.length)
  | 4 => ((rmF X (G, 0) X).1, (rmF X (G, 0) X).2, [])
  | _ => ((rmF X (G, 0) (constL N X.length)).1, (rmF X (G, 0) (constL N X.length)).2, [])
/-- what is wrong with an act -/
def f24 (k : Nat) (G : Gra) (X Y : List Int) : Nat := chk24 G (if 3 < k then [X] else [X, Y])
def fin24 (G : Gra) (R : Mk × List Nat × List Nat) : Gra × List Nat × List Nat × Nat := if R.1.2 ≠ 0 then (G, [], [], R.1.2) else (R.1.1, R.2.1, R.2.2, 0)
/-- what an act leaves: a graph, two words, an error -/
def P24 (k : Nat) (G : Gra) (X Y : List Int) (N : Nat) : Gra × List Nat × List Nat × Nat := if f24 k G X Y ≠ 0 then (G, [], [], f24 k G X Y) else fin24 G (RF24 k G (nats X) (nats Y) N)
/-- one word, and none -/
def one24 (R : Gra × List Nat × Nat) : Gra × List Nat × List Nat × Nat := (R.1, R.2.1, [], R.2.2)
theorem sameE_wres {a b : Mk × List Nat} (h : SameE a b) (G : Gra) : one24 (wres G a) = fin24 G (b.1, b.2, []) := by
  unfold wres fin24 one24
  by_cases h0 : a.1.2 = 0
  · rw [h.2 h0, ← h.2 h0]
    by_cases h1 : a.1.2 = 0
    · simp [h1]
    · exact absurd h0 h1
  · have h1 : b.1.2 ≠ 0 := by rw [← h.1]; exact h0
    rw [if_pos h0, if_pos h1, h.1]
theorem sameE_bres {a b : Mk × List Nat × List Nat} (h : SameE a b) (G : Gra) (n : Nat) : bres G n a = bres G n b := by
  by_cases h0 : a.1.2 = 0
  · rw [h.2 h0]
  · have h1 : b.1.2 ≠ 0 := by rw [← h.1]; exact h0
    unfold bres
    rw [if_pos h0, if_pos h1, h.1]
theorem nats_len9 (l : List Int) : (nats l).length = l.length := by simp [nats]
theorem mulG_eq {G : Gra} {X Y : List Int} (h : chk24 G [X, Y] = 0) : one24 (mulG G X Y) = fin24 G ((rmF (nats X) (G, 0) (nats Y)).1, (rmF (nats X) (G, 0) (nats Y)).2, []) := by
  have hc := chk24_ok h
  unfold mulG
  rw [if_neg (by simp [h])]
  exact sameE_wres (rm_same (nats X) (nats Y) (by rw [nats_len9, nats_len9]; have := hc.len; omega)) G
theorem bothG_eq {G : Gra} {X Y : List Int} (h : chk24 G [X, Y] = 0) : bothG G X Y = bres G X.length (rdF (nats Y ++ [0]) (G, 0) (nats X).reverse) := by
  unfold bothG
  rw [if_neg (by simp [h])]
  exact sameE_bres (rd_same _ _) G _
theorem chk24_self {G : Gra} (X : List Int) : chk24 G [X, X] = chk24 G [X] := by
  unfold chk24
  simp only [List.any_cons, List.any_nil, Bool.or_false, List.headD_cons, Bool.or_self]
theorem constL_len9 (n k : Nat) : (constL n k).length = k := by simp [constL]
theorem constL_bit9 (n k : Nat) : ∀ r ∈ constL n k, r < 2 := fun r hr => by
  unfold constL at hr
  obtain ⟨i, _, rfl⟩ := List.mem_map.1 hr
  cases n.testBit i <;> simp
theorem nats_back (l : List Nat) : nats (natInts l) = l := by
  unfold nats natInts
  rw [List.map_map, show (Int.toNat ∘ fun (r : Nat) => (r : Int)) = id from rfl, List.map_id]
theorem chk24_times {G : Gra} (hG : Ok G) {X : List Int} (n : Nat) (h : chk24 G [X] = 0) : chk24 G [X, natInts (constL n X.length)] = 0 := by
  obtain ⟨h1, h16, hn, hlt⟩ := chk24_one h
  have hb : badIn G (natInts (constL n X.length)) = false := by
    unfold badIn
    rw [List.any_eq_false]
    intro r hr
    obtain ⟨z, hz, rfl⟩ := List.mem_map.1 hr
    have := constL_bit9 _ _ z hz
    have := hG.wf.pos
    simp [right]; omega
  have hx : badIn G X = false := by
    unfold chk24 at h
    split at h
    · cases h
    · split at h
      · cases h
      · rename_i h2; simpa using h2
  unfold chk24
  have e1 : ∀ m, m = X.length → bad24 m X = false := fun m hm => by unfold bad24; rw [decide_eq_false (by omega), decide_eq_false (by omega), decide_eq_false (by omega)]; rfl
  have e2 : ∀ m, m = X.length → bad24 m (natInts (constL n X.length)) = false := fun m hm => by
    have hl : (natInts (constL n X.length)).length = X.length := by simp [natInts, constL]
    unfold bad24; rw [hl, decide_eq_false (by omega), decide_eq_false (by omega), decide_eq_false (by omega)]; rfl
  simp only [List.any_cons, List.any_nil, List.headD_cons, e1 _ rfl, e2 _ rfl, hb, hx, Bool.or_self, Bool.false_eq_true, if_false]
theorem P24_one {k : Nat} {G : Gra} {X Y : List Int} {N : Nat} {R : Gra × List Nat × Nat} (hbad : f24 k G X Y ≠ 0 → R = (G, [], f24 k G X Y)) (hok : f24 k G X Y = 0 → one24 R = fin24 G (RF24 k G (nats X) (nats Y) N)) : P24 k G X Y N = (R.1, R.2.1, [], R.2.2) := by
  unfold P24
  by_cases h : f24 k G X Y = 0
  · rw [if_neg (by simp [h]), ← hok h]; rfl
  · rw [if_pos h, hbad h]
theorem P24_0 {G : Gra} (_hG : Ok G) (X Y : List Int) (N : Nat) : P24 0 G X Y N = ((mulG G X Y).1, (mulG G X Y).2.1, [], (mulG G X Y).2.2) :=
  P24_one (fun h => by unfold mulG; rw [if_pos (by exact h)]; rfl) (fun h => mulG_eq h)
theorem P24_3 {G : Gra} (_hG : Ok G) (X Y : List Int) (N : Nat) : P24 3 G X Y N = ((bothG G X Y).1, (bothG G X Y).2.1.1, (bothG G X Y).2.1.2, (bothG G X Y).2.2) := by
  unfold P24
  by_cases h : f24 3 G X Y = 0
  · rw [if_neg (by simp [h]), bothG_eq h]
    unfold fin24 bres RF24
    simp only [nats_len9]
    split <;> rfl
  · rw [if_pos h]; unfold bothG; rw [if_pos (by exact h)]; rfl
theorem P24_1 {G : Gra} (_hG : Ok G) (X Y : List Int) (N : Nat) : P24 1 G X Y N = ((bothG G X Y).1, (bothG G X Y).2.1.1, [], (bothG G X Y).2.2) := by
  unfold P24
  by_cases h : f24 1 G X Y = 0
  · rw [if_neg (by simp [h]), bothG_eq h]
    unfold fin24 bres RF24
    simp only
    split <;> rfl
  · rw [if_pos h]; unfold bothG; rw [if_pos (by exact h)]; rfl
theorem P24_2 {G : Gra} (_hG : Ok G) (X Y : List Int) (N : Nat) : P24 2 G X Y N = ((bothG G X Y).1, (bothG G X Y).2.1.2, [], (bothG G X Y).2.2) := by
  unfold P24
  by_cases h : f24 2 G X Y = 0
  · rw [if_neg (by simp [h]), bothG_eq h]
    unfold fin24 bres RF24
    simp only [nats_len9]
    split <;> rfl
  · rw [if_pos h]; unfold bothG; rw [if_pos (by exact h)]; rfl
theorem P24_4 {G : Gra} (_hG : Ok G) (X Y : List Int) (N : Nat) : P24 4 G X Y N = ((mulG G X X).1, (mulG G X X).2.1, [], (mulG G X X).2.2) :=
  P24_one (fun h => by
    have e : f24 4 G X Y = chk24 G [X, X] := (chk24_self X).symm
    unfold mulG; rw [e] at h ⊢; rw [if_pos h]) (fun h => mulG_eq (by rw [chk24_self]; exact h))
theorem P24_5 {G : Gra} (hG : Ok G) (X Y : List Int) (N : Nat) : P24 5 G X Y N = ((timesG G X N).1, (timesG G X N).2.1, [], (timesG G X N).2.2) :=
  P24_one (fun h => by unfold timesG; rw [if_pos (by exact h)]; rfl) (fun h => by
    have h : chk24 G [X] = 0 := h
    unfold timesG
    rw [if_neg (by simp [h]), mulG_eq (chk24_times hG N h), nats_back]
    unfold RF24
    simp only [nats_len9])
theorem rmF_len0 {x : List Nat} (s : Mk) {y : List Nat} (h : y.length ≤ x.length) : (rmF x s y).2.length ≤ x.length := by
  by_cases h1 : 1 ≤ y.length
  · rw [rmF_len s y h1 h]; exact Nat.le_refl _
  · rw [List.length_eq_zero_iff.1 (by omega : y.length = 0)]; simp [rmF]
theorem f24_one {k : Nat} {G : Gra} {X Y : List Int} (h : f24 k G X Y = 0) : 1 ≤ X.length ∧ X.length ≤ 16 ∧ natInts (nats X) = X ∧ ∀ r ∈ nats X, r < 2 * G.nodes.length := by
  unfold f24 at h
  split at h
  · exact chk24_one h
  · have := chk24_ok h; exact ⟨this.lo, this.hi, this.ex, this.rx⟩
theorem f24_two {k : Nat} {G : Gra} {X Y : List Int} (h3 : k ≤ 3) (h : f24 k G X Y = 0) : Y.length = X.length ∧ natInts (nats Y) = Y ∧ ∀ r ∈ nats Y, r < 2 * G.nodes.length := by
  unfold f24 at h
  rw [if_neg (by omega)] at h
  have := chk24_ok h; exact ⟨this.len, this.ey, this.ry⟩
theorem RF24_len {k : Nat} {G : Gra} (hG : Ok G) {X Y : List Nat} {N n : Nat} (hn : X.length = n) (hm : k ≤ 3 → Y.length = n) (hx : ∀ r ∈ X, r < 2 * G.nodes.length) (hy : k ≤ 3 → ∀ r ∈ Y, r < 2 * G.nodes.length) : (RF24 k G X Y N).2.1.length ≤ n ∧ (RF24 k G X Y N).2.2.length ≤ n := by
  have hd := fun (h : k ≤ 3) => rdF_ok hG (D := Y ++ [0]) (by simp) (fun r hr => by
    rcases List.mem_append.1 hr with hr | hr
    · exact hy h r hr
    · rw [List.mem_singleton.1 hr]; have := hG.wf.pos; omega) X.reverse (fun r hr => hx r (List.mem_reverse.1 hr))
  match k, hm, hd with
  | 0, hm, _ => exact ⟨by have := rmF_len0 (x := X) (G, 0) (y := Y) (by rw [hm (by omega)]; omega); show (rmF X (G, 0) Y).2.length ≤ n; omega, by show 0 ≤ n; omega⟩
  | 1, hm, hd => exact ⟨by have := (hd (by omega)).2.2; show ((rdF (Y ++ [0]) (G, 0) X.reverse).2.1.reverse).length ≤ n; rw [List.length_reverse, this, List.length_reverse]; omega, by show 0 ≤ n; omega⟩
  | 2, hm, hd => exact ⟨by show ((rdF (Y ++ [0]) (G, 0) X.reverse).2.2.take X.length).length ≤ n; rw [List.length_take]; omega, by show 0 ≤ n; omega⟩
  | 3, hm, hd => exact ⟨by have := (hd (by omega)).2.2; show ((rdF (Y ++ [0]) (G, 0) X.reverse).2.1.reverse).length ≤ n; rw [List.length_reverse, this, List.length_reverse]; omega, by show ((rdF (Y ++ [0]) (G, 0) X.reverse).2.2.take X.length).length ≤ n; rw [List.length_take]; omega⟩
  | 4, _, _ => exact ⟨by have := rmF_len0 (x := X) (G, 0) (y := X) (by omega); show (rmF X (G, 0) X).2.length ≤ n; omega, by show 0 ≤ n; omega⟩
  | k + 5, _, _ => exact ⟨by have := rmF_len0 (x := X) (G, 0) (y := constL N X.length) (by rw [constL_len9]; omega); show (rmF X (G, 0) (constL N X.length)).2.length ≤ n; omega, by show 0 ≤ n; omega⟩
theorem P24_len {k : Nat} {G : Gra} (hG : Ok G) {X Y : List Int} {N : Nat} : (P24 k G X Y N).2.1.length ≤ 16 ∧ (P24 k G X Y N).2.2.1.length ≤ 16 := by
  unfold P24
  split
  · exact ⟨by simp, by simp⟩
  · rename_i hf
    have hf0 : f24 k G X Y = 0 := by omega
    obtain ⟨_, h16, _, hx⟩ := f24_one hf0
    have := RF24_len hG (k := k) (X := nats X) (Y := nats Y) (N := N) (nats_len9 X) (fun h3 => by rw [nats_len9]; exact (f24_two h3 hf0).1) hx (fun h3 => (f24_two h3 hf0).2.2)
    unfold fin24
    split
    · exact ⟨by simp, by simp⟩
    · exact ⟨Nat.le_trans this.1 h16, Nat.le_trans this.2 h16⟩
theorem f24_small (k : Nat) (G : Gra) (X Y : List Int) : f24 k G X Y ≤ 240 := chk24_small _ _
end Go.Aig
namespace Go.Proofs.YtehljgigebhddaaGreat
open Go.RowKit Go.Mem Go.Aig
theorem GVV.since {w w1 w' : World} {g : Nat} {G : Gra} {F : List Nat} {v1 v2 : Value} {l1 l2 : List Nat} (hc : Ch [] w w1) (h : GVV w1 g G F v1 l1 v2 l2 w') : GVV w g G F v1 l1 v2 l2 w' := by
  obtain ⟨F', h1, h2, h3, h4, h5, h6, h7, h8⟩ := h
  exact ⟨F', h1, (hc.mono (by simp)).trans h2 (fun k hk => .inl hk), fun k hk => (h3 k hk).imp id (fun e => Nat.le_trans hc.size e), h4, h5, h6, fun k hk => ⟨Nat.le_trans hc.size (h7 k hk).1, (h7 k hk).2⟩, fun k hk => ⟨Nat.le_trans hc.size (h8 k hk).1, (h8 k hk).2⟩⟩
theorem gvv_one {w w' : World} {g : Nat} {G : Gra} {F : List Nat} {v : Value} {l : List Nat} (h : GVo w g G [] F v l w') : GVV w g G F v l (.slice none 0 0) [] w' := by
  obtain ⟨F', h1, h2, h3, h4, h5, h6⟩ := h
  exact ⟨F', h1, by simpa using h2, h3, h4, h5, ⟨rfl, .inl ⟨rfl, rfl⟩⟩, fun k hk => ⟨(h6 k hk).1, (h6 k hk).2, by simp [Value.ownBlock]⟩, by simp [Value.ownBlock]⟩
/-- what an act of the program leaves -/
def PTo24 (w : World) (g : Nat) (F : List Nat) (R : Gra × List Nat × List Nat × Nat) (e : Ending) (w' : World) : Prop := ∃ v u, e = .returned (.tuple #[v, u, .int .i64 R.2.2.2]) ∧ GVV w g R.1 F v R.2.1 u R.2.2.1 w'
section
variable {w : World} {g : Nat} {G : Gra} {F : List Nat}
set_option maxRecDepth 100000 in
set_option maxHeartbeats 2000000 in
theorem program24_0 (h : GIn w g G F) {x y : WV} (hx : WVin w F x) (hy : WVin w F y) (hxc : x.l.length ≤ x.c) (kind : Nat) (hk : (kind : Int) % 6 = 0) (a1 : Option Addr) (n1 c1 : Nat) (a2 : Option Addr) (n2 c2 : Nat) (N : Nat) :
    Calls Tryz.prog 22 #[.pointer (some ⟨g, 0, none⟩), .agg #[.int .u8 kind, .slice a1 n1 c1, .slice a2 n2 c2, .int .u32 N], x.val, y.val] w (PTo24 w g F (P24 0 G x.l y.l N)) := by
  rw [P24_0 h.ok]
  have hC := fun (W : World) (hW : Ch [] w W) => mdMul_is (h.same hW (by simp)) (hx.ch hW) (hy.ch hW) hxc
  obtain ⟨xa, xl, xc⟩ := x
  obtain ⟨ya, yl, yc⟩ := y
  simp only [WV.val] at hC ⊢
  generalize mulG G xl yl = R at *
  obtain ⟨G1, l1, e1⟩ := R
  have HK := Lib.hid hC; clear hC h hx hy
  go_enter Tryz.func22, Tryz.ntmps22
  go_wp2_with fail
  refine calls_named fun W hW => ?_
  have hc : Ch [] w W := by rw [hW]; exact (Ch.refl _ _).alloc _
  clear hW
  have HC := Lib.hid hc; clear hc
  refine (HK.out W HC.out).mono ?_
  rintro e w1 ⟨v, rfl, hv⟩
  obtain ⟨va, vc, rfl⟩ : ∃ a c, v = .slice a l1.length c := by obtain ⟨_, _, _, _, _, h5, _⟩ := hv; exact row.shape h5
  have HV := Lib.hid hv; clear hv
  go_wp2_with fail
  go_ret3
  exact ⟨_, _, rfl, GVV.since HC.out (gvv_one HV.out)⟩
set_option maxRecDepth 100000 in
set_option maxHeartbeats 2000000 in
theorem program24_1 (h : GIn w g G F) {x y : WV} (hx : WVin w F x) (hy : WVin w F y) (kind : Nat) (hk : (kind : Int) % 6 = 1) (a1 : Option Addr) (n1 c1 : Nat) (a2 : Option Addr) (n2 c2 : Nat) (N : Nat) :
    Calls Tryz.prog 22 #[.pointer (some ⟨g, 0, none⟩), .agg #[.int .u8 kind, .slice a1 n1 c1, .slice a2 n2 c2, .int .u32 N], x.val, y.val] w (PTo24 w g F (P24 1 G x.l y.l N)) := by
  rw [P24_1 h.ok]
  have hC := fun (W : World) (hW : Ch [] w W) => mdDiv_is (h.same hW (by simp)) (hx.ch hW) (hy.ch hW)
  obtain ⟨xa, xl, xc⟩ := x
  obtain ⟨ya, yl, yc⟩ := y
  simp only [WV.val] at hC ⊢
  generalize bothG G xl yl = R at *
  obtain ⟨G1, ⟨l1, l2⟩, e1⟩ := R
  have HK := Lib.hid hC; clear hC h hx hy
  go_enter Tryz.func22, Tryz.ntmps22
  go_wp2_with fail
  refine calls_named fun W hW => ?_
  have hc : Ch [] w W := by rw [hW]; exact (Ch.refl _ _).alloc _
  clear hW
  have HC := Lib.hid hc; clear hc
  refine (HK.out W HC.out).mono ?_
  rintro e w1 ⟨v, rfl, hv⟩
  obtain ⟨va, vc, rfl⟩ : ∃ a c, v = .slice a l1.length c := by obtain ⟨_, _, _, _, _, h5, _⟩ := hv; exact row.shape h5
  have HV := Lib.hid hv; clear hv
  go_wp2_with fail
  go_ret3
  exact ⟨_, _, rfl, GVV.since HC.out (gvv_one HV.out)⟩
set_option maxRecDepth 100000 in
set_option maxHeartbeats 2000000 in
theorem program24_2 (h : GIn w g G F) {x y : WV} (hx : WVin w F x) (hy : WVin w F y) (kind : Nat) (hk : (kind : Int) % 6 = 2) (a1 : Option Addr) (n1 c1 : Nat) (a2 : Option Addr) (n2 c2 : Nat) (N : Nat) :
    Calls Tryz.prog 22 #[.pointer (some ⟨g, 0, none⟩), .agg #[.int .u8 kind, .slice a1 n1 c1, .slice a2 n2 c2, .int .u32 N], x.val, y.val] w (PTo24 w g F (P24 2 G x.l y.l N)) := by
  rw [P24_2 h.ok]
  have hC := fun (W : World) (hW : Ch [] w W) => mdRem_is (h.same hW (by simp)) (hx.ch hW) (hy.ch hW)
  obtain ⟨xa, xl, xc⟩ := x
  obtain ⟨ya, yl, yc⟩ := y
  simp only [WV.val] at hC ⊢
  generalize bothG G xl yl = R at *
  obtain ⟨G1, ⟨l2, l1⟩, e1⟩ := R
  have HK := Lib.hid hC; clear hC h hx hy
  go_enter Tryz.func22, Tryz.ntmps22
  go_wp2_with fail
  refine calls_named fun W hW => ?_
  have hc : Ch [] w W := by rw [hW]; exact (Ch.refl _ _).alloc _
  clear hW
  have HC := Lib.hid hc; clear hc
  refine (HK.out W HC.out).mono ?_
  rintro e w1 ⟨v, rfl, hv⟩
  obtain ⟨va, vc, rfl⟩ : ∃ a c, v = .slice a l1.length c := by obtain ⟨_, _, _, _, _, h5, _⟩ := hv; exact row.shape h5
  have HV := Lib.hid hv; clear hv
  go_wp2_with fail
  go_ret3
  exact ⟨_, _, rfl, GVV.since HC.out (gvv_one HV.out)⟩
set_option maxRecDepth 100000 in
set_option maxHeartbeats 2000000 in
theorem program24_3 (h : GIn w g G F) {x y : WV} (hx : WVin w F x) (hy : WVin w F y) (kind : Nat) (hk : (kind : Int) % 6 = 3) (a1 : Option Addr) (n1 c1 : Nat) (a2 : Option Addr) (n2 c2 : Nat) (N : Nat) :
    Calls Tryz.prog 22 #[.pointer (some ⟨g, 0, none⟩), .agg #[.int .u8 kind, .slice a1 n1 c1, .slice a2 n2 c2, .int .u32 N], x.val, y.val] w (PTo24 w g F (P24 3 G x.l y.l N)) := by
  rw [P24_3 h.ok]
  have hC := fun (W : World) (hW : Ch [] w W) => mdBoth_is (h.same hW (by simp)) (hx.ch hW) (hy.ch hW)
  obtain ⟨xa, xl, xc⟩ := x
  obtain ⟨ya, yl, yc⟩ := y
  simp only [WV.val] at hC ⊢
  generalize bothG G xl yl = R at *
  obtain ⟨G1, ⟨l1, l2⟩, e1⟩ := R
  have HK := Lib.hid hC; clear hC h hx hy
  go_enter Tryz.func22, Tryz.ntmps22
  go_wp2_with fail
  refine calls_named fun W hW => ?_
  have hc : Ch [] w W := by rw [hW]; exact (Ch.refl _ _).alloc _
  clear hW
  have HC := Lib.hid hc; clear hc
  refine (HK.out W HC.out).mono ?_
  rintro e w1 ⟨v, u, rfl, hv⟩
  obtain ⟨va, vc, rfl⟩ : ∃ a c, v = .slice a l1.length c := by obtain ⟨_, _, _, _, _, h5, h6, _⟩ := hv; exact row.shape h5
  obtain ⟨ua, uc, rfl⟩ : ∃ a c, u = .slice a l2.length c := by obtain ⟨_, _, _, _, _, h5, h6, _⟩ := hv; exact row.shape h6
  have HV := Lib.hid hv; clear hv
  go_wp2_with fail
  go_ret3
  exact ⟨_, _, rfl, GVV.since HC.out HV.out⟩
set_option maxRecDepth 100000 in
set_option maxHeartbeats 2000000 in
theorem program24_4 (h : GIn w g G F) {x y : WV} (hx : WVin w F x) (hy : WVin w F y) (hxc : x.l.length ≤ x.c) (kind : Nat) (hk : (kind : Int) % 6 = 4) (a1 : Option Addr) (n1 c1 : Nat) (a2 : Option Addr) (n2 c2 : Nat) (N : Nat) :
    Calls Tryz.prog 22 #[.pointer (some ⟨g, 0, none⟩), .agg #[.int .u8 kind, .slice a1 n1 c1, .slice a2 n2 c2, .int .u32 N], x.val, y.val] w (PTo24 w g F (P24 4 G x.l y.l N)) := by
  rw [P24_4 h.ok]
  have hC := fun (W : World) (hW : Ch [] w W) => mdSquare_is (h.same hW (by simp)) (hx.ch hW) hxc
  obtain ⟨xa, xl, xc⟩ := x
  obtain ⟨ya, yl, yc⟩ := y
  simp only [WV.val] at hC ⊢
  generalize mulG G xl xl = R at *
  obtain ⟨G1, l1, e1⟩ := R
  have HK := Lib.hid hC; clear hC h hx hy
  go_enter Tryz.func22, Tryz.ntmps22
  go_wp2_with fail
  refine calls_named fun W hW => ?_
  have hc : Ch [] w W := by rw [hW]; exact (Ch.refl _ _).alloc _
  clear hW
  have HC := Lib.hid hc; clear hc
  refine (HK.out W HC.out).mono ?_
  rintro e w1 ⟨v, rfl, hv⟩
  obtain ⟨va, vc, rfl⟩ : ∃ a c, v = .slice a l1.length c := by obtain ⟨_, _, _, _, _, h5, _⟩ := hv; exact row.shape h5
  have HV := Lib.hid hv; clear hv
  go_wp2_with fail
  go_ret3
  exact ⟨_, _, rfl, GVV.since HC.out (gvv_one HV.out)⟩
set_option maxRecDepth 100000 in
set_option maxHeartbeats 2000000 in
theorem program24_5 (h : GIn w g G F) {x y : WV} (hx : WVin w F x) (hy : WVin w F y) (hxc : x.l.length ≤ x.c) (kind : Nat) (hk : (kind : Int) % 6 = 5) (a1 : Option Addr) (n1 c1 : Nat) (a2 : Option Addr) (n2 c2 : Nat) (N : Nat) (hN : N < 4294967296) :
    Calls Tryz.prog 22 #[.pointer (some ⟨g, 0, none⟩), .agg #[.int .u8 kind, .slice a1 n1 c1, .slice a2 n2 c2, .int .u32 N], x.val, y.val] w (PTo24 w g F (P24 5 G x.l y.l N)) := by
  rw [P24_5 h.ok]
  have hC := fun (W : World) (hW : Ch [] w W) => mdTimes_is (h.same hW (by simp)) (hx.ch hW) hxc N hN
  obtain ⟨xa, xl, xc⟩ := x
  obtain ⟨ya, yl, yc⟩ := y
  simp only [WV.val] at hC ⊢
  generalize timesG G xl N = R at *
  obtain ⟨G1, l1, e1⟩ := R
  have HK := Lib.hid hC; clear hC h hx hy
  go_enter Tryz.func22, Tryz.ntmps22
  go_wp2_with fail
  refine calls_named fun W hW => ?_
  have hc : Ch [] w W := by rw [hW]; exact (Ch.refl _ _).alloc _
  clear hW
  have HC := Lib.hid hc; clear hc
  refine (HK.out W HC.out).mono ?_
  rintro e w1 ⟨v, rfl, hv⟩
  obtain ⟨va, vc, rfl⟩ : ∃ a c, v = .slice a l1.length c := by obtain ⟨_, _, _, _, _, h5, _⟩ := hv; exact row.shape h5
  have HV := Lib.hid hv; clear hv
  go_wp2_with fail
  go_ret3
  exact ⟨_, _, rfl, GVV.since HC.out (gvv_one HV.out)⟩
theorem program24_is (h : GIn w g G F) {x y : WV} (hx : WVin w F x) (hy : WVin w F y) (hxc : x.l.length ≤ x.c) (kind : Nat) (a1 : Option Addr) (n1 c1 : Nat) (a2 : Option Addr) (n2 c2 : Nat) (N : Nat) (hN : N < 4294967296) :
    Calls Tryz.prog 22 #[.pointer (some ⟨g, 0, none⟩), .agg #[.int .u8 kind, .slice a1 n1 c1, .slice a2 n2 c2, .int .u32 N], x.val, y.val] w (PTo24 w g F (P24 (kind % 6) G x.l y.l N)) := by
  have hlt : kind % 6 < 6 := Nat.mod_lt _ (by omega)
  obtain ⟨k, hk⟩ : ∃ k, kind % 6 = k := ⟨_, rfl⟩
  rw [hk] at hlt ⊢
  have hki : (kind : Int) % 6 = k := by omega
  match k, hlt, hki with
  | 0, _, hki => exact program24_0 h hx hy hxc kind hki a1 n1 c1 a2 n2 c2 N
  | 1, _, hki => exact program24_1 h hx hy kind hki a1 n1 c1 a2 n2 c2 N
  | 2, _, hki => exact program24_2 h hx hy kind hki a1 n1 c1 a2 n2 c2 N
  | 3, _, hki => exact program24_3 h hx hy kind hki a1 n1 c1 a2 n2 c2 N
  | 4, _, hki => exact program24_4 h hx hy hxc kind hki a1 n1 c1 a2 n2 c2 N
  | 5, _, hki => exact program24_5 h hx hy hxc kind hki a1 n1 c1 a2 n2 c2 N hN
end
end Go.Proofs.YtehljgigebhddaaGreat
