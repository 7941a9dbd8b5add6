/-
  Walk over the laws' reference of chapter 24: what it makes, act by act. Conditions: a graph that can be read, words of its references.
  Walk over the reference's Check of chapter 24. Conditions: a graph that can be read, words of any integers.
  What the acts of sums are, by the program and by the reference; walk over the laws' program. Conditions: a graph in memory, words of any integers.
  Walks over Same and Begin of chapter 23's laws: two graphs that are the same, and such ones that are made. Conditions: none beyond the hypotheses.
  Walk over Begin of chapter 23's laws: a graph, and the same one of the reference. Conditions: numbers in range.
  What do leaves; an act. Conditions: none beyond the hypotheses.
  Walk over the laws' act of chapter 23: the program and the reference do the same. Conditions: both graphs the same, an act that can be read.
  Walk over the laws' act of chapter 24: the program and the reference do the same. Conditions: both graphs the same, an act that can be read.
  Walks over makes of chapter 24's laws. Conditions: numbers in range, acts that can be read.
  Graphs that are none: nil, and the zero value; what Len says of them. Conditions: such a graph.
  Walks over muldiv, and the laws' program, with graphs that are none. Conditions: such a graph.
  The functions of muldiv as steps of a law's walk: the graph and the words that are held. Conditions: none beyond the hypotheses.
  Walks over small functions of the laws: words, value, pick. Conditions: slices that are read.
  Walks over sim: of, nodes. Conditions: a graph in memory, as many words as inputs.
  Walks over sim: check, Words, Bits. Conditions: a graph in memory, references of any integers, words that can be read.
  Walk over sim: Bits. Conditions: a graph in memory, references of any integers, values that can be read.
  Two words of bits out of two numbers, plainly. No program in sight. Conditions: none.
  Walks over sim: inputs, one. Conditions: at most 16 inputs, a block of a table of them.
  Walks over sim: tabled, Table. Conditions: a graph in memory, any reference.
  Walk over sim: Count. Conditions: a graph in memory, any reference.
  Walk over sim: first. Conditions: a graph of at most 16 inputs in memory, what tells a word.
  The laws' graphs, plainly: built step by step. No program in sight. Conditions: none beyond the hypotheses.
  The words of the nodes, plainly, and their bits. No program in sight. Conditions: none beyond the hypotheses.
  Reads of words for values of the inputs; the values of the inputs of chapter 23's law; slices.Clone of numbers. Conditions: a graph in memory, words of 1 to 16 bits.
-/
import Derived.Test.YtehljgigebhddaaGreatQE
import Derived.Deep.DeepCutAuto
import Derived.Deep.CutBlock
import Derived.Laws.Bits64b
namespace Go.Proofs.YtehljgigebhddaaGreat
open Go.RowKit Go.Mem Go.Aig
theorem B2To.one {w W W2 W3 : World} {rb rb' cap' b : Nat} {s : Mk} {l : List Nat} {a : Option Addr} {c : Nat} (hc0 : Ch [] w W) (hc2 : Ch [] W W2) (hr : RG W2 rb' cap' s.1) (hf : rb' = rb ∨ W.heap.size ≤ rb') (hl : rb < w.heap.size) (hl2 : l.length ≤ 1000) (hrow : row W2 3 1 (.slice a l.length c) l.length (intCells (natInts l))) (hown : ∀ q, (Value.slice a l.length c).ownBlock = some q → W.heap.size ≤ q ∧ q ≠ rb')
    (hb : w.heap.size ≤ b) (hb2 : b < W.heap.size) (hcs : Ch [b] W2 W3) : B2To w rb (s, l, []) (.returned (.tuple #[.agg #[.int .i64 s.1.most, .slice (some ⟨rb', 0, none⟩) s.1.nodes.length cap', .int .i64 s.2], .slice a l.length c, .slice none 0 0])) W3 := by
  have hz := hc0.size
  have hrow3 := hrow.ch hcs (fun k hk => by have := hown k hk; simp; omega)
  exact ⟨rb', cap', a, c, none, 0, rfl, hr.ch hcs (by simp; omega), (hc0.trans hc2 (by simp)).trans hcs (fun k hk => .inr (by simp at hk; omega)), by omega, Sl.of_ints hrow3 (by omega), ⟨fun i x hx => by simp [natInts] at hx, by simp [natInts]⟩, fun p hp => by subst hp; have := hown p.block rfl; omega, fun p hp => by cases hp⟩
theorem B2To.two {w W W2 W3 : World} {rb rb' cap' b : Nat} {s : Mk} {l l2 : List Nat} {a a2 : Option Addr} {c c2 : Nat} (hc0 : Ch [] w W) (hc2 : Ch [] W W2) (hr : RG W2 rb' cap' s.1) (hf : rb' = rb ∨ W.heap.size ≤ rb') (hl : rb < w.heap.size) (h1 : Sl W2 a (natInts l)) (h2 : Sl W2 a2 (natInts l2)) (ho1 : ∀ p, a = some p → W.heap.size ≤ p.block ∧ p.block ≠ rb') (ho2 : ∀ p, a2 = some p → W.heap.size ≤ p.block ∧ p.block ≠ rb')
    (hb : w.heap.size ≤ b) (hb2 : b < W.heap.size) (hcs : Ch [b] W2 W3) : B2To w rb (s, l, l2) (.returned (.tuple #[.agg #[.int .i64 s.1.most, .slice (some ⟨rb', 0, none⟩) s.1.nodes.length cap', .int .i64 s.2], .slice a l.length c, .slice a2 l2.length c2])) W3 := by
  have hz := hc0.size
  exact ⟨rb', cap', a, c, a2, c2, rfl, hr.ch hcs (by simp; omega), (hc0.trans hc2 (by simp)).trans hcs (fun k hk => .inr (by simp at hk; omega)), by omega, h1.ch hcs (fun p hp => by have := ho1 p hp; simp; omega), h2.ch hcs (fun p hp => by have := ho2 p hp; simp; omega), fun p hp => by have := ho1 p hp; omega, fun p hp => by have := ho2 p hp; omega⟩
section
variable {w : World} {rb cap : Nat} {G : Gra}
set_option maxRecDepth 100000 in
set_option maxHeartbeats 4000000 in
theorem reference24_0 (h : RG w rb cap G) (kind : Nat) (hk : (kind : Int) % 6 = 0) (a1 : Option Addr) (n1 c1 : Nat) (a2 : Option Addr) (c2 : Nat) (N : Nat) {X Y : List Nat} (hn : X.length = n1) (hn0 : 1 ≤ n1 ∧ n1 ≤ 17) (hX : Sl w a1 (natInts X)) (hxr : ∀ r ∈ X, r < 2 * G.nodes.length) (hm : Y.length = n1) (hY : Sl w a2 (natInts Y)) (hyr : ∀ r ∈ Y, r < 2 * G.nodes.length) :
    Calls Tryz.prog 219 #[.agg #[.int .i64 G.most, .slice (some ⟨rb, 0, none⟩) G.nodes.length cap, .int .i64 0], .agg #[.int .u8 kind, .slice a1 n1 c1, .slice a2 n1 c2, .int .u32 N]] w (B2To w rb ((rmF X (G, 0) Y).1, (rmF X (G, 0) Y).2, ([] : List Nat))) := by
  have hlt := h.lt
  have hlen := rmF_len0 (x := X) (G, 0) (y := Y) (by omega)
  rw [hn] at hlen
  have hC := fun (W : World) (hW : Ch [] w W) => r24Mul_is (h.ch hW (by simp)) n1 c1 c2 (hX.ch hW (by simp)) (hY.ch hW (by simp)) hn hm (by omega) hxr hyr
  generalize rmF X (G, 0) Y = R at *
  obtain ⟨⟨G1, q1⟩, l1⟩ := R
  have HCC := Lib.hid hC; clear hC
  clear h
  go_enter Tryz.func219, Tryz.ntmps219
  go_wp2_with fail
  refine calls_named fun W hW => ?_
  have b4 : blk W (w.heap.size + 2) [.int .i64 0, .slice none 0 0, .int .i64 0] := by rw [hW]; exact blk.new' _ _ (by simp)
  have hc : Ch [] w W := by rw [hW]; exact (((Ch.refl _ _).alloc _).alloc _).alloc _
  clear hW
  have HC := Lib.hid hc; clear hc
  refine (HCC.out W HC.out).mono ?_
  rintro e w1 ⟨rb', cap', a, c, rfl, hrg, hch, hfr, hrow, hown⟩
  have hl2 := b4.lt
  have hz := hch.size
  have hzc := HC.out.size
  have B4 := b4.ch hch (by simp)
  have HRG := Lib.hid hrg; clear hrg
  have HCH := Lib.hid hch; clear hch
  have HROW := Lib.hid hrow; clear hrow
  have HOWN := Lib.hid hown; clear hown
  have BB4 := Lib.hid B4; clear B4 b4
  go_upto_region 4 with fail
  refine wp_alw ?_
  intro W2 hW2
  have hb9 : blk W2 w1.heap.size [.int .i64 G1.most, .slice (some ⟨rb', 0, none⟩) G1.nodes.length cap', .int .i64 q1] := by rw [hW2]; exact blk.new' _ _ rfl
  have hcA : Ch [] w1 W2 := by rw [hW2]; exact (Ch.refl _ _).alloc _
  clear hW2
  have B4 := BB4.out.ch hcA (by simp)
  have y0 := hb9.cell (i := 0) rfl
  have y1 := hb9.cell (i := 1) rfl
  have y2 := hb9.cell (i := 2) rfl
  have HCA := Lib.hid hcA; clear hcA hb9
  have z0 := B4.cell (i := 0) rfl
  have z1 := B4.cell (i := 1) rfl
  have z2 := B4.cell (i := 2) rfl
  have g0 := B4.frozen (i := 0)
  have g1 := B4.frozen (i := 1)
  have g2 := B4.frozen (i := 2)
  have hzz := B4.lt
  clear B4
  go_wp2_with fail
  refine bodyPost_ret (v := .tuple #[.agg #[.int .i64 G1.most, .slice (some ⟨rb', 0, none⟩) G1.nodes.length cap', .int .i64 q1], .slice a l1.length c, .slice none 0 0]) (by simp [results, Tryz.results219, go_sem, z0, z1, z2]) rfl ?_
  exact B2To.one HC.out (HCH.out.trans HCA.out (by simp)) (HRG.out.ch HCA.out (by simp)) hfr hlt (show l1.length ≤ 1000 by omega) (HROW.out.ch HCA.out (by simp)) HOWN.out (by omega) hl2 (set3_ch rfl)
set_option maxRecDepth 100000 in
set_option maxHeartbeats 4000000 in
theorem reference24_1 (h : RG w rb cap G) (kind : Nat) (hk : (kind : Int) % 6 = 1) (a1 : Option Addr) (n1 c1 : Nat) (a2 : Option Addr) (c2 : Nat) (N : Nat) {X Y : List Nat} (hn : X.length = n1) (hn0 : 1 ≤ n1 ∧ n1 ≤ 17) (hX : Sl w a1 (natInts X)) (hxr : ∀ r ∈ X, r < 2 * G.nodes.length) (hm : Y.length = n1) (hY : Sl w a2 (natInts Y)) (hyr : ∀ r ∈ Y, r < 2 * G.nodes.length) :
    Calls Tryz.prog 219 #[.agg #[.int .i64 G.most, .slice (some ⟨rb, 0, none⟩) G.nodes.length cap, .int .i64 0], .agg #[.int .u8 kind, .slice a1 n1 c1, .slice a2 n1 c2, .int .u32 N]] w (B2To w rb ((rdF (Y ++ [0]) (G, 0) X.reverse).1, (rdF (Y ++ [0]) (G, 0) X.reverse).2.1.reverse, ([] : List Nat))) := by
  have hlt := h.lt
  have hC := fun (W : World) (hW : Ch [] w W) => r24Both_is (h.ch hW (by simp)) n1 c1 c2 (hX.ch hW (by simp)) (hY.ch hW (by simp)) hn hm (by omega) (by omega) hxr hyr
  generalize rdF (Y ++ [0]) (G, 0) X.reverse = R at *
  obtain ⟨⟨G1, q1⟩, l8, l9⟩ := R
  simp only at hC ⊢
  generalize l8.reverse = l1 at *
  generalize l9.take n1 = l2 at *
  have HCC := Lib.hid hC; clear hC
  clear h
  go_enter Tryz.func219, Tryz.ntmps219
  go_wp2_with fail
  refine calls_named fun W hW => ?_
  have b4 : blk W (w.heap.size + 2) [.int .i64 0, .slice none 0 0, .int .i64 0] := by rw [hW]; exact blk.new' _ _ (by simp)
  have hc : Ch [] w W := by rw [hW]; exact (((Ch.refl _ _).alloc _).alloc _).alloc _
  clear hW
  have HC := Lib.hid hc; clear hc
  refine (HCC.out W HC.out).mono ?_
  rintro e w1 ⟨rb', cap', a, c, d, dc, rfl, hrg, hch, hfr, hs1, hs2, ho1, ho2⟩
  have hl2 := b4.lt
  have hz := hch.size
  have hzc := HC.out.size
  have B4 := b4.ch hch (by simp)
  have HRG := Lib.hid hrg; clear hrg
  have HCH := Lib.hid hch; clear hch
  have HS1 := Lib.hid hs1; clear hs1
  have HS2 := Lib.hid hs2; clear hs2
  have HO1 := Lib.hid ho1; clear ho1
  have HO2 := Lib.hid ho2; clear ho2
  have BB4 := Lib.hid B4; clear B4 b4
  go_upto_region 7 with fail
  refine wp_alw ?_
  intro W2 hW2
  have hb9 : blk W2 w1.heap.size [.int .i64 G1.most, .slice (some ⟨rb', 0, none⟩) G1.nodes.length cap', .int .i64 q1] := by rw [hW2]; exact blk.new' _ _ rfl
  have hcA : Ch [] w1 W2 := by rw [hW2]; exact (Ch.refl _ _).alloc _
  clear hW2
  have B4 := BB4.out.ch hcA (by simp)
  have y0 := hb9.cell (i := 0) rfl
  have y1 := hb9.cell (i := 1) rfl
  have y2 := hb9.cell (i := 2) rfl
  have HCA := Lib.hid hcA; clear hcA hb9
  have z0 := B4.cell (i := 0) rfl
  have z1 := B4.cell (i := 1) rfl
  have z2 := B4.cell (i := 2) rfl
  have g0 := B4.frozen (i := 0)
  have g1 := B4.frozen (i := 1)
  have g2 := B4.frozen (i := 2)
  have hzz := B4.lt
  clear B4
  go_wp2_with fail
  refine bodyPost_ret (v := .tuple #[.agg #[.int .i64 G1.most, .slice (some ⟨rb', 0, none⟩) G1.nodes.length cap', .int .i64 q1], .slice a l1.length c, .slice none 0 0]) (by simp [results, Tryz.results219, go_sem, z0, z1, z2]) rfl ?_
  exact B2To.two (l2 := []) (a2 := none) (c2 := 0) HC.out (HCH.out.trans HCA.out (by simp)) (HRG.out.ch HCA.out (by simp)) hfr hlt (HS1.out.ch HCA.out (by simp)) ⟨fun i x hx => by simp [natInts] at hx, by simp [natInts]⟩ HO1.out (fun p hp => by cases hp) (by omega) hl2 (set3_ch rfl)
set_option maxRecDepth 100000 in
set_option maxHeartbeats 4000000 in
theorem reference24_2 (h : RG w rb cap G) (kind : Nat) (hk : (kind : Int) % 6 = 2) (a1 : Option Addr) (n1 c1 : Nat) (a2 : Option Addr) (c2 : Nat) (N : Nat) {X Y : List Nat} (hn : X.length = n1) (hn0 : 1 ≤ n1 ∧ n1 ≤ 17) (hX : Sl w a1 (natInts X)) (hxr : ∀ r ∈ X, r < 2 * G.nodes.length) (hm : Y.length = n1) (hY : Sl w a2 (natInts Y)) (hyr : ∀ r ∈ Y, r < 2 * G.nodes.length) :
    Calls Tryz.prog 219 #[.agg #[.int .i64 G.most, .slice (some ⟨rb, 0, none⟩) G.nodes.length cap, .int .i64 0], .agg #[.int .u8 kind, .slice a1 n1 c1, .slice a2 n1 c2, .int .u32 N]] w (B2To w rb ((rdF (Y ++ [0]) (G, 0) X.reverse).1, (rdF (Y ++ [0]) (G, 0) X.reverse).2.2.take n1, ([] : List Nat))) := by
  have hlt := h.lt
  have hC := fun (W : World) (hW : Ch [] w W) => r24Both_is (h.ch hW (by simp)) n1 c1 c2 (hX.ch hW (by simp)) (hY.ch hW (by simp)) hn hm (by omega) (by omega) hxr hyr
  generalize rdF (Y ++ [0]) (G, 0) X.reverse = R at *
  obtain ⟨⟨G1, q1⟩, l8, l9⟩ := R
  simp only at hC ⊢
  generalize l8.reverse = l1 at *
  generalize l9.take n1 = l2 at *
  have HCC := Lib.hid hC; clear hC
  clear h
  go_enter Tryz.func219, Tryz.ntmps219
  go_wp2_with fail
  refine calls_named fun W hW => ?_
  have b4 : blk W (w.heap.size + 2) [.int .i64 0, .slice none 0 0, .int .i64 0] := by rw [hW]; exact blk.new' _ _ (by simp)
  have hc : Ch [] w W := by rw [hW]; exact (((Ch.refl _ _).alloc _).alloc _).alloc _
  clear hW
  have HC := Lib.hid hc; clear hc
  refine (HCC.out W HC.out).mono ?_
  rintro e w1 ⟨rb', cap', a, c, d, dc, rfl, hrg, hch, hfr, hs1, hs2, ho1, ho2⟩
  have hl2 := b4.lt
  have hz := hch.size
  have hzc := HC.out.size
  have B4 := b4.ch hch (by simp)
  have HRG := Lib.hid hrg; clear hrg
  have HCH := Lib.hid hch; clear hch
  have HS1 := Lib.hid hs1; clear hs1
  have HS2 := Lib.hid hs2; clear hs2
  have HO1 := Lib.hid ho1; clear ho1
  have HO2 := Lib.hid ho2; clear ho2
  have BB4 := Lib.hid B4; clear B4 b4
  go_upto_region 10 with fail
  refine wp_alw ?_
  intro W2 hW2
  have hb9 : blk W2 w1.heap.size [.int .i64 G1.most, .slice (some ⟨rb', 0, none⟩) G1.nodes.length cap', .int .i64 q1] := by rw [hW2]; exact blk.new' _ _ rfl
  have hcA : Ch [] w1 W2 := by rw [hW2]; exact (Ch.refl _ _).alloc _
  clear hW2
  have B4 := BB4.out.ch hcA (by simp)
  have y0 := hb9.cell (i := 0) rfl
  have y1 := hb9.cell (i := 1) rfl
  have y2 := hb9.cell (i := 2) rfl
  have HCA := Lib.hid hcA; clear hcA hb9
  have z0 := B4.cell (i := 0) rfl
  have z1 := B4.cell (i := 1) rfl
  have z2 := B4.cell (i := 2) rfl
  have g0 := B4.frozen (i := 0)
  have g1 := B4.frozen (i := 1)
  have g2 := B4.frozen (i := 2)
  have hzz := B4.lt
  clear B4
  go_wp2_with fail
  refine bodyPost_ret (v := .tuple #[.agg #[.int .i64 G1.most, .slice (some ⟨rb', 0, none⟩) G1.nodes.length cap', .int .i64 q1], .slice d l2.length dc, .slice none 0 0]) (by simp [results, Tryz.results219, go_sem, z0, z1, z2]) rfl ?_
  exact B2To.two (l2 := []) (a2 := none) (c2 := 0) HC.out (HCH.out.trans HCA.out (by simp)) (HRG.out.ch HCA.out (by simp)) hfr hlt (HS2.out.ch HCA.out (by simp)) ⟨fun i x hx => by simp [natInts] at hx, by simp [natInts]⟩ HO2.out (fun p hp => by cases hp) (by omega) hl2 (set3_ch rfl)
set_option maxRecDepth 100000 in
set_option maxHeartbeats 4000000 in
theorem reference24_3 (h : RG w rb cap G) (kind : Nat) (hk : (kind : Int) % 6 = 3) (a1 : Option Addr) (n1 c1 : Nat) (a2 : Option Addr) (c2 : Nat) (N : Nat) {X Y : List Nat} (hn : X.length = n1) (hn0 : 1 ≤ n1 ∧ n1 ≤ 17) (hX : Sl w a1 (natInts X)) (hxr : ∀ r ∈ X, r < 2 * G.nodes.length) (hm : Y.length = n1) (hY : Sl w a2 (natInts Y)) (hyr : ∀ r ∈ Y, r < 2 * G.nodes.length) :
    Calls Tryz.prog 219 #[.agg #[.int .i64 G.most, .slice (some ⟨rb, 0, none⟩) G.nodes.length cap, .int .i64 0], .agg #[.int .u8 kind, .slice a1 n1 c1, .slice a2 n1 c2, .int .u32 N]] w (B2To w rb ((rdF (Y ++ [0]) (G, 0) X.reverse).1, (rdF (Y ++ [0]) (G, 0) X.reverse).2.1.reverse, (rdF (Y ++ [0]) (G, 0) X.reverse).2.2.take n1)) := by
  have hlt := h.lt
  have hC := fun (W : World) (hW : Ch [] w W) => r24Both_is (h.ch hW (by simp)) n1 c1 c2 (hX.ch hW (by simp)) (hY.ch hW (by simp)) hn hm (by omega) (by omega) hxr hyr
  generalize rdF (Y ++ [0]) (G, 0) X.reverse = R at *
  obtain ⟨⟨G1, q1⟩, l8, l9⟩ := R
  simp only at hC ⊢
  generalize l8.reverse = l1 at *
  generalize l9.take n1 = l2 at *
  have HCC := Lib.hid hC; clear hC
  clear h
  go_enter Tryz.func219, Tryz.ntmps219
  go_wp2_with fail
  refine calls_named fun W hW => ?_
  have b4 : blk W (w.heap.size + 2) [.int .i64 0, .slice none 0 0, .int .i64 0] := by rw [hW]; exact blk.new' _ _ (by simp)
  have hc : Ch [] w W := by rw [hW]; exact (((Ch.refl _ _).alloc _).alloc _).alloc _
  clear hW
  have HC := Lib.hid hc; clear hc
  refine (HCC.out W HC.out).mono ?_
  rintro e w1 ⟨rb', cap', a, c, d, dc, rfl, hrg, hch, hfr, hs1, hs2, ho1, ho2⟩
  have hl2 := b4.lt
  have hz := hch.size
  have hzc := HC.out.size
  have B4 := b4.ch hch (by simp)
  have HRG := Lib.hid hrg; clear hrg
  have HCH := Lib.hid hch; clear hch
  have HS1 := Lib.hid hs1; clear hs1
  have HS2 := Lib.hid hs2; clear hs2
  have HO1 := Lib.hid ho1; clear ho1
  have HO2 := Lib.hid ho2; clear ho2
  have z0 := B4.cell (i := 0) rfl
  have z1 := B4.cell (i := 1) rfl
  have z2 := B4.cell (i := 2) rfl
  have g0 := B4.frozen (i := 0)
  have g1 := B4.frozen (i := 1)
  have g2 := B4.frozen (i := 2)
  have hzz := B4.lt
  clear B4
  go_wp2_with fail
  refine bodyPost_ret (v := .tuple #[.agg #[.int .i64 G1.most, .slice (some ⟨rb', 0, none⟩) G1.nodes.length cap', .int .i64 q1], .slice a l1.length c, .slice d l2.length dc]) (by simp [results, Tryz.results219, go_sem, z0, z1, z2]) rfl ?_
  exact B2To.two (l2 := l2) HC.out HCH.out HRG.out hfr hlt HS1.out HS2.out HO1.out HO2.out (by omega) hl2 (set3_ch rfl)
set_option maxRecDepth 100000 in
set_option maxHeartbeats 4000000 in
theorem reference24_4 (h : RG w rb cap G) (kind : Nat) (hk : (kind : Int) % 6 = 4) (a1 : Option Addr) (n1 c1 : Nat) (a2 : Option Addr) (n2 c2 : Nat) (N : Nat) {X Y : List Nat} (hn : X.length = n1) (hn0 : 1 ≤ n1 ∧ n1 ≤ 17) (hX : Sl w a1 (natInts X)) (hxr : ∀ r ∈ X, r < 2 * G.nodes.length) :
    Calls Tryz.prog 219 #[.agg #[.int .i64 G.most, .slice (some ⟨rb, 0, none⟩) G.nodes.length cap, .int .i64 0], .agg #[.int .u8 kind, .slice a1 n1 c1, .slice a2 n2 c2, .int .u32 N]] w (B2To w rb ((rmF X (G, 0) X).1, (rmF X (G, 0) X).2, ([] : List Nat))) := by
  have hlt := h.lt
  have hlen := rmF_len0 (x := X) (G, 0) (y := X) (by omega)
  rw [hn] at hlen
  have hC := fun (W : World) (hW : Ch [] w W) => r24Mul_is (h.ch hW (by simp)) n1 c1 c1 (hX.ch hW (by simp)) (hX.ch hW (by simp)) hn hn (by omega) hxr hxr
  generalize rmF X (G, 0) X = R at *
  obtain ⟨⟨G1, q1⟩, l1⟩ := R
  have HCC := Lib.hid hC; clear hC
  clear h
  go_enter Tryz.func219, Tryz.ntmps219
  go_wp2_with fail
  refine calls_named fun W hW => ?_
  have b4 : blk W (w.heap.size + 2) [.int .i64 0, .slice none 0 0, .int .i64 0] := by rw [hW]; exact blk.new' _ _ (by simp)
  have hc : Ch [] w W := by rw [hW]; exact (((Ch.refl _ _).alloc _).alloc _).alloc _
  clear hW
  have HC := Lib.hid hc; clear hc
  refine (HCC.out W HC.out).mono ?_
  rintro e w1 ⟨rb', cap', a, c, rfl, hrg, hch, hfr, hrow, hown⟩
  have hl2 := b4.lt
  have hz := hch.size
  have hzc := HC.out.size
  have B4 := b4.ch hch (by simp)
  have HRG := Lib.hid hrg; clear hrg
  have HCH := Lib.hid hch; clear hch
  have HROW := Lib.hid hrow; clear hrow
  have HOWN := Lib.hid hown; clear hown
  have BB4 := Lib.hid B4; clear B4 b4
  go_upto_region 15 with fail
  refine wp_alw ?_
  intro W2 hW2
  have hb9 : blk W2 w1.heap.size [.int .i64 G1.most, .slice (some ⟨rb', 0, none⟩) G1.nodes.length cap', .int .i64 q1] := by rw [hW2]; exact blk.new' _ _ rfl
  have hcA : Ch [] w1 W2 := by rw [hW2]; exact (Ch.refl _ _).alloc _
  clear hW2
  have B4 := BB4.out.ch hcA (by simp)
  have y0 := hb9.cell (i := 0) rfl
  have y1 := hb9.cell (i := 1) rfl
  have y2 := hb9.cell (i := 2) rfl
  have HCA := Lib.hid hcA; clear hcA hb9
  have z0 := B4.cell (i := 0) rfl
  have z1 := B4.cell (i := 1) rfl
  have z2 := B4.cell (i := 2) rfl
  have g0 := B4.frozen (i := 0)
  have g1 := B4.frozen (i := 1)
  have g2 := B4.frozen (i := 2)
  have hzz := B4.lt
  clear B4
  go_wp2_with fail
  refine bodyPost_ret (v := .tuple #[.agg #[.int .i64 G1.most, .slice (some ⟨rb', 0, none⟩) G1.nodes.length cap', .int .i64 q1], .slice a l1.length c, .slice none 0 0]) (by simp [results, Tryz.results219, go_sem, z0, z1, z2]) rfl ?_
  exact B2To.one HC.out (HCH.out.trans HCA.out (by simp)) (HRG.out.ch HCA.out (by simp)) hfr hlt (show l1.length ≤ 1000 by omega) (HROW.out.ch HCA.out (by simp)) HOWN.out (by omega) hl2 (set3_ch rfl)
set_option maxRecDepth 100000 in
set_option maxHeartbeats 4000000 in
theorem reference24_5 (h : RG w rb cap G) (kind : Nat) (hk : (kind : Int) % 6 = 5) (a1 : Option Addr) (n1 c1 : Nat) (a2 : Option Addr) (n2 c2 : Nat) (N : Nat) {X Y : List Nat} (hn : X.length = n1) (hn0 : 1 ≤ n1 ∧ n1 ≤ 17) (hX : Sl w a1 (natInts X)) (hxr : ∀ r ∈ X, r < 2 * G.nodes.length) (hN : N < 4294967296) :
    Calls Tryz.prog 219 #[.agg #[.int .i64 G.most, .slice (some ⟨rb, 0, none⟩) G.nodes.length cap, .int .i64 0], .agg #[.int .u8 kind, .slice a1 n1 c1, .slice a2 n2 c2, .int .u32 N]] w (B2To w rb ((rmF X (G, 0) (constL N n1)).1, (rmF X (G, 0) (constL N n1)).2, ([] : List Nat))) := by
  have hlt := h.lt
  have hpos := h.ok.wf.pos
  have hlen := rmF_len0 (x := X) (G, 0) (y := constL N n1) (by rw [constL_len9]; omega)
  rw [hn] at hlen
  have hcl : (constL N n1).length = n1 := constL_len9 N n1
  have hC := fun (W : World) (hW : Ch [] w W) (a9 : Option Addr) (c9 : Nat) (hY : Sl W a9 (natInts (constL N n1))) => r24Mul_is (h.ch hW (by simp)) n1 c1 c9 (hX.ch hW (by simp)) hY hn hcl (by omega) hxr (fun r hr => by have := constL_bit9 _ _ r hr; omega)
  have hK := fun (W : World) => r23Const_is (w := W) N hN n1 (by omega)
  rw [rConstN_eq] at hK
  generalize rmF X (G, 0) (constL N n1) = R at *
  obtain ⟨⟨G1, q1⟩, l1⟩ := R
  generalize constL N n1 = CL at *
  have HCC := Lib.hid hC; clear hC
  have HK := Lib.hid hK; clear hK
  clear h
  go_enter Tryz.func219, Tryz.ntmps219
  go_upto_region 1 with fail
  refine wp_alw ?_
  intro W hW
  have b2 : blk W w.heap.size [.int .i64 G.most, .slice (some ⟨rb, 0, none⟩) G.nodes.length cap, .int .i64 0] := by rw [hW]; exact ((blk.new' _ _ rfl).alloc _).alloc _
  have b3 : blk W (w.heap.size + 1) [.int .u8 kind, .slice a1 n1 c1, .slice a2 n2 c2, .int .u32 N] := by rw [hW]; exact (blk.new' _ _ (by simp)).alloc _
  have b4 : blk W (w.heap.size + 2) [.int .i64 0, .slice none 0 0, .int .i64 0] := by rw [hW]; exact blk.new' _ _ (by simp)
  have hc : Ch [] w W := by rw [hW]; exact (((Ch.refl _ _).alloc _).alloc _).alloc _
  clear hW
  have HC := Lib.hid hc; clear hc
  have k0 := b3.cell (i := 0) rfl
  have k1 := b3.cell (i := 1) rfl
  have k3 := b3.cell (i := 3) rfl
  have hl2 := b4.lt
  have B2 := Lib.hid b2; clear b2
  have B3 := Lib.hid b3; clear b3
  have B4 := Lib.hid b4; clear b4
  have hN2 : (N : Int) < 4294967296 := by omega
  go_upto_region 16 with fail
  clear k0 hk
  go_cut [17] (fun v wd => ∃ (rb' cap' : Nat) (a : Option Addr) (c : Nat), v = .slice a l1.length c ∧ RG wd rb' cap' G1 ∧ Ch [w.heap.size] W wd ∧ (rb' = rb ∨ W.heap.size ≤ rb') ∧ blk wd w.heap.size [.int .i64 G1.most, .slice (some ⟨rb', 0, none⟩) G1.nodes.length cap', .int .i64 q1] ∧ row wd 3 1 (.slice a l1.length c) l1.length (intCells (natInts l1)) ∧ ∀ q, (Value.slice a l1.length c).ownBlock = some q → W.heap.size ≤ q ∧ q ≠ rb')
  case first =>
    have hcur0 := (Ch.refl [] W).drew
    refine Ord.St.door (fun w' => Ch [] W w') [.ho, .fl, .ho, .fl, .rd, .fl, .fl, .rd, .rd, .ef, .ef, .fl, .fl, .fl, .ef, .fl] [0, 0, 2, 0, 8, 24, 0, 64, 192, 504, 1023, 2047, 4095, 4095, 8191, 32767] [0, 1, 2, 3, 4, 5, 6, 7, 8, 9, 10, 11, 12, 13, 14, 15] mixed (by kernel_rfl) rfl ?_
    refine Ord.St.ho2 (T' := ?_) 0 [1, 2, 3, 4, 5, 6, 7, 8, 9, 10, 11, 12, 13, 14, 15] _ _ rfl (by kernel_rfl) rfl rfl rfl rfl ?_ (fun K w' hw' hk => ?_) ?_
    rotate_left
    · exact hcur0
    · have hb2 := B2.out.ch hw' (by simp); have y0 := hb2.cell (i := 0) rfl; have y1 := hb2.cell (i := 1) rfl; have y2 := hb2.cell (i := 2) rfl; have k1' := (hw'.cell (cell_lt k1) (by simp)).trans k1; clear hb2; go_step; exact hk
    refine Ord.St.fl2 (T' := ?_) 1 [2, 3, 4, 5, 6, 7, 8, 9, 10, 11, 12, 13, 14, 15] _ _ rfl (by kernel_rfl) rfl rfl rfl rfl (fun K w' hk => ?_) ?_
    rotate_left
    · go_step; exact hk
    refine Ord.St.ho2 (T' := ?_) 2 [3, 4, 5, 6, 7, 8, 9, 10, 11, 12, 13, 14, 15] _ _ rfl (by kernel_rfl) rfl rfl rfl rfl ?_ (fun K w' hw' hk => ?_) ?_
    rotate_left
    · exact hcur0
    · have hb2 := B2.out.ch hw' (by simp); have y0 := hb2.cell (i := 0) rfl; have y1 := hb2.cell (i := 1) rfl; have y2 := hb2.cell (i := 2) rfl; have k1' := (hw'.cell (cell_lt k1) (by simp)).trans k1; clear hb2; go_step; exact hk
    refine Ord.St.fl2 (T' := ?_) 3 [4, 5, 6, 7, 8, 9, 10, 11, 12, 13, 14, 15] _ _ rfl (by kernel_rfl) rfl rfl rfl rfl (fun K w' hk => ?_) ?_
    rotate_left
    · go_step; exact hk
    refine Ord.St.rd2 (T' := ?_) 4 [5, 6, 7, 8, 9, 10, 11, 12, 13, 14, 15] _ _ rfl (by kernel_rfl) rfl rfl rfl rfl (fun K hk => ?_) ?_
    rotate_left
    · go_step; exact hk
    refine Ord.St.fl2 (T' := ?_) 5 [6, 7, 8, 9, 10, 11, 12, 13, 14, 15] _ _ rfl (by kernel_rfl) rfl rfl rfl rfl (fun K w' hk => ?_) ?_
    rotate_left
    · go_step; exact hk
    refine Ord.St.fl2 (T' := ?_) 6 [7, 8, 9, 10, 11, 12, 13, 14, 15] _ _ rfl (by kernel_rfl) rfl rfl rfl rfl (fun K w' hk => ?_) ?_
    rotate_left
    · go_step; exact hk
    refine Ord.St.rd2 (T' := ?_) 7 [8, 9, 10, 11, 12, 13, 14, 15] _ _ rfl (by kernel_rfl) rfl rfl rfl rfl (fun K hk => ?_) ?_
    rotate_left
    · go_step; exact hk
    refine Ord.St.rd2 (T' := ?_) 8 [9, 10, 11, 12, 13, 14, 15] _ _ rfl (by kernel_rfl) rfl rfl rfl rfl (fun K hk => ?_) ?_
    rotate_left
    · go_step; exact hk
    refine Ord.St.efC 9 [10, 11, 12, 13, 14, 15] _ rfl (by kernel_rfl) (fun K hK => ?_)
    go_wp2_with fail
    refine (HK.out _).mono ?_
    rintro e w2 ⟨v, rfl, hro, hlo, hc2⟩
    have hcur : Ch [] W w2 := hcur0.trans hc2 (by simp)
    obtain ⟨na, nc, rfl⟩ := row.shape hro
    have hsl : Sl w2 na (natInts CL) := Sl.of_row' hro hcl (by omega)
    have HSL := Lib.hid hsl; clear hsl hro hlo hc2
    go_wp2_with fail
    refine ⟨rfl, hK _ _ ?_ ?_⟩
    · exact hcur
    clear hK K
    refine Ord.St.ef 10 [11, 12, 13, 14, 15] _ rfl (by kernel_rfl) (fun K hK => ?_)
    go_wp2_with fail
    refine (HCC.out _ (HC.out.trans hcur (by simp)) na nc HSL.out).mono ?_
    rintro e w3 ⟨rb', cap', a, c, rfl, hrg, hch, hfr, hrow, hown⟩
    have hcur3 := hcur.trans hch (by simp)
    have b2' := B2.out.ch hcur3 (by simp)
    have y0 := b2'.cell (i := 0) rfl
    have y1 := b2'.cell (i := 1) rfl
    have y2 := b2'.cell (i := 2) rfl
    have f0 := b2'.frozen (i := 0)
    have f1 := b2'.frozen (i := 1)
    have f2 := b2'.frozen (i := 2)
    have hz2 := hcur.size
    have hz3 := HC.out.size
    have hz4 := hch.size
    have BB2 := Lib.hid b2'; clear b2'
    have HRG := Lib.hid hrg; clear hrg
    have HCU := Lib.hid hcur3; clear hcur3 hch
    have HROW := Lib.hid hrow; clear hrow
    have HOWN := Lib.hid hown; clear hown
    go_wp2_with fail
    refine ⟨rfl, hK _ _ ?_⟩; clear hK K
    refine Ord.St.fl2 (T' := ?_) 11 [12, 13, 14, 15] _ _ rfl (by kernel_rfl) rfl rfl rfl rfl (fun K w' hk => ?_) ?_
    rotate_left
    · go_step; exact hk
    refine Ord.St.fl2 (T' := ?_) 12 [13, 14, 15] _ _ rfl (by kernel_rfl) rfl rfl rfl rfl (fun K w' hk => ?_) ?_
    rotate_left
    · go_step; exact hk
    refine Ord.St.fl2 (T' := ?_) 13 [14, 15] _ _ rfl (by kernel_rfl) rfl rfl rfl rfl (fun K w' hk => ?_) ?_
    rotate_left
    · go_step; exact hk
    refine Ord.St.ef 14 [15] _ rfl (by kernel_rfl) (fun K hK => ?_)
    go_wp2_with fail
    refine ⟨rfl, hK _ _ ?_⟩; clear hK K
    refine Ord.St.fl2 (T' := ?_) 15 [] _ _ rfl (by kernel_rfl) rfl rfl rfl rfl (fun K w' hk => ?_) ?_
    rotate_left
    · go_step; exact hk
    refine Ord.St.nil ?_
    go_wp2_with fail
    go_meet
    case rel =>
      have hcs : Ch [w.heap.size] w3 (((w3.setCell ⟨w.heap.size, 0, none⟩ (.int .i64 G1.most)).setCell ⟨w.heap.size, 1, none⟩ (.slice (some ⟨rb', 0, none⟩) G1.nodes.length cap')).setCell ⟨w.heap.size, 2, none⟩ (.int .i64 q1)) := set3_ch rfl
      exact ⟨rb', cap', a, c, rfl, HRG.out.ch hcs (by simp; omega), (HCU.out.mono (by simp)).trans hcs (fun k hk => .inl hk), by omega, set3_blk BB2.out rfl, HROW.out.ch hcs (fun k hk => by have := HOWN.out k hk; simp; omega), fun q hq => by have := HOWN.out q hq; omega⟩
  case rest =>
    obtain ⟨rb', cap', a, c, rfl, hrg, hch, hfr, b2', hrow, hown⟩ := hcut
    have hz := hch.size
    have hzc := HC.out.size
    have b4' := B4.out.ch hch (by simp)
    have y0 := b2'.cell (i := 0) rfl
    have y1 := b2'.cell (i := 1) rfl
    have y2 := b2'.cell (i := 2) rfl
    have z0 := b4'.cell (i := 0) rfl
    have z1 := b4'.cell (i := 1) rfl
    have z2 := b4'.cell (i := 2) rfl
    have g0 := b4'.frozen (i := 0)
    have g1 := b4'.frozen (i := 1)
    have g2 := b4'.frozen (i := 2)
    have hzz := b4'.lt
    have HRG := Lib.hid hrg; clear hrg b2' b4'
    have HCH := Lib.hid hch; clear hch
    have HROW := Lib.hid hrow; clear hrow
    have HOWN := Lib.hid hown; clear hown
    go_wp2_with fail
    refine bodyPost_ret (v := .tuple #[.agg #[.int .i64 G1.most, .slice (some ⟨rb', 0, none⟩) G1.nodes.length cap', .int .i64 q1], .slice a l1.length c, .slice none 0 0]) (by simp [results, Tryz.results219, go_sem, z0, z1, z2]) rfl ?_
    have hcs := set3_ch (w := wc) (b := w.heap.size + 2) (u := .int .i64 G1.most) (v := .slice (some ⟨rb', 0, none⟩) G1.nodes.length cap') (x := .int .i64 q1) rfl
    have hrow3 := HROW.out.ch hcs (fun k hk => by have := HOWN.out k hk; simp; omega)
    exact ⟨rb', cap', a, c, none, 0, rfl, HRG.out.ch hcs (by simp; omega), (HC.out.trans HCH.out (fun k hk => .inr (by simp at hk; omega))).trans hcs (fun k hk => .inr (by simp at hk; omega)), by omega, Sl.of_ints hrow3 (by omega), ⟨fun i x hx => by simp [natInts] at hx, by simp [natInts]⟩, fun p hp => by subst hp; have := HOWN.out p.block rfl; omega, fun p hp => by cases hp⟩
theorem reference24_is (h : RG w rb cap G) (kind : Nat) (a1 : Option Addr) (n1 c1 : Nat) (a2 : Option Addr) (n2 c2 : Nat) (N : Nat) (hN : N < 4294967296) {X Y : List Int} (hn : X.length = n1) (hm : Y.length = n2) (hX : Sl w a1 X) (hY : Sl w a2 Y) (hf : f24 (kind % 6) G X Y = 0) :
    Calls Tryz.prog 219 #[.agg #[.int .i64 G.most, .slice (some ⟨rb, 0, none⟩) G.nodes.length cap, .int .i64 0], .agg #[.int .u8 kind, .slice a1 n1 c1, .slice a2 n2 c2, .int .u32 N]] w (B2To w rb (RF24 (kind % 6) G (nats X) (nats Y) N)) := by
  have hlt : kind % 6 < 6 := Nat.mod_lt _ (by omega)
  obtain ⟨k, hk⟩ : ∃ k, kind % 6 = k := ⟨_, rfl⟩
  rw [hk] at hlt hf ⊢
  have hki : (kind : Int) % 6 = k := by omega
  obtain ⟨h1, h16, hxi, hxr⟩ := f24_one hf
  have hnx : (nats X).length = n1 := by rw [nats_len9]; exact hn
  have hX' : Sl w a1 (natInts (nats X)) := by rw [hxi]; exact hX
  rw [hn] at h1 h16
  by_cases h3 : k ≤ 3
  · obtain ⟨hyl, hyi, hyr⟩ := f24_two h3 hf
    have hny : (nats Y).length = n1 := by rw [nats_len9, hyl]; exact hn
    have hY' : Sl w a2 (natInts (nats Y)) := by rw [hyi]; exact hY
    have hn12 : n2 = n1 := by omega
    subst hn12
    match k, hlt, hki, h3 with
    | 0, _, hki, _ => exact reference24_0 h kind hki a1 n2 c1 a2 c2 N hnx ⟨h1, by omega⟩ hX' hxr hny hY' hyr
    | 1, _, hki, _ => exact reference24_1 h kind hki a1 n2 c1 a2 c2 N hnx ⟨h1, by omega⟩ hX' hxr hny hY' hyr
    | 2, _, hki, _ =>
      have := reference24_2 h kind hki a1 n2 c1 a2 c2 N hnx ⟨h1, by omega⟩ hX' hxr hny hY' hyr
      rw [← hnx] at this
      unfold RF24
      rw [hnx] at this ⊢
      exact this
    | 3, _, hki, _ =>
      have := reference24_3 h kind hki a1 n2 c1 a2 c2 N hnx ⟨h1, by omega⟩ hX' hxr hny hY' hyr
      unfold RF24
      rw [hnx]
      exact this
  · match k, hlt, hki, h3 with
    | 4, _, hki, _ => exact reference24_4 (Y := []) h kind hki a1 n1 c1 a2 n2 c2 N hnx ⟨h1, by omega⟩ hX' hxr
    | 5, _, hki, _ =>
      have := reference24_5 (Y := []) h kind hki a1 n1 c1 a2 n2 c2 N hnx ⟨h1, by omega⟩ hX' hxr hN
      unfold RF24
      rw [hnx]
      exact this
    | 0, _, _, h3 => exact absurd (by omega) h3
    | 1, _, _, h3 => exact absurd (by omega) h3
    | 2, _, _, h3 => exact absurd (by omega) h3
    | 3, _, _, h3 => exact absurd (by omega) h3
end
end Go.Proofs.YtehljgigebhddaaGreat
namespace Go.Proofs.YtehljgigebhddaaGreat
open Go.RowKit Go.Mem Go.Aig
section
variable {w : World}
set_option maxRecDepth 100000 in
set_option maxHeartbeats 4000000 in
theorem r24Check_is {rb rcap : Nat} {G : Gra} (hr : RG w rb rcap G) {b n cap : Nat} {ws : List WV} (hn : ws.length = n) (hn1 : 1 ≤ n) (hn2 : n ≤ 1000) (hb : ∀ (i : Nat) x, ws[i]? = some x → w.cell? ⟨b, i, none⟩ = some x.val) (hsl : ∀ x ∈ ws, Sl w x.a x.l) (hsz : ∀ x ∈ ws, x.l.length ≤ 1000000) :
    Calls Tryz.prog 218 #[.agg #[.int .i64 G.most, .slice (some ⟨rb, 0, none⟩) G.nodes.length rcap], .slice (some ⟨b, 0, none⟩) n cap] w fun e w' => e = .returned (.int .i64 (chk24 G (ws.map WV.l))) ∧ Ch [] w w' := by
  obtain ⟨y, hy⟩ : ∃ y, ws[0]? = some y := ⟨_, List.getElem?_eq_getElem (by omega)⟩
  have hhd : ((ws.map WV.l).headD []).length = y.l.length := by
    cases ws with
    | nil => simp at hy
    | cons z zs => simp at hy; subst hy; rfl
  have hcy := hb 0 y hy
  obtain ⟨ya, yl, yc⟩ := y
  simp only [WV.val] at hcy hhd
  obtain ⟨m0, hm0⟩ : ∃ m0, m0 = yl.length := ⟨_, rfl⟩
  rw [← hm0] at hcy hhd
  obtain ⟨RES, hRES⟩ : ∃ RES, RES = chk24 G (ws.map WV.l) := ⟨_, rfl⟩
  rw [← hRES]
  unfold chk24 at hRES
  rw [hhd] at hRES
  clear hhd hm0 hy
  have HRES := Lib.hid hRES; clear hRES
  have HB := Lib.hid hb; clear hb
  have HSL := Lib.hid hsl; clear hsl
  have HSZ := Lib.hid hsz; clear hsz
  have HN := Lib.hid hn; clear hn
  have HR := Lib.hid hr; clear hr
  have HCY := Lib.hid hcy; clear hcy
  go_enter Tryz.func218, Tryz.ntmps218
  go_wp2_with fail
  refine wp_alw ?_
  intro W0 hW0
  have b2 := alw_blk (xs := [.int .i64 G.most, .slice (some ⟨rb, 0, none⟩) G.nodes.length rcap]) hW0
  have hc0 := alw_ch hW0
  clear hW0
  have B2 := Lib.hid b2; clear b2
  have HC0 := Lib.hid hc0; clear hc0
  go_loopw [5] (fun i wr => ∃ k : Nat, k ≤ n ∧ i = .int .i64 k ∧ Ch [] W0 wr ∧ ∀ x ∈ ws.take k, bad24 m0 x.l = false) (fun i _ => n - (intOf i).toNat)
  case atStart => exact ⟨0, by omega, rfl, Ch.refl _ _, by simp⟩
  case round =>
    obtain ⟨k, hk, rfl, hc, hall⟩ := hrel
    by_cases hlt : k < n
    · obtain ⟨x, hx⟩ : ∃ x, ws[k]? = some x := ⟨_, List.getElem?_eq_getElem (by rw [HN.out]; exact hlt)⟩
      have hcx := HB.out k x hx
      have hsz := HSZ.out x (List.mem_of_getElem? hx)
      have hcw := HC0.out.trans hc (by simp)
      have d0 := (hcw.cell (cell_lt hcx) (by simp)).trans hcx
      have d1 := (hcw.cell (cell_lt HCY.out) (by simp)).trans HCY.out
      have hsn : ws.take (k + 1) = ws.take k ++ [x] := by rw [List.take_add_one, hx]; rfl
      have hbad : bad24 m0 x.l = true → (ws.map WV.l).any (bad24 m0) = true := fun e => List.any_eq_true.2 ⟨x.l, List.mem_map.2 ⟨x, List.mem_of_getElem? hx, rfl⟩, e⟩
      have hbe : bad24 m0 x.l = (decide (x.l.length < 1) || (decide (16 < x.l.length) || decide (x.l.length ≠ m0))) := rfl
      obtain ⟨xa, xl, xc⟩ := x
      simp only [WV.val] at d0
      obtain ⟨m, hm⟩ : ∃ m, m = xl.length := ⟨_, rfl⟩
      simp only [← hm] at d0 hbe hsz
      clear hm hcx hx
      have HC := Lib.hid hcw; clear hcw
      have HCW := Lib.hid hc; clear hc
      have HALL := Lib.hid hall; clear hall
      have HSN := Lib.hid hsn; clear hsn
      have HBAD := Lib.hid hbad; clear hbad
      have HBE := Lib.hid hbe; clear hbe
      have hfour : (decide ((m : Int) < 1) = true ∧ bad24 m0 xl = true) ∨ (decide ((m : Int) < 1) = false ∧ decide ((16 : Int) < m) = true ∧ bad24 m0 xl = true) ∨ (decide ((m : Int) < 1) = false ∧ decide ((16 : Int) < m) = false ∧ ((m : Int) != m0) = false ∧ bad24 m0 xl = false) ∨ (decide ((m : Int) < 1) = false ∧ decide ((16 : Int) < m) = false ∧ ((m : Int) != m0) = true ∧ bad24 m0 xl = true) := by
        rw [HBE.out]
        by_cases g1 : m < 1
        · exact .inl ⟨decide_eq_true (by omega), by rw [decide_eq_true g1]; rfl⟩
        · have q1 : decide ((m : Int) < 1) = false := decide_eq_false (by omega)
          by_cases g2 : 16 < m
          · exact .inr (.inl ⟨q1, decide_eq_true (by omega), by rw [decide_eq_true g2]; simp⟩)
          · have q2 : decide ((16 : Int) < m) = false := decide_eq_false (by omega)
            by_cases g3 : m = m0
            · exact .inr (.inr (.inl ⟨q1, q2, by rw [g3]; simp, by rw [decide_eq_false g1, decide_eq_false g2]; simp [g3]⟩))
            · exact .inr (.inr (.inr ⟨q1, q2, bne_iff_ne.2 (by omega), by rw [decide_eq_true (p := m ≠ m0) g3]; simp⟩))
      obtain ⟨bad, hbd⟩ : ∃ bad, bad = bad24 m0 xl := ⟨_, rfl⟩
      rw [← hbd] at hfour
      have HBAD2 := Lib.hid (hbd ▸ HBAD.out : bad = true → (ws.map WV.l).any (bad24 m0) = true)
      have HBDD := Lib.hid hbd; clear hbd
      go_upto_region 4 with fail
      go_cut [39] (fun t wd => t = .bool bad ∧ wd = wr.drew)
      case first =>
        rcases hfour with ⟨q1, hb⟩ | ⟨q1, q2, hb⟩ | ⟨q1, q2, q3, hb⟩ | ⟨q1, q2, q3, hb⟩
        all_goals
          refine Ord.St.door (fun _ => True) [.fl, .fl, .fl, .rd, .rd, .fl, .fl, .fl, .fl, .fl, .rd, .rd, .fl, .fl, .fl, .fl, .fl, .fl, .rd, .rd, .fl, .fl, .rd, .rd, .fl, .fl] [0, 0, 3, 7, 15, 31, 63, 127, 127, 511, 1023, 2047, 4095, 8191, 16383, 32767, 32767, 131071, 262143, 524287, 32767, 1081343, 3178495, 7372799, 16777215, 33554431] [0, 1, 2, 3, 4, 5, 6, 7, 8, 9, 10, 11, 12, 13, 14, 15, 16, 17, 18, 19, 20, 21, 22, 23, 24, 25] mixed (by kernel_rfl) rfl ?_
          refine Ord.St.fl2 (T' := ?_) 0 [1, 2, 3, 4, 5, 6, 7, 8, 9, 10, 11, 12, 13, 14, 15, 16, 17, 18, 19, 20, 21, 22, 23, 24, 25] _ _ rfl (by kernel_rfl) rfl rfl rfl rfl (fun K w' hk => ?_) ?_
          rotate_left
          · go_step; exact hk
          refine Ord.St.fl2 (T' := ?_) 1 [2, 3, 4, 5, 6, 7, 8, 9, 10, 11, 12, 13, 14, 15, 16, 17, 18, 19, 20, 21, 22, 23, 24, 25] _ _ rfl (by kernel_rfl) rfl rfl rfl rfl (fun K w' hk => ?_) ?_
          rotate_left
          · go_step; exact hk
          refine Ord.St.fl2 (T' := ?_) 2 [3, 4, 5, 6, 7, 8, 9, 10, 11, 12, 13, 14, 15, 16, 17, 18, 19, 20, 21, 22, 23, 24, 25] _ _ rfl (by kernel_rfl) rfl rfl rfl rfl (fun K w' hk => ?_) ?_
          rotate_left
          · go_step; exact hk
          refine Ord.St.rd2 (T' := ?_) 3 [4, 5, 6, 7, 8, 9, 10, 11, 12, 13, 14, 15, 16, 17, 18, 19, 20, 21, 22, 23, 24, 25] _ _ rfl (by kernel_rfl) rfl rfl rfl rfl (fun K hk => ?_) ?_
          rotate_left
          · go_step; exact hk
          refine Ord.St.rd2 (T' := ?_) 4 [5, 6, 7, 8, 9, 10, 11, 12, 13, 14, 15, 16, 17, 18, 19, 20, 21, 22, 23, 24, 25] _ _ rfl (by kernel_rfl) rfl rfl rfl rfl (fun K hk => ?_) ?_
          rotate_left
          · go_step; exact hk
          refine Ord.St.fl2 (T' := ?_) 5 [6, 7, 8, 9, 10, 11, 12, 13, 14, 15, 16, 17, 18, 19, 20, 21, 22, 23, 24, 25] _ _ rfl (by kernel_rfl) rfl rfl rfl rfl (fun K w' hk => ?_) ?_
          rotate_left
          · go_step; exact hk
          refine Ord.St.fl2 (T' := ?_) 6 [7, 8, 9, 10, 11, 12, 13, 14, 15, 16, 17, 18, 19, 20, 21, 22, 23, 24, 25] _ _ rfl (by kernel_rfl) rfl rfl rfl rfl (fun K w' hk => ?_) ?_
          rotate_left
          · go_step; exact hk
          first | (refine Ord.St.fl2 (T' := ?_) 7 [8, 9, 10, 11, 12, 13, 14, 15, 16, 17, 18, 19, 20, 21, 22, 23, 24, 25] _ _ rfl (by kernel_rfl) ?_ rfl rfl rfl (fun K w' hk => ?_) ?_; rotate_left; (first | rfl | (simp [Region.wanted, yielded, *]; done)); focus (go_step; exact hk)) | (refine Ord.St.skip 7 [8, 9, 10, 11, 12, 13, 14, 15, 16, 17, 18, 19, 20, 21, 22, 23, 24, 25] _ rfl (by kernel_rfl) ?_ (fun K hK => ?_); (first | rfl | (simp [Region.wanted, yielded, *]; done)); go_simp; refine hK _ ?_; clear hK K)
          first | (refine Ord.St.fl2 (T' := ?_) 8 [9, 10, 11, 12, 13, 14, 15, 16, 17, 18, 19, 20, 21, 22, 23, 24, 25] _ _ rfl (by kernel_rfl) ?_ rfl rfl rfl (fun K w' hk => ?_) ?_; rotate_left; (first | rfl | (simp [Region.wanted, yielded, *]; done)); focus (go_step; exact hk)) | (refine Ord.St.skip 8 [9, 10, 11, 12, 13, 14, 15, 16, 17, 18, 19, 20, 21, 22, 23, 24, 25] _ rfl (by kernel_rfl) ?_ (fun K hK => ?_); (first | rfl | (simp [Region.wanted, yielded, *]; done)); go_simp; refine hK _ ?_; clear hK K)
          first | (refine Ord.St.fl2 (T' := ?_) 9 [10, 11, 12, 13, 14, 15, 16, 17, 18, 19, 20, 21, 22, 23, 24, 25] _ _ rfl (by kernel_rfl) ?_ rfl rfl rfl (fun K w' hk => ?_) ?_; rotate_left; (first | rfl | (simp [Region.wanted, yielded, *]; done)); focus (go_step; exact hk)) | (refine Ord.St.skip 9 [10, 11, 12, 13, 14, 15, 16, 17, 18, 19, 20, 21, 22, 23, 24, 25] _ rfl (by kernel_rfl) ?_ (fun K hK => ?_); (first | rfl | (simp [Region.wanted, yielded, *]; done)); go_simp; refine hK _ ?_; clear hK K)
          first | (refine Ord.St.rd2 (T' := ?_) 10 [11, 12, 13, 14, 15, 16, 17, 18, 19, 20, 21, 22, 23, 24, 25] _ _ rfl (by kernel_rfl) ?_ rfl rfl rfl (fun K hk => ?_) ?_; rotate_left; (first | rfl | (simp [Region.wanted, yielded, *]; done)); focus (go_step; exact hk)) | (refine Ord.St.skipr 10 [11, 12, 13, 14, 15, 16, 17, 18, 19, 20, 21, 22, 23, 24, 25] _ rfl (by kernel_rfl) ?_ (fun K hK => ?_); (first | rfl | (simp [Region.wanted, yielded, *]; done)); go_simp; refine hK _ ?_; clear hK K)
          first | (refine Ord.St.rd2 (T' := ?_) 11 [12, 13, 14, 15, 16, 17, 18, 19, 20, 21, 22, 23, 24, 25] _ _ rfl (by kernel_rfl) ?_ rfl rfl rfl (fun K hk => ?_) ?_; rotate_left; (first | rfl | (simp [Region.wanted, yielded, *]; done)); focus (go_step; exact hk)) | (refine Ord.St.skipr 11 [12, 13, 14, 15, 16, 17, 18, 19, 20, 21, 22, 23, 24, 25] _ rfl (by kernel_rfl) ?_ (fun K hK => ?_); (first | rfl | (simp [Region.wanted, yielded, *]; done)); go_simp; refine hK _ ?_; clear hK K)
          first | (refine Ord.St.fl2 (T' := ?_) 12 [13, 14, 15, 16, 17, 18, 19, 20, 21, 22, 23, 24, 25] _ _ rfl (by kernel_rfl) ?_ rfl rfl rfl (fun K w' hk => ?_) ?_; rotate_left; (first | rfl | (simp [Region.wanted, yielded, *]; done)); focus (go_step; exact hk)) | (refine Ord.St.skip 12 [13, 14, 15, 16, 17, 18, 19, 20, 21, 22, 23, 24, 25] _ rfl (by kernel_rfl) ?_ (fun K hK => ?_); (first | rfl | (simp [Region.wanted, yielded, *]; done)); go_simp; refine hK _ ?_; clear hK K)
          refine Ord.St.fl2 (T' := ?_) 13 [14, 15, 16, 17, 18, 19, 20, 21, 22, 23, 24, 25] _ _ rfl (by kernel_rfl) rfl rfl rfl rfl (fun K w' hk => ?_) ?_
          rotate_left
          · go_step; exact hk
          refine Ord.St.fl2 (T' := ?_) 14 [15, 16, 17, 18, 19, 20, 21, 22, 23, 24, 25] _ _ rfl (by kernel_rfl) rfl rfl rfl rfl (fun K w' hk => ?_) ?_
          rotate_left
          · go_step; exact hk
          first | (refine Ord.St.fl2 (T' := ?_) 15 [16, 17, 18, 19, 20, 21, 22, 23, 24, 25] _ _ rfl (by kernel_rfl) ?_ rfl rfl rfl (fun K w' hk => ?_) ?_; rotate_left; (first | rfl | (simp [Region.wanted, yielded, *]; done)); focus (go_step; exact hk)) | (refine Ord.St.skip 15 [16, 17, 18, 19, 20, 21, 22, 23, 24, 25] _ rfl (by kernel_rfl) ?_ (fun K hK => ?_); (first | rfl | (simp [Region.wanted, yielded, *]; done)); go_simp; refine hK _ ?_; clear hK K)
          first | (refine Ord.St.fl2 (T' := ?_) 16 [17, 18, 19, 20, 21, 22, 23, 24, 25] _ _ rfl (by kernel_rfl) ?_ rfl rfl rfl (fun K w' hk => ?_) ?_; rotate_left; (first | rfl | (simp [Region.wanted, yielded, *]; done)); focus (go_step; exact hk)) | (refine Ord.St.skip 16 [17, 18, 19, 20, 21, 22, 23, 24, 25] _ rfl (by kernel_rfl) ?_ (fun K hK => ?_); (first | rfl | (simp [Region.wanted, yielded, *]; done)); go_simp; refine hK _ ?_; clear hK K)
          first | (refine Ord.St.fl2 (T' := ?_) 17 [18, 19, 20, 21, 22, 23, 24, 25] _ _ rfl (by kernel_rfl) ?_ rfl rfl rfl (fun K w' hk => ?_) ?_; rotate_left; (first | rfl | (simp [Region.wanted, yielded, *]; done)); focus (go_step; exact hk)) | (refine Ord.St.skip 17 [18, 19, 20, 21, 22, 23, 24, 25] _ rfl (by kernel_rfl) ?_ (fun K hK => ?_); (first | rfl | (simp [Region.wanted, yielded, *]; done)); go_simp; refine hK _ ?_; clear hK K)
          first | (refine Ord.St.rd2 (T' := ?_) 18 [19, 20, 21, 22, 23, 24, 25] _ _ rfl (by kernel_rfl) ?_ rfl rfl rfl (fun K hk => ?_) ?_; rotate_left; (first | rfl | (simp [Region.wanted, yielded, *]; done)); focus (go_step; exact hk)) | (refine Ord.St.skipr 18 [19, 20, 21, 22, 23, 24, 25] _ rfl (by kernel_rfl) ?_ (fun K hK => ?_); (first | rfl | (simp [Region.wanted, yielded, *]; done)); go_simp; refine hK _ ?_; clear hK K)
          first | (refine Ord.St.rd2 (T' := ?_) 19 [20, 21, 22, 23, 24, 25] _ _ rfl (by kernel_rfl) ?_ rfl rfl rfl (fun K hk => ?_) ?_; rotate_left; (first | rfl | (simp [Region.wanted, yielded, *]; done)); focus (go_step; exact hk)) | (refine Ord.St.skipr 19 [20, 21, 22, 23, 24, 25] _ rfl (by kernel_rfl) ?_ (fun K hK => ?_); (first | rfl | (simp [Region.wanted, yielded, *]; done)); go_simp; refine hK _ ?_; clear hK K)
          first | (refine Ord.St.fl2 (T' := ?_) 20 [21, 22, 23, 24, 25] _ _ rfl (by kernel_rfl) ?_ rfl rfl rfl (fun K w' hk => ?_) ?_; rotate_left; (first | rfl | (simp [Region.wanted, yielded, *]; done)); focus (go_step; exact hk)) | (refine Ord.St.skip 20 [21, 22, 23, 24, 25] _ rfl (by kernel_rfl) ?_ (fun K hK => ?_); (first | rfl | (simp [Region.wanted, yielded, *]; done)); go_simp; refine hK _ ?_; clear hK K)
          first | (refine Ord.St.fl2 (T' := ?_) 21 [22, 23, 24, 25] _ _ rfl (by kernel_rfl) ?_ rfl rfl rfl (fun K w' hk => ?_) ?_; rotate_left; (first | rfl | (simp [Region.wanted, yielded, *]; done)); focus (go_step; exact hk)) | (refine Ord.St.skip 21 [22, 23, 24, 25] _ rfl (by kernel_rfl) ?_ (fun K hK => ?_); (first | rfl | (simp [Region.wanted, yielded, *]; done)); go_simp; refine hK _ ?_; clear hK K)
          first | (refine Ord.St.rd2 (T' := ?_) 22 [23, 24, 25] _ _ rfl (by kernel_rfl) ?_ rfl rfl rfl (fun K hk => ?_) ?_; rotate_left; (first | rfl | (simp [Region.wanted, yielded, *]; done)); focus (go_step; exact hk)) | (refine Ord.St.skipr 22 [23, 24, 25] _ rfl (by kernel_rfl) ?_ (fun K hK => ?_); (first | rfl | (simp [Region.wanted, yielded, *]; done)); go_simp; refine hK _ ?_; clear hK K)
          first | (refine Ord.St.rd2 (T' := ?_) 23 [24, 25] _ _ rfl (by kernel_rfl) ?_ rfl rfl rfl (fun K hk => ?_) ?_; rotate_left; (first | rfl | (simp [Region.wanted, yielded, *]; done)); focus (go_step; exact hk)) | (refine Ord.St.skipr 23 [24, 25] _ rfl (by kernel_rfl) ?_ (fun K hK => ?_); (first | rfl | (simp [Region.wanted, yielded, *]; done)); go_simp; refine hK _ ?_; clear hK K)
          first | (refine Ord.St.fl2 (T' := ?_) 24 [25] _ _ rfl (by kernel_rfl) ?_ rfl rfl rfl (fun K w' hk => ?_) ?_; rotate_left; (first | rfl | (simp [Region.wanted, yielded, *]; done)); focus (go_step; exact hk)) | (refine Ord.St.skip 24 [25] _ rfl (by kernel_rfl) ?_ (fun K hK => ?_); (first | rfl | (simp [Region.wanted, yielded, *]; done)); go_simp; refine hK _ ?_; clear hK K)
          refine Ord.St.fl2 (T' := ?_) 25 [] _ _ rfl (by kernel_rfl) rfl rfl rfl rfl (fun K w' hk => ?_) ?_
          rotate_left
          · go_step; exact hk
          refine Ord.St.nil ?_
          go_wp2_with fail
          go_meet
          case rel => exact ⟨by rw [hb], rfl⟩
      case rest =>
        obtain ⟨rfl, hwd⟩ := hcut
        clear hfour d0 d1
        have HWD := Lib.hid hwd; clear hwd
        cases bad
        · go_wp2_with fail
          go_roundw
          case rel => exact ⟨k + 1, by omega, by go_num, by rw [HWD.out]; exact HCW.out.drew, fun z hz => by
            rw [HSN.out] at hz
            rcases List.mem_append.1 hz with hz | hz
            · exact HALL.out z hz
            · rw [List.mem_singleton.1 hz]; exact HBDD.out.symm⟩
          case measure => simp [intOf]; omega
        · go_wp2_with fail
          go_ret
          exact ⟨by rw [HRES.out, HBAD2.out trivial]; rfl, by rw [HWD.out]; exact HC.out.drew⟩
    · have hno : (ws.map WV.l).any (bad24 m0) = false := by
        rw [List.take_of_length_le (by rw [HN.out]; omega)] at hall
        rw [List.any_eq_false]
        intro l hl
        obtain ⟨x, hx, rfl⟩ := List.mem_map.1 hl
        rw [hall x hx]; simp
      have hres2 : RES = if (ws.map WV.l).any (badIn G) then 200 else 0 := by rw [HRES.out, hno]; rfl
      have HRES2 := Lib.hid hres2; clear hres2 hno hall
      have HC := Lib.hid hc; clear hc
      go_wp2_with fail
      go_loopw [6] (fun i wq => ∃ k : Nat, k ≤ n ∧ i = .int .i64 k ∧ Ch [] W0 wq ∧ ∀ x ∈ ws.take k, badIn G x.l = false) (fun i _ => n - (intOf i).toNat)
      case atStart => exact ⟨0, by omega, rfl, HC.out, by simp⟩
      case round =>
        obtain ⟨k2, hk2, rfl, hc, hall⟩ := hrel
        by_cases hlt2 : k2 < n
        · obtain ⟨x, hx⟩ : ∃ x, ws[k2]? = some x := ⟨_, List.getElem?_eq_getElem (by rw [HN.out]; exact hlt2)⟩
          have hcx := HB.out k2 x hx
          have hsz := HSZ.out x (List.mem_of_getElem? hx)
          have hslx := HSL.out x (List.mem_of_getElem? hx)
          have hsn : ws.take (k2 + 1) = ws.take k2 ++ [x] := by rw [List.take_add_one, hx]; rfl
          have hbad : badIn G x.l = true → (ws.map WV.l).any (badIn G) = true := fun e => List.any_eq_true.2 ⟨x.l, List.mem_map.2 ⟨x, List.mem_of_getElem? hx, rfl⟩, e⟩
          obtain ⟨xa, xl, xc⟩ := x
          simp only [WV.val] at hcx hsz hslx hbad
          obtain ⟨m, hm⟩ : ∃ m, xl.length = m := ⟨_, rfl⟩
          rw [hm] at hcx hsz
          have HM := Lib.hid hm; clear hm hx
          have HCX := Lib.hid hcx; clear hcx
          have HSLX := Lib.hid hslx; clear hslx
          have HALL := Lib.hid hall; clear hall
          have HSN := Lib.hid hsn; clear hsn
          have HBAD := Lib.hid hbad; clear hbad
          have HC := Lib.hid hc; clear hc
          go_wp2_with fail
          go_loopw [7] (fun i wq => ∃ j : Nat, j ≤ m ∧ i = .int .i64 j ∧ Ch [] W0 wq ∧ ∀ r ∈ xl.take j, right G.nodes r = true) (fun i _ => m - (intOf i).toNat)
          case atStart => exact ⟨0, by omega, rfl, HC.out, by simp⟩
          case round =>
            obtain ⟨j, hj, rfl, hc, hin⟩ := hrel
            have hcw := HC0.out.trans hc (by simp)
            have d0 := (hcw.cell (cell_lt HCX.out) (by simp)).trans HCX.out
            by_cases hjm : j < m
            · obtain ⟨r, hr⟩ : ∃ r, xl[j]? = some r := ⟨_, List.getElem?_eq_getElem (by rw [HM.out]; exact hjm)⟩
              obtain ⟨rb9, ro9, rfl, hcl⟩ := HSLX.out.cells j r hr
              have e0 := (hcw.cell (cell_lt hcl) (by simp)).trans hcl
              have hb2 := B2.out.ch hc (by simp)
              have y0 := hb2.cell (i := 0) rfl
              have y1 := hb2.cell (i := 1) rfl
              have hRr := rRight_is ((HR.out.ch hcw (by simp)).ch (Ch.refl [] wr).drew (by simp)) r
              have hsn2 : xl.take (j + 1) = xl.take j ++ [r] := by rw [List.take_add_one, hr]; rfl
              have hbr : right G.nodes r = false → badIn G xl = true := fun e => List.any_eq_true.2 ⟨r, List.mem_of_getElem? hr, by rw [e]; rfl⟩
              have HIN := Lib.hid hin; clear hin
              have HSN2 := Lib.hid hsn2; clear hsn2
              have HBR := Lib.hid hbr; clear hbr hr hcl hb2
              have HCC := Lib.hid hc; clear hc
              have HCW := Lib.hid hcw; clear hcw
              cases hrr : right G.nodes r
              · rw [hrr] at hRr
                have HRR := Lib.hid hRr; clear hRr
                have HQ := Lib.hid hrr; clear hrr
                go_wp2_with fail
                refine Ord.St.door (fun _ => True) [.rd, .fl, .fl, .fl, .rd, .fl, .fl, .rd, .ef, .fl] [0, 0, 0, 6, 14, 0, 62, 126, 255, 511] [0, 1, 2, 3, 4, 5, 6, 7, 8, 9] mixed (by kernel_rfl) rfl ?_
                refine Ord.St.rd2 (T' := ?_) 0 [1, 2, 3, 4, 5, 6, 7, 8, 9] _ _ rfl (by kernel_rfl) rfl rfl rfl rfl (fun K hk => ?_) ?_
                rotate_left
                · go_step; exact hk
                refine Ord.St.fl2 (T' := ?_) 1 [2, 3, 4, 5, 6, 7, 8, 9] _ _ rfl (by kernel_rfl) rfl rfl rfl rfl (fun K w' hk => ?_) ?_
                rotate_left
                · go_step; exact hk
                refine Ord.St.fl2 (T' := ?_) 2 [3, 4, 5, 6, 7, 8, 9] _ _ rfl (by kernel_rfl) rfl rfl rfl rfl (fun K w' hk => ?_) ?_
                rotate_left
                · go_step; exact hk
                refine Ord.St.fl2 (T' := ?_) 3 [4, 5, 6, 7, 8, 9] _ _ rfl (by kernel_rfl) rfl rfl rfl rfl (fun K w' hk => ?_) ?_
                rotate_left
                · go_step; exact hk
                refine Ord.St.rd2 (T' := ?_) 4 [5, 6, 7, 8, 9] _ _ rfl (by kernel_rfl) rfl rfl rfl rfl (fun K hk => ?_) ?_
                rotate_left
                · go_step; exact hk
                refine Ord.St.fl2 (T' := ?_) 5 [6, 7, 8, 9] _ _ rfl (by kernel_rfl) rfl rfl rfl rfl (fun K w' hk => ?_) ?_
                rotate_left
                · go_step; exact hk
                refine Ord.St.fl2 (T' := ?_) 6 [7, 8, 9] _ _ rfl (by kernel_rfl) rfl rfl rfl rfl (fun K w' hk => ?_) ?_
                rotate_left
                · go_step; exact hk
                refine Ord.St.rd2 (T' := ?_) 7 [8, 9] _ _ rfl (by kernel_rfl) rfl rfl rfl rfl (fun K hk => ?_) ?_
                rotate_left
                · go_step; exact hk
                refine Ord.St.ef 8 [9] _ rfl (by kernel_rfl) (fun K hK => ?_)
                go_wp2_with fail
                refine HRR.out.mono ?_
                rintro e w5 ⟨rfl, hc5⟩
                have HC5 := Lib.hid hc5; clear hc5
                go_wp2_with fail
                refine ⟨rfl, hK _ _ ?_⟩; clear hK K
                refine Ord.St.fl2 (T' := ?_) 9 [] _ _ rfl (by kernel_rfl) rfl rfl rfl rfl (fun K w' hk => ?_) ?_
                rotate_left
                · go_step; exact hk
                refine Ord.St.nil ?_
                go_wp2_with fail
                go_ret
                exact ⟨by rw [HRES2.out, HBAD.out (HBR.out HQ.out)]; rfl, HCW.out.trans ((Ch.refl [] wr).drew.trans HC5.out (by simp)) (by simp)⟩
              · rw [hrr] at hRr
                have HRR := Lib.hid hRr; clear hRr
                have HQ := Lib.hid hrr; clear hrr
                go_wp2_with fail
                refine Ord.St.door (fun _ => True) [.rd, .fl, .fl, .fl, .rd, .fl, .fl, .rd, .ef, .fl] [0, 0, 0, 6, 14, 0, 62, 126, 255, 511] [0, 1, 2, 3, 4, 5, 6, 7, 8, 9] mixed (by kernel_rfl) rfl ?_
                refine Ord.St.rd2 (T' := ?_) 0 [1, 2, 3, 4, 5, 6, 7, 8, 9] _ _ rfl (by kernel_rfl) rfl rfl rfl rfl (fun K hk => ?_) ?_
                rotate_left
                · go_step; exact hk
                refine Ord.St.fl2 (T' := ?_) 1 [2, 3, 4, 5, 6, 7, 8, 9] _ _ rfl (by kernel_rfl) rfl rfl rfl rfl (fun K w' hk => ?_) ?_
                rotate_left
                · go_step; exact hk
                refine Ord.St.fl2 (T' := ?_) 2 [3, 4, 5, 6, 7, 8, 9] _ _ rfl (by kernel_rfl) rfl rfl rfl rfl (fun K w' hk => ?_) ?_
                rotate_left
                · go_step; exact hk
                refine Ord.St.fl2 (T' := ?_) 3 [4, 5, 6, 7, 8, 9] _ _ rfl (by kernel_rfl) rfl rfl rfl rfl (fun K w' hk => ?_) ?_
                rotate_left
                · go_step; exact hk
                refine Ord.St.rd2 (T' := ?_) 4 [5, 6, 7, 8, 9] _ _ rfl (by kernel_rfl) rfl rfl rfl rfl (fun K hk => ?_) ?_
                rotate_left
                · go_step; exact hk
                refine Ord.St.fl2 (T' := ?_) 5 [6, 7, 8, 9] _ _ rfl (by kernel_rfl) rfl rfl rfl rfl (fun K w' hk => ?_) ?_
                rotate_left
                · go_step; exact hk
                refine Ord.St.fl2 (T' := ?_) 6 [7, 8, 9] _ _ rfl (by kernel_rfl) rfl rfl rfl rfl (fun K w' hk => ?_) ?_
                rotate_left
                · go_step; exact hk
                refine Ord.St.rd2 (T' := ?_) 7 [8, 9] _ _ rfl (by kernel_rfl) rfl rfl rfl rfl (fun K hk => ?_) ?_
                rotate_left
                · go_step; exact hk
                refine Ord.St.ef 8 [9] _ rfl (by kernel_rfl) (fun K hK => ?_)
                go_wp2_with fail
                refine HRR.out.mono ?_
                rintro e w5 ⟨rfl, hc5⟩
                have HC5 := Lib.hid hc5; clear hc5
                go_wp2_with fail
                refine ⟨rfl, hK _ _ ?_⟩; clear hK K
                refine Ord.St.fl2 (T' := ?_) 9 [] _ _ rfl (by kernel_rfl) rfl rfl rfl rfl (fun K w' hk => ?_) ?_
                rotate_left
                · go_step; exact hk
                refine Ord.St.nil ?_
                go_wp2_with fail
                go_roundw
                case rel => exact ⟨j + 1, by omega, by go_num, HCC.out.trans ((Ch.refl [] wr).drew.trans HC5.out (by simp)) (by simp), fun z hz => by
                  rw [HSN2.out] at hz
                  rcases List.mem_append.1 hz with hz | hz
                  · exact HIN.out z hz
                  · rw [List.mem_singleton.1 hz]; exact HQ.out⟩
                case measure => simp [intOf]; omega
            · have hno : badIn G xl = false := by
                rw [List.take_of_length_le (by rw [HM.out]; omega)] at hin
                unfold badIn
                rw [List.any_eq_false]
                intro r hr
                rw [hin r hr]; simp
              have HNO := Lib.hid hno; clear hno hin
              have HCC := Lib.hid hc; clear hc hcw
              go_wp2_with fail
              go_roundw
              case rel => exact ⟨k2 + 1, by omega, by go_num, HCC.out, fun z hz => by
                rw [HSN.out] at hz
                rcases List.mem_append.1 hz with hz | hz
                · exact HALL.out z hz
                · rw [List.mem_singleton.1 hz]; exact HNO.out⟩
              case measure => simp [intOf]; omega
        · have hno : (ws.map WV.l).any (badIn G) = false := by
            rw [List.take_of_length_le (by rw [HN.out]; omega)] at hall
            rw [List.any_eq_false]
            intro l hl
            obtain ⟨x, hx, rfl⟩ := List.mem_map.1 hl
            rw [hall x hx]; simp
          have HNO := Lib.hid hno; clear hno hall
          have HCC := Lib.hid hc; clear hc
          go_wp2_with fail
          go_ret
          exact ⟨by rw [HRES2.out, HNO.out]; rfl, HC0.out.trans HCC.out (by simp)⟩
end
end Go.Proofs.YtehljgigebhddaaGreat
namespace Go.Aig
/-- what the reference makes, of words that are right: a state, a word, a reference -/
def RF (k : Nat) (G : Gra) (X Y : List Nat) (n : Nat) : Mk × List Nat × Nat :=
  match k with
  | 0 => ((G, 0), X.map neg, 0)
  | 1 => ((subW X.length (G, 0) (List.replicate X.length 0) X).1, (subW X.length (G, 0) (List.replicate X.length 0) X).2, 0)
  | 2 => ((eachF (rop and) (G, 0) (X.zip Y)).1, (eachF (rop and) (G, 0) (X.zip Y)).2, 0)
  | 3 => ((eachF (rop rOr) (G, 0) (X.zip Y)).1, (eachF (rop rOr) (G, 0) (X.zip Y)).2, 0)
  | 4 => ((eachF (rop rXor) (G, 0) (X.zip Y)).1, (eachF (rop rXor) (G, 0) (X.zip Y)).2, 0)
  | 5 => ((sumW X.length (G, 0) (X.zip Y) 0).1, (sumW X.length (G, 0) (X.zip Y) 0).2, 0)
  | 6 => ((subW X.length (G, 0) X Y).1, (subW X.length (G, 0) X Y).2, 0)
  | 7 => ((negS (neF (G, 0) (X.zip Y))).1, [], (negS (neF (G, 0) (X.zip Y))).2)
  | 8 => ((neF (G, 0) (X.zip Y)).1, [], (neF (G, 0) (X.zip Y)).2)
  | 9 => ((ltF (G, 0) (X.zip Y)).1, [], (ltF (G, 0) (X.zip Y)).2)
  | 10 => ((negS (ltF (G, 0) (Y.zip X))).1, [], (negS (ltF (G, 0) (Y.zip X))).2)
  | 11 => ((Go.Aig.sAny (G, 0) X).1, [], (Go.Aig.sAny (G, 0) X).2)
  | _ => ((inF (G, 0) n).1, (inF (G, 0) n).2, 0)
end Go.Aig
namespace Go.Proofs.YtehljgigebhddaaGreat
open Go.RowKit Go.Mem Go.Aig
section
variable {w : World} {g : Nat} {G : Gra} {F : List Nat}
end
end Go.Proofs.YtehljgigebhddaaGreat
namespace Go.Aig
/-- what the program tells of a node -/
theorem node_tells {G : Gra} (h : Ok G) {n : Nat} {x : Nd} (hx : G.nodes[n]? = some x) : kindOf G.nodes ((2 * n : Nat) : Int) = x.k ∧ lOf G.nodes ((2 * n : Nat) : Int) = x.l ∧ rOf G.nodes ((2 * n : Nat) : Int) = x.r ∧ x.k ≤ 3 := by
  have hn : nodeAt G.nodes ((2 * n : Nat) : Int) = some x := by
    unfold nodeAt
    rw [if_pos (by omega), Int.toNat_natCast, show 2 * n / 2 = n by omega, hx]
  unfold kindOf lOf rOf
  rw [hn]
  refine ⟨rfl, ?_, ?_, ?_⟩
  · show (if x.k = 3 then x.l else 0) = x.l
    by_cases h0 : n = 0
    · subst h0; rw [h.wf.const] at hx; cases hx; rfl
    · rcases h.wf.other n x hx (by omega) with e | e
      · rw [e]; rfl
      · rw [if_pos e.1]
  · show (if x.k = 3 then x.r else 0) = x.r
    by_cases h0 : n = 0
    · subst h0; rw [h.wf.const] at hx; cases hx; rfl
    · rcases h.wf.other n x hx (by omega) with e | e
      · rw [e]; rfl
      · rw [if_pos e.1]
  · by_cases h0 : n = 0
    · subst h0; rw [h.wf.const] at hx; cases hx; decide
    · rcases h.wf.other n x hx (by omega) with e | e
      · rw [e]; decide
      · omega
end Go.Aig
namespace Go.Proofs.YtehljgigebhddaaGreat
open Go.RowKit Go.Mem Go.Aig
section
variable {w : World} {g : Nat} {G : Gra} {F : List Nat}
theorem Room_j (h : GIn w g G F) : Calls Tryz.prog 202 #[.pointer (some ⟨g, 0, none⟩)] w fun e w' => e = .returned (.int .i64 ((G.most : Int) - G.nodes.length)) ∧ Ch [] w w' := by
  have hr := h.ok.room
  have hc := Room_g h
  rw [show ((G.most - G.nodes.length : Nat) : Int) = (G.most : Int) - G.nodes.length by omega] at hc
  exact hc
set_option maxRecDepth 100000 in
set_option maxHeartbeats 4000000 in
theorem Same23_is (h : GIn w g G F) {rb cap : Nat} (hr : RG w rb cap G) :
    Calls Tryz.prog 75 #[.pointer (some ⟨g, 0, none⟩), .agg #[.int .i64 G.most, .slice (some ⟨rb, 0, none⟩) G.nodes.length cap]] w fun e w' => e = .returned (.bool true) ∧ Ch [] w w' := by
  obtain ⟨hl, hp, hmo⟩ := hr.len
  have hle := hr.le
  have hmx := hr.mx
  have hml : (G.nodes.length : Int) ≤ G.most := by have := hr.ok.room; omega
  have htl := fun n x (hx : G.nodes[n]? = some x) => node_tells hr.ok hx
  have HTL := Lib.hid htl; clear htl
  have H := Lib.hid h; clear h
  have HR := Lib.hid hr; clear hr
  go_enter Tryz.func75, Tryz.ntmps75
  go_upto_region 1 with fail
  refine wp_alw ?_
  intro W0 hW0
  have hc0 : Ch [] w W0 := by rw [hW0]; exact (Ch.refl _ _).alloc _
  have b3 : blk W0 w.heap.size [.int .i64 G.most, .slice (some ⟨rb, 0, none⟩) G.nodes.length cap] := by rw [hW0]; exact blk.new' (w := w) [.int .i64 G.most, .slice (some ⟨rb, 0, none⟩) G.nodes.length cap] 123 rfl
  clear hW0
  have hg0 := H.out.same hc0 (by simp)
  have hLen := Len_g (hg0.same (Ch.refl [] W0).drew (by simp))
  have hRoom := Room_j (hg0.same (Ch.refl [] W0).drew (by simp))
  have HLEN := Lib.hid hLen; clear hLen
  have HROOM := Lib.hid hRoom; clear hRoom hg0
  have y0 := b3.cell (i := 0) rfl
  have y1 := b3.cell (i := 1) rfl
  have BB3 := Lib.hid b3; clear b3
  have HC0 := Lib.hid hc0; clear hc0
  go_wp2_with fail
  have hcurd : Ch [] W0 W0.drew := (Ch.refl [] W0).drew
  refine Ord.St.door (fun w' => Ch [] W0 w') [.fl, .rd, .fl, .rd, .fl, .fl, .fl, .fl, .ef, .fl, .ho, .fl, .ho, .fl, .fl, .fl, .fl] [0, 1, 0, 4, 12, 31, 63, 127, 255, 127, 639, 127, 2175, 6271, 15999, 32767, 65535] [0, 1, 2, 3, 4, 5, 6, 7, 8, 9, 10, 11, 12, 13, 14, 15, 16] mixed (by kernel_rfl) rfl ?_
  refine Ord.St.fl2 (T' := ?_) 0 [1, 2, 3, 4, 5, 6, 7, 8, 9, 10, 11, 12, 13, 14, 15, 16] _ _ rfl (by kernel_rfl) rfl rfl rfl rfl (fun K w' hk => ?_) ?_
  rotate_left
  · go_step; exact hk
  refine Ord.St.rd2 (T' := ?_) 1 [2, 3, 4, 5, 6, 7, 8, 9, 10, 11, 12, 13, 14, 15, 16] _ _ rfl (by kernel_rfl) rfl rfl rfl rfl (fun K hk => ?_) ?_
  rotate_left
  · go_step; refine HLEN.out.mono ?_; rintro e w'' ⟨rfl, rfl⟩; exact hk
  refine Ord.St.fl2 (T' := ?_) 2 [3, 4, 5, 6, 7, 8, 9, 10, 11, 12, 13, 14, 15, 16] _ _ rfl (by kernel_rfl) rfl rfl rfl rfl (fun K w' hk => ?_) ?_
  rotate_left
  · go_step; exact hk
  refine Ord.St.rd2 (T' := ?_) 3 [4, 5, 6, 7, 8, 9, 10, 11, 12, 13, 14, 15, 16] _ _ rfl (by kernel_rfl) rfl rfl rfl rfl (fun K hk => ?_) ?_
  rotate_left
  · go_step; exact hk
  refine Ord.St.fl2 (T' := ?_) 4 [5, 6, 7, 8, 9, 10, 11, 12, 13, 14, 15, 16] _ _ rfl (by kernel_rfl) rfl rfl rfl rfl (fun K w' hk => ?_) ?_
  rotate_left
  · go_step; exact hk
  refine Ord.St.fl2 (T' := ?_) 5 [6, 7, 8, 9, 10, 11, 12, 13, 14, 15, 16] _ _ rfl (by kernel_rfl) rfl rfl rfl rfl (fun K w' hk => ?_) ?_
  rotate_left
  · go_step; exact hk
  refine Ord.St.fl2 (T' := ?_) 6 [7, 8, 9, 10, 11, 12, 13, 14, 15, 16] _ _ rfl (by kernel_rfl) rfl rfl rfl rfl (fun K w' hk => ?_) ?_
  rotate_left
  · go_step; exact hk
  first | (refine Ord.St.fl2 (T' := ?_) 7 [8, 9, 10, 11, 12, 13, 14, 15, 16] _ _ rfl (by kernel_rfl) ?_ rfl rfl rfl (fun K w' hk => ?_) ?_; rotate_left; (first | rfl | (simp [Region.wanted, yielded, *]; done)); focus (go_step; exact hk)) | (refine Ord.St.skip 7 [8, 9, 10, 11, 12, 13, 14, 15, 16] _ rfl (by kernel_rfl) ?_ (fun K hK => ?_); (first | rfl | (simp [Region.wanted, yielded, *]; done)); go_simp; refine hK _ ?_; clear hK K)
  first | (refine Ord.St.fl2 (T' := ?_) 9 [8, 10, 11, 12, 13, 14, 15, 16] _ _ rfl (by kernel_rfl) ?_ rfl rfl rfl (fun K w' hk => ?_) ?_; rotate_left; (first | rfl | (simp [Region.wanted, yielded, *]; done)); focus (go_step; exact hk)) | (refine Ord.St.skip 9 [8, 10, 11, 12, 13, 14, 15, 16] _ rfl (by kernel_rfl) ?_ (fun K hK => ?_); (first | rfl | (simp [Region.wanted, yielded, *]; done)); go_simp; refine hK _ ?_; clear hK K)
  refine Ord.St.ho2 (T' := ?_) 10 [8, 11, 12, 13, 14, 15, 16] _ _ rfl (by kernel_rfl) (by first | rfl | simp [Region.wanted, yielded, *]) rfl rfl rfl ?_ (fun K w' hw' hk => ?_) ?_
  rotate_left
  · trivial
  · have z0 := (BB3.out.ch hw' (by simp)).cell (i := 0) rfl; have z1 := (BB3.out.ch hw' (by simp)).cell (i := 1) rfl; go_step; exact hk
  first | (refine Ord.St.fl2 (T' := ?_) 11 [8, 12, 13, 14, 15, 16] _ _ rfl (by kernel_rfl) ?_ rfl rfl rfl (fun K w' hk => ?_) ?_; rotate_left; (first | rfl | (simp [Region.wanted, yielded, *]; done)); focus (go_step; exact hk)) | (refine Ord.St.skip 11 [8, 12, 13, 14, 15, 16] _ rfl (by kernel_rfl) ?_ (fun K hK => ?_); (first | rfl | (simp [Region.wanted, yielded, *]; done)); go_simp; refine hK _ ?_; clear hK K)
  refine Ord.St.ho2 (T' := ?_) 12 [8, 13, 14, 15, 16] _ _ rfl (by kernel_rfl) (by first | rfl | simp [Region.wanted, yielded, *]) rfl rfl rfl ?_ (fun K w' hw' hk => ?_) ?_
  rotate_left
  · trivial
  · have z0 := (BB3.out.ch hw' (by simp)).cell (i := 0) rfl; have z1 := (BB3.out.ch hw' (by simp)).cell (i := 1) rfl; go_step; exact hk
  first | (refine Ord.St.fl2 (T' := ?_) 13 [8, 14, 15, 16] _ _ rfl (by kernel_rfl) ?_ rfl rfl rfl (fun K w' hk => ?_) ?_; rotate_left; (first | rfl | (simp [Region.wanted, yielded, *]; done)); focus (go_step; exact hk)) | (refine Ord.St.skip 13 [8, 14, 15, 16] _ rfl (by kernel_rfl) ?_ (fun K hK => ?_); (first | rfl | (simp [Region.wanted, yielded, *]; done)); go_simp; refine hK _ ?_; clear hK K)
  first | (refine Ord.St.fl2 (T' := ?_) 14 [8, 15, 16] _ _ rfl (by kernel_rfl) ?_ rfl rfl rfl (fun K w' hk => ?_) ?_; rotate_left; (first | rfl | (simp [Region.wanted, yielded, *]; done)); focus (go_step; exact hk)) | (refine Ord.St.skip 14 [8, 15, 16] _ rfl (by kernel_rfl) ?_ (fun K hK => ?_); (first | rfl | (simp [Region.wanted, yielded, *]; done)); go_simp; refine hK _ ?_; clear hK K)
  refine Ord.St.efC 8 [15, 16] _ rfl (by kernel_rfl) (fun K hK => ?_)
  go_wp2_with fail
  refine HROOM.out.mono ?_
  rintro e w2 ⟨rfl, hc2⟩
  have hcur : Ch [] W0 w2 := (Ch.refl [] W0).drew.trans hc2 (by simp)
  have b3 := BB3.out.ch hcur (by simp)
  have x0 := b3.cell (i := 0) rfl
  have x1 := b3.cell (i := 1) rfl
  clear hcurd b3 y0 y1 hc2 HROOM HLEN
  go_wp2_with fail
  refine ⟨rfl, hK _ _ ?_ ?_⟩
  · exact hcur
  clear hK K
  first | (refine Ord.St.fl2 (T' := ?_) 15 [16] _ _ rfl (by kernel_rfl) ?_ rfl rfl rfl (fun K w' hk => ?_) ?_; rotate_left; (first | rfl | (simp [Region.wanted, yielded, *]; done)); focus (go_step; exact hk)) | (refine Ord.St.skip 15 [16] _ rfl (by kernel_rfl) ?_ (fun K hK => ?_); (first | rfl | (simp [Region.wanted, yielded, *]; done)); go_simp; refine hK _ ?_; clear hK K)
  refine Ord.St.fl2 (T' := ?_) 16 [] _ _ rfl (by kernel_rfl) rfl rfl rfl rfl (fun K w' hk => ?_) ?_
  rotate_left
  · go_step; exact hk
  refine Ord.St.nil ?_
  go_wp2_with fail
  have HC2 := Lib.hid hcur; clear hcur x0 x1
  go_loopw [30] (fun i wr => ∃ k : Nat, k ≤ G.nodes.length ∧ i = .int .i64 k ∧ Ch [] w wr) (fun i _ => G.nodes.length - (intOf i).toNat)
  case atStart => exact ⟨0, by omega, rfl, HC0.out.trans HC2.out (by simp)⟩
  case round =>
    obtain ⟨k, hk, rfl, hc⟩ := hrel
    by_cases hlt : k < G.nodes.length
    · obtain ⟨x, hx⟩ : ∃ x, G.nodes[k]? = some x := ⟨_, List.getElem?_eq_getElem hlt⟩
      obtain ⟨t1, t2, t3, t4⟩ := HTL.out k x hx
      have hrr := HR.out.ch hc (by simp)
      obtain ⟨d0, d1, d2⟩ := hrr.node hx
      have hcA : Ch [] w (wr.alloc (.cells #[.int .i64 x.k, .int .i64 x.l, .int .i64 x.r] 247)) := hc.alloc _
      have hg1 := H.out.same hcA (by simp)
      have hS := Sides_g hg1 ((2 * k : Nat) : Int) (by omega)
      rw [t2, t3, show ((2 * k : Nat) : Int) = 2 * (k : Int) by omega] at hS
      generalize isAndAt G.nodes (2 * (k : Int)) = ia at hS
      have hK := fun (W : World) (hW : Ch [] w W) => Kind_g (H.out.same hW (by simp)) ((2 * k : Nat) : Int) (by omega)
      rw [t1, show ((2 * k : Nat) : Int) = 2 * (k : Int) by omega] at hK
      have HS := Lib.hid hS; clear hS
      have HK := Lib.hid hK; clear hK
      have HCA := Lib.hid hcA; clear hcA hc hg1 hrr t1 t2 t3 hx
      go_wp2_with fail
      refine HS.out.mono ?_
      rintro e w3 ⟨rfl, hc3⟩
      have b6 : blk w3 wr.heap.size [.int .i64 x.k, .int .i64 x.l, .int .i64 x.r] := (blk.new' (w := wr) [.int .i64 x.k, .int .i64 x.l, .int .i64 x.r] 247 (by simp)).ch hc3 (by simp)
      have hc13 := HCA.out.trans hc3 (by simp)
      have HKK := Lib.hid (HK.out _ hc13.drew)
      have z0 := b6.cell (i := 0) rfl
      have z1 := b6.cell (i := 1) rfl
      have z2 := b6.cell (i := 2) rfl
      have HC13 := Lib.hid hc13; clear hc13 hc3 b6 HS HK d0 d1 d2
      go_wp2_with fail
      refine Ord.St.door (fun _ => True) [.fl, .fl, .fl, .rd, .fl, .fl, .rd, .fl, .fl, .fl, .fl, .rd, .fl, .fl, .fl, .fl, .fl, .rd, .fl, .fl] [0, 0, 2, 7, 15, 0, 32, 127, 255, 511, 511, 1535, 4095, 8191, 16383, 32767, 32767, 98303, 262143, 524287] [0, 1, 2, 3, 4, 5, 6, 7, 8, 9, 10, 11, 12, 13, 14, 15, 16, 17, 18, 19] mixed (by kernel_rfl) rfl ?_
      refine Ord.St.fl2 (T' := ?_) 0 [1, 2, 3, 4, 5, 6, 7, 8, 9, 10, 11, 12, 13, 14, 15, 16, 17, 18, 19] _ _ rfl (by kernel_rfl) rfl rfl rfl rfl (fun K w' hk => ?_) ?_
      rotate_left
      · go_step; exact hk
      refine Ord.St.fl2 (T' := ?_) 1 [2, 3, 4, 5, 6, 7, 8, 9, 10, 11, 12, 13, 14, 15, 16, 17, 18, 19] _ _ rfl (by kernel_rfl) rfl rfl rfl rfl (fun K w' hk => ?_) ?_
      rotate_left
      · go_step; exact hk
      refine Ord.St.fl2 (T' := ?_) 2 [3, 4, 5, 6, 7, 8, 9, 10, 11, 12, 13, 14, 15, 16, 17, 18, 19] _ _ rfl (by kernel_rfl) rfl rfl rfl rfl (fun K w' hk => ?_) ?_
      rotate_left
      · go_step; exact hk
      refine Ord.St.rd2 (T' := ?_) 3 [4, 5, 6, 7, 8, 9, 10, 11, 12, 13, 14, 15, 16, 17, 18, 19] _ _ rfl (by kernel_rfl) rfl rfl rfl rfl (fun K hk => ?_) ?_
      rotate_left
      · go_step; refine HKK.out.mono ?_; rintro e w'' ⟨rfl, rfl⟩; exact hk
      refine Ord.St.fl2 (T' := ?_) 4 [5, 6, 7, 8, 9, 10, 11, 12, 13, 14, 15, 16, 17, 18, 19] _ _ rfl (by kernel_rfl) rfl rfl rfl rfl (fun K w' hk => ?_) ?_
      rotate_left
      · go_step; exact hk
      refine Ord.St.fl2 (T' := ?_) 5 [6, 7, 8, 9, 10, 11, 12, 13, 14, 15, 16, 17, 18, 19] _ _ rfl (by kernel_rfl) rfl rfl rfl rfl (fun K w' hk => ?_) ?_
      rotate_left
      · go_step; exact hk
      refine Ord.St.rd2 (T' := ?_) 6 [7, 8, 9, 10, 11, 12, 13, 14, 15, 16, 17, 18, 19] _ _ rfl (by kernel_rfl) rfl rfl rfl rfl (fun K hk => ?_) ?_
      rotate_left
      · go_step; exact hk
      refine Ord.St.fl2 (T' := ?_) 7 [8, 9, 10, 11, 12, 13, 14, 15, 16, 17, 18, 19] _ _ rfl (by kernel_rfl) rfl rfl rfl rfl (fun K w' hk => ?_) ?_
      rotate_left
      · go_step; exact hk
      refine Ord.St.fl2 (T' := ?_) 8 [9, 10, 11, 12, 13, 14, 15, 16, 17, 18, 19] _ _ rfl (by kernel_rfl) rfl rfl rfl rfl (fun K w' hk => ?_) ?_
      rotate_left
      · go_step; exact hk
      first | (refine Ord.St.fl2 (T' := ?_) 9 [10, 11, 12, 13, 14, 15, 16, 17, 18, 19] _ _ rfl (by kernel_rfl) ?_ rfl rfl rfl (fun K w' hk => ?_) ?_; rotate_left; (first | rfl | (simp [Region.wanted, yielded, *]; done)); focus (go_step; exact hk)) | (refine Ord.St.skip 9 [10, 11, 12, 13, 14, 15, 16, 17, 18, 19] _ rfl (by kernel_rfl) ?_ (fun K hK => ?_); (first | rfl | (simp [Region.wanted, yielded, *]; done)); go_simp; refine hK _ ?_; clear hK K)
      first | (refine Ord.St.fl2 (T' := ?_) 10 [11, 12, 13, 14, 15, 16, 17, 18, 19] _ _ rfl (by kernel_rfl) ?_ rfl rfl rfl (fun K w' hk => ?_) ?_; rotate_left; (first | rfl | (simp [Region.wanted, yielded, *]; done)); focus (go_step; exact hk)) | (refine Ord.St.skip 10 [11, 12, 13, 14, 15, 16, 17, 18, 19] _ rfl (by kernel_rfl) ?_ (fun K hK => ?_); (first | rfl | (simp [Region.wanted, yielded, *]; done)); go_simp; refine hK _ ?_; clear hK K)
      first | (refine Ord.St.rd2 (T' := ?_) 11 [12, 13, 14, 15, 16, 17, 18, 19] _ _ rfl (by kernel_rfl) ?_ rfl rfl rfl (fun K hk => ?_) ?_; rotate_left; (first | rfl | (simp [Region.wanted, yielded, *]; done)); focus (go_step; exact hk)) | (refine Ord.St.skipr 11 [12, 13, 14, 15, 16, 17, 18, 19] _ rfl (by kernel_rfl) ?_ (fun K hK => ?_); (first | rfl | (simp [Region.wanted, yielded, *]; done)); go_simp; refine hK _ ?_; clear hK K)
      first | (refine Ord.St.fl2 (T' := ?_) 12 [13, 14, 15, 16, 17, 18, 19] _ _ rfl (by kernel_rfl) ?_ rfl rfl rfl (fun K w' hk => ?_) ?_; rotate_left; (first | rfl | (simp [Region.wanted, yielded, *]; done)); focus (go_step; exact hk)) | (refine Ord.St.skip 12 [13, 14, 15, 16, 17, 18, 19] _ rfl (by kernel_rfl) ?_ (fun K hK => ?_); (first | rfl | (simp [Region.wanted, yielded, *]; done)); go_simp; refine hK _ ?_; clear hK K)
      refine Ord.St.fl2 (T' := ?_) 13 [14, 15, 16, 17, 18, 19] _ _ rfl (by kernel_rfl) rfl rfl rfl rfl (fun K w' hk => ?_) ?_
      rotate_left
      · go_step; exact hk
      refine Ord.St.fl2 (T' := ?_) 14 [15, 16, 17, 18, 19] _ _ rfl (by kernel_rfl) rfl rfl rfl rfl (fun K w' hk => ?_) ?_
      rotate_left
      · go_step; exact hk
      first | (refine Ord.St.fl2 (T' := ?_) 15 [16, 17, 18, 19] _ _ rfl (by kernel_rfl) ?_ rfl rfl rfl (fun K w' hk => ?_) ?_; rotate_left; (first | rfl | (simp [Region.wanted, yielded, *]; done)); focus (go_step; exact hk)) | (refine Ord.St.skip 15 [16, 17, 18, 19] _ rfl (by kernel_rfl) ?_ (fun K hK => ?_); (first | rfl | (simp [Region.wanted, yielded, *]; done)); go_simp; refine hK _ ?_; clear hK K)
      first | (refine Ord.St.fl2 (T' := ?_) 16 [17, 18, 19] _ _ rfl (by kernel_rfl) ?_ rfl rfl rfl (fun K w' hk => ?_) ?_; rotate_left; (first | rfl | (simp [Region.wanted, yielded, *]; done)); focus (go_step; exact hk)) | (refine Ord.St.skip 16 [17, 18, 19] _ rfl (by kernel_rfl) ?_ (fun K hK => ?_); (first | rfl | (simp [Region.wanted, yielded, *]; done)); go_simp; refine hK _ ?_; clear hK K)
      first | (refine Ord.St.rd2 (T' := ?_) 17 [18, 19] _ _ rfl (by kernel_rfl) ?_ rfl rfl rfl (fun K hk => ?_) ?_; rotate_left; (first | rfl | (simp [Region.wanted, yielded, *]; done)); focus (go_step; exact hk)) | (refine Ord.St.skipr 17 [18, 19] _ rfl (by kernel_rfl) ?_ (fun K hK => ?_); (first | rfl | (simp [Region.wanted, yielded, *]; done)); go_simp; refine hK _ ?_; clear hK K)
      first | (refine Ord.St.fl2 (T' := ?_) 18 [19] _ _ rfl (by kernel_rfl) ?_ rfl rfl rfl (fun K w' hk => ?_) ?_; rotate_left; (first | rfl | (simp [Region.wanted, yielded, *]; done)); focus (go_step; exact hk)) | (refine Ord.St.skip 18 [19] _ rfl (by kernel_rfl) ?_ (fun K hK => ?_); (first | rfl | (simp [Region.wanted, yielded, *]; done)); go_simp; refine hK _ ?_; clear hK K)
      refine Ord.St.fl2 (T' := ?_) 19 [] _ _ rfl (by kernel_rfl) rfl rfl rfl rfl (fun K w' hk => ?_) ?_
      rotate_left
      · go_step; exact hk
      refine Ord.St.nil ?_
      go_wp2_with fail
      go_roundw
      case rel => exact ⟨k + 1, by omega, by go_num, HC13.out.drew⟩
      case measure => simp [intOf]; omega
    · have HC := Lib.hid hc; clear hc
      go_wp2_with fail
      go_ret
      exact ⟨rfl, HC.out⟩
end
end Go.Proofs.YtehljgigebhddaaGreat
namespace Go.Proofs.YtehljgigebhddaaGreat
open Go.RowKit Go.Mem Go.Aig
/-- a graph, and the same one of the reference, apart from each other, made since a world -/
structure Both (w0 w : World) (g rb cap : Nat) (G : Gra) (F : List Nat) : Prop where
  gin : GIn w g G F
  rg : RG w rb cap G
  ap : rb ∉ F
  own : ∀ k ∈ F, w0.heap.size ≤ k
  rlo : w0.heap.size ≤ rb
  ch : Ch [] w0 w
theorem Both.same {w0 w w' : World} {g rb cap : Nat} {G : Gra} {F : List Nat} (h : Both w0 w g rb cap G F) (hc : Ch [] w w') : Both w0 w' g rb cap G F :=
  ⟨h.gin.same hc (by simp), h.rg.ch hc (by simp), h.ap, h.own, h.rlo, h.ch.trans hc (by simp)⟩
/-- both graphs are changed in the same way -/
theorem Both.next {w0 w w1 w2 : World} {g rb cap : Nat} {G G' : Gra} {F F' : List Nat} (h : Both w0 w g rb cap G F) (hg : GIn w1 g G' F') (hc1 : Ch F w w1) (hF : ∀ k ∈ F', k ∈ F ∨ w.heap.size ≤ k) {rb' cap' : Nat} (hr : RG w2 rb' cap' G') (hc2 : Ch [] w1 w2) (hb : rb' = rb ∨ w1.heap.size ≤ rb') : Both w0 w2 g rb' cap' G' F' := by
  have hrl := h.rg.lt
  have hz := hc1.size
  refine ⟨hg.same hc2 (by simp), hr, fun hin => ?_, fun k hk => (hF k hk).elim (h.own k) (fun e => Nat.le_trans h.ch.size e), ?_, (h.ch.trans hc1 (fun k hk => .inr (h.own k hk))).trans hc2 (by simp)⟩
  · have hlt := hg.lt _ hin
    rcases hb with rfl | e
    · rcases hF _ hin with e | e
      · exact h.ap e
      · omega
    · omega
  · rcases hb with rfl | e
    · exact h.rlo
    · have := h.ch.size; omega
theorem Both.set {w0 w w' : World} {g rb cap b : Nat} {G : Gra} {F : List Nat} (h : Both w0 w g rb cap G F) (hc : Ch [b] w w') (hb : b ∉ F) (hr : rb ≠ b) (hlo : w0.heap.size ≤ b) : Both w0 w' g rb cap G F :=
  ⟨h.gin.same hc (fun k hk hk2 => hb (by rw [List.mem_singleton.1 hk2] at hk; exact hk)), h.rg.ch hc (by simpa using hr), h.ap, h.own, h.rlo, h.ch.trans hc (fun k hk => .inr (by rw [List.mem_singleton.1 hk]; exact hlo))⟩
section
set_option maxRecDepth 100000 in
set_option maxHeartbeats 4000000 in
theorem Begin23_no (w : World) (M : Int) (N : Nat) (hM : M < 1 ∨ 65536 < M) : Calls Tryz.prog 73 #[.agg #[.int .i64 M, .int .u8 N]] w fun e w' => e = .returned (.tuple #[.pointer none, .agg #[.int .i64 0, .slice none 0 0]]) ∧ Ch [] w w' := by
  have hN := fun W => New_no (w := W) M hM
  have hR := fun W => rNew_no W M hM
  clear hM
  go_enter Tryz.func73, Tryz.ntmps73
  go_wp2_with fail
  refine (hN _).mono ?_
  rintro e w' ⟨rfl, rfl⟩
  go_wp2_with fail
  refine calls_named fun W hW => ?_
  have b1 : blk W w.heap.size [.int .i64 M, .int .u8 N] := by rw [hW]; exact (blk.new' _ _ (by simp)).alloc _
  have b3 : blk W (w.heap.size + 1) [.int .i64 0, .slice none 0 0] := by rw [hW]; exact blk.new' _ _ (by simp)
  have hc : Ch [] w W := by rw [hW]; exact ((Ch.refl _ _).alloc _).alloc _
  clear hW
  refine (hR W).mono ?_
  rintro e w1 ⟨rfl, hc1⟩
  have b3 := b3.ch hc1 (by simp)
  have z0 := b3.cell (i := 0) rfl
  have z1 := b3.cell (i := 1) rfl
  have f0 := b3.frozen (i := 0)
  have f1 := b3.frozen (i := 1)
  have hz1 := b3.lt
  have HC := Lib.hid (hc.trans hc1 (by simp)); clear hc hc1 b3 b1
  go_wp2_with fail
  refine bodyPost_ret (v := .tuple #[.pointer none, .agg #[.int .i64 0, .slice none 0 0]]) (by simp [results, Tryz.results73, go_sem, z0, z1, hz1]) rfl ?_
  refine ⟨rfl, ?_⟩
  refine Ch.trans HC.out (F' := [w.heap.size + 1]) ?_ (fun k hk => .inr (by simp at hk; omega))
  repeat (first | exact Ch.refl _ _ | refine Ch.alloc ?_ _ | refine Ch.setCell ?_ (.inl (by simp)) _)
set_option maxRecDepth 100000 in
set_option maxHeartbeats 8000000 in
theorem Begin23_yes (w : World) (M N : Nat) (h1 : 1 ≤ M) (h2 : M ≤ 65536) (_hN : N ≤ 255) : Calls Tryz.prog 73 #[.agg #[.int .i64 M, .int .u8 N]] w fun e w' => ∃ g F rb cap G, e = .returned (.tuple #[.pointer (some ⟨g, 0, none⟩), .agg #[.int .i64 G.most, .slice (some ⟨rb, 0, none⟩) G.nodes.length cap]]) ∧ Both w w' g rb cap G F := by
  have hN := fun W => New_yes (w := W) M h1 h2
  have hR := fun W => rNew_yes W M h1 h2
  obtain ⟨n, hn, hn40⟩ : ∃ n, N % 40 = n ∧ n < 40 := ⟨_, rfl, by omega⟩
  have hni : (N : Int) % 40 = n := by omega
  clear hn
  have HN := Lib.hid hN; clear hN
  have HR := Lib.hid hR; clear hR
  go_enter Tryz.func73, Tryz.ntmps73
  go_wp2_with fail
  refine calls_named fun W hW => ?_
  have b1 : blk W w.heap.size [.int .i64 M, .int .u8 N] := by rw [hW]; exact (blk.new' _ _ (by simp)).alloc _
  have b3 : blk W (w.heap.size + 1) [.int .i64 0, .slice none 0 0] := by rw [hW]; exact blk.new' _ _ (by simp)
  have hc : Ch [] w W := by rw [hW]; exact ((Ch.refl _ _).alloc _).alloc _
  have hz : W.heap.size = w.heap.size + 2 := by rw [hW]; simp
  clear hW
  refine (HN.out W).mono ?_
  rintro e w1 ⟨g, F1, rfl, hg1, hF1, hc1⟩
  have b1 := b1.ch hc1 (by simp)
  have b3 := b3.ch hc1 (by simp)
  have hc := hc.trans hc1 (by simp)
  have x0 := b1.cell (i := 0) rfl
  have x1 := b1.cell (i := 1) rfl
  have hF2 : ∀ k ∈ F1, w.heap.size + 2 ≤ k ∧ k < w1.heap.size := fun k hk => ⟨by have := hF1 k hk; omega, hg1.lt k hk⟩
  have HF2 := Lib.hid hF2; clear hF2 hF1 hc1
  have HC := Lib.hid hc; clear hc
  have HG1 := Lib.hid hg1; clear hg1
  have B1 := Lib.hid b1; clear b1
  have B3 := Lib.hid b3; clear b3
  go_wp2_with fail
  refine (HR.out _).mono ?_
  rintro e w2 ⟨rb, cap, rfl, hrg, hc2, hlo⟩
  have hz2 := hc2.size
  have hz3 := B3.out.lt
  have hbt : Both w w2 g rb cap (newG M) F1 := ⟨HG1.out.same hc2 (by simp), hrg, fun hin => by have := HF2.out _ hin; omega, fun k hk => by have := HF2.out k hk; omega, by omega, HC.out.trans hc2 (by simp)⟩
  have b1 := B1.out.ch hc2 (by simp)
  have b3 := B3.out.ch hc2 (by simp)
  generalize newG M = G0 at *
  have HBT := Lib.hid hbt; clear hbt hrg hc2 HC HG1 x0 x1
  clear B1 B3
  have B1 := Lib.hid b1; clear b1
  have B3 := Lib.hid b3; clear b3
  go_upto_region 3 with fail
  refine wp_alw ?_
  intro W3 hW3
  have hb6 := alw_blk (xs := [.int .i64 G0.most, .slice (some ⟨rb, 0, none⟩) G0.nodes.length cap]) hW3
  have hc3 := alw_ch hW3
  have hbt := HBT.out.same hc3
  have b1 := B1.out.ch hc3 (by simp)
  have b3 := B3.out.ch hc3 (by simp)
  have hrb6 : rb ≠ w2.heap.size := rg_ne HBT.out.rg
  have hlo2 : w.heap.size + 2 ≤ rb := by omega
  have h6F : w2.heap.size ∉ F1 := fun hin => by have := HF2.out _ hin; omega
  have h3F : w.heap.size + 1 ∉ F1 := fun hin => by have := HF2.out _ hin; omega
  have h6lo : w.heap.size + 2 ≤ w2.heap.size := by omega
  clear hW3 hc3 HBT B1 B3 hlo
  generalize w2.heap.size = b6 at *
  have x0 := b1.cell (i := 0) rfl
  have x1 := b1.cell (i := 1) rfl
  have HBT := Lib.hid hbt; clear hbt
  have B6 := Lib.hid hb6; clear hb6
  have B3 := Lib.hid b3; clear b3 b1
  go_wp2_with fail
  clear hni
  go_loopw [39] (fun i wr => ∃ (k : Nat) (G : Gra) (F : List Nat) (rb cap : Nat), k ≤ n ∧ i = .int .i64 k ∧ Both w wr g rb cap G F ∧ b6 ∉ F ∧ w.heap.size + 1 ∉ F ∧ rb ≠ b6 ∧ w.heap.size + 2 ≤ rb ∧ blk wr b6 [.int .i64 G.most, .slice (some ⟨rb, 0, none⟩) G.nodes.length cap] ∧ blk wr (w.heap.size + 1) [.int .i64 0, .slice none 0 0]) (fun i _ => n - (intOf i).toNat)
  case atStart => exact ⟨0, G0, F1, rb, cap, by omega, rfl, HBT.out, h6F, h3F, hrb6, hlo2, B6.out, B3.out⟩
  case round =>
    clear HBT B6 B3 h6F h3F hrb6 hlo2 x0 x1 HN HR
    obtain ⟨k, G, F, rb, cap, hk, rfl, hbt, h6F, h3F, hrb6, hlo2, b6c, b3⟩ := hrel
    have hwr6 := b6c.lt
    by_cases hlt : k < n
    · have hI := Input_g hbt.gin
      have HI := Lib.hid hI; clear hI
      have HBT := Lib.hid hbt; clear hbt
      have B6 := Lib.hid b6c; clear b6c
      have B3 := Lib.hid b3; clear b3
      go_wp2_with fail
      refine HI.out.mono ?_
      rintro e w4 ⟨rfl, F', hg4, hc4, hF4, _⟩
      have hp := rPut_is (HBT.out.rg.ch hc4 HBT.out.ap) ⟨2, 0, 0, 0⟩ (fun hm => by
        have hok := hg4.ok
        unfold doInput put at hok
        rw [if_neg (by omega)] at hok
        exact hok)
      have b6c := B6.out.ch hc4 h6F
      have b3 := B3.out.ch hc4 h3F
      have y0 := b6c.cell (i := 0) rfl
      have y1 := b6c.cell (i := 1) rfl
      have h6F' : b6 ∉ F' := fun hin => by rcases hF4 _ hin with e | e; exact h6F e; omega
      have h3F' : w.heap.size + 1 ∉ F' := fun hin => by rcases hF4 _ hin with e | e; exact h3F e; have := B3.out.lt; omega
      have hz4 := b6c.lt
      have HP := Lib.hid hp; clear hp
      have HG4 := Lib.hid hg4; clear hg4
      have HC4 := Lib.hid hc4; clear hc4
      have HF4 := Lib.hid hF4; clear hF4
      have BB6 := Lib.hid b6c; clear b6c
      have BB3 := Lib.hid b3; clear b3
      go_wp2_with fail
      refine HP.out.mono ?_
      rintro e w5 ⟨rb', cap', rfl, hrg5, hc5, hfr⟩
      have hbt5 := HBT.out.next (G' := (put G ⟨2, 0, 0, 0⟩).1) HG4.out HC4.out HF4.out hrg5 hc5 hfr
      have hrb' : rb' ≠ b6 := by rcases hfr with e | e <;> omega
      have hlo' : w.heap.size + 2 ≤ rb' := by rcases hfr with e | e <;> omega
      generalize (put G ⟨2, 0, 0, 0⟩).1 = G1 at *
      have b6c := BB6.out.ch hc5 (by simp)
      have b3 := BB3.out.ch hc5 (by simp)
      have f0 := b6c.frozen (i := 0)
      have f1 := b6c.frozen (i := 1)
      have y0 := b6c.cell (i := 0) rfl
      have y1 := b6c.cell (i := 1) rfl
      have HBT5 := Lib.hid hbt5; clear hbt5
      have BC6 := Lib.hid b6c; clear b6c
      have BC3 := Lib.hid b3; clear b3
      clear HP HG4 HC4 HF4 BB6 BB3 hrg5 hc5 hfr HI
      go_wp2_with fail
      go_roundw
      case rel =>
        have hcs := set2_ch (w := w5) (b := b6) (u := .int .i64 G1.most) (v := .slice (some ⟨rb', 0, none⟩) G1.nodes.length cap') rfl
        exact ⟨k + 1, G1, F', rb', cap', by omega, by go_num, HBT5.out.set hcs h6F' hrb' (by omega), h6F', h3F', hrb', hlo', (BC6.out.set (i := 0) _).set (i := 1) _, BC3.out.ch hcs (by simp; omega)⟩
      case measure => simp [intOf]; omega
    · have HBT := Lib.hid hbt; clear hbt
      have B6 := Lib.hid b6c; clear b6c
      have B3 := Lib.hid b3; clear b3
      go_wp2_with fail
      go_loopw [9] (fun i wr => ∃ (k : Nat) (G : Gra) (F : List Nat) (rb cap : Nat), 1 ≤ k ∧ k ≤ n + 1 ∧ i = .int .i64 k ∧ Both w wr g rb cap G F ∧ b6 ∉ F ∧ w.heap.size + 1 ∉ F ∧ rb ≠ b6 ∧ w.heap.size + 2 ≤ rb ∧ blk wr b6 [.int .i64 G.most, .slice (some ⟨rb, 0, none⟩) G.nodes.length cap] ∧ blk wr (w.heap.size + 1) [.int .i64 0, .slice none 0 0]) (fun i _ => n - (intOf i).toNat)
      case atStart => exact ⟨1, G, F, rb, cap, by omega, by omega, rfl, HBT.out, h6F, h3F, hrb6, hlo2, B6.out, B3.out⟩
      case round =>
        clear HBT B6 B3 h6F h3F hrb6 hlo2 hwr6
        obtain ⟨k, G, F, rb, cap, hk1, hk, rfl, hbt, h6F, h3F, hrb6, hlo2, b6c, b3⟩ := hrel
        have hwr6 := b6c.lt
        have y0 := b6c.cell (i := 0) rfl
        have y1 := b6c.cell (i := 1) rfl
        by_cases hlt : k < n
        · have hRt := rRight_is hbt.rg (2 * (k : Int) + 2)
          have hrt : right G.nodes (2 * (k : Int) + 2) = true → 2 * k + 3 < 2 * G.nodes.length := fun e => by
            unfold right at e
            have := of_decide_eq_true e
            omega
          cases hq : right G.nodes (2 * (k : Int) + 2)
          · rw [hq] at hRt
            have HRT := Lib.hid hRt; clear hRt hrt hq
            have HBT := Lib.hid hbt; clear hbt
            have B6 := Lib.hid b6c; clear b6c
            have B3 := Lib.hid b3; clear b3
            go_wp2_with fail
            refine HRT.out.mono ?_
            rintro e w4 ⟨rfl, hc4⟩
            have HC4 := Lib.hid hc4; clear hc4 HRT
            go_wp2_with fail
            go_roundw
            case rel => exact ⟨k + 1, G, F, rb, cap, by omega, by omega, by go_num, HBT.out.same HC4.out, h6F, h3F, hrb6, hlo2, B6.out.ch HC4.out (by simp), B3.out.ch HC4.out (by simp)⟩
            case measure => simp [intOf]; omega
          · rw [hq] at hRt
            have hv := hrt hq
            have HRT := Lib.hid hRt; clear hRt hrt hq
            have HBT := Lib.hid hbt; clear hbt
            have B6 := Lib.hid b6c; clear b6c
            have B3 := Lib.hid b3; clear b3
            have hA := fun (W : World) (hW : Ch [] wr W) => And_r (HBT.out.same hW).gin (a := 2 * k) (b := 2 * k + 3) (by omega) hv
            have hB := fun (W : World) (F9 : List Nat) (hW : Ch F9 wr W) (hF : rb ∉ F9) => rAnd_is (HBT.out.rg.ch hW hF) (a := 2 * k) (b := 2 * k + 3) (by omega) hv
            rw [show ((2 * k : Nat) : Int) = 2 * (k : Int) by omega, show ((2 * k + 3 : Nat) : Int) = 2 * (k : Int) + 3 by omega] at hA hB
            generalize and G (2 * k) (2 * k + 3) = X at hA hB
            have HA := Lib.hid hA; clear hA
            have HB := Lib.hid hB; clear hB
            go_wp2_with fail
            refine HRT.out.mono ?_
            rintro e w4 ⟨rfl, hc4⟩
            have hA := HA.out w4 hc4
            have HA4 := Lib.hid hA; clear hA HA
            have HC4 := Lib.hid hc4; clear hc4 HRT
            go_wp2_with fail
            refine HA4.out.mono ?_
            rintro e w5 ⟨rfl, F', hg5, hc5, hF5, _⟩
            have hB5 := HB.out w5 F (HC4.out.mono (by simp) |>.trans hc5 (fun k hk => .inl hk)) HBT.out.ap
            have hwb := HBT.out.same HC4.out
            have b6c := (B6.out.ch HC4.out (by simp)).ch hc5 h6F
            have b3 := (B3.out.ch HC4.out (by simp)).ch hc5 h3F
            have y0 := b6c.cell (i := 0) rfl
            have y1 := b6c.cell (i := 1) rfl
            have hz4 := HC4.out.size
            have h6F' : b6 ∉ F' := fun hin => by rcases hF5 _ hin with e | e; exact h6F e; omega
            have h3F' : w.heap.size + 1 ∉ F' := fun hin => by rcases hF5 _ hin with e | e; exact h3F e; have := B3.out.lt; omega
            have hz5 := b6c.lt
            have HB5 := Lib.hid hB5; clear hB5 HB
            have HWB := Lib.hid hwb; clear hwb
            have HG5 := Lib.hid hg5; clear hg5
            have HC5 := Lib.hid hc5; clear hc5
            have HF5 := Lib.hid hF5; clear hF5
            have BB6 := Lib.hid b6c; clear b6c
            have BB3 := Lib.hid b3; clear b3
            go_wp2_with fail
            refine HB5.out.mono ?_
            rintro e w6 ⟨rb', cap', rfl, hrg6, hc6, hfr⟩
            have hbt6 := HWB.out.next (G' := X.1) HG5.out HC5.out HF5.out hrg6 hc6 hfr
            have hrb' : rb' ≠ b6 := by rcases hfr with e | e <;> omega
            have hlo' : w.heap.size + 2 ≤ rb' := by rcases hfr with e | e <;> omega
            obtain ⟨G1, r1, e1⟩ := X
            simp only at hbt6 hrg6
            have b6c := BB6.out.ch hc6 (by simp)
            have b3 := BB3.out.ch hc6 (by simp)
            have f0 := b6c.frozen (i := 0)
            have f1 := b6c.frozen (i := 1)
            have y0 := b6c.cell (i := 0) rfl
            have y1 := b6c.cell (i := 1) rfl
            have HBT6 := Lib.hid hbt6; clear hbt6
            have BC6 := Lib.hid b6c; clear b6c
            have BC3 := Lib.hid b3; clear b3
            clear HB5 HG5 HC5 HF5 BB6 BB3 hrg6 hc6 hfr HA4 HWB
            go_wp2_with fail
            go_roundw
            case rel =>
              have hcs := set2_ch (w := w6) (b := b6) (u := .int .i64 G1.most) (v := .slice (some ⟨rb', 0, none⟩) G1.nodes.length cap') rfl
              exact ⟨k + 1, G1, F', rb', cap', by omega, by omega, by go_num, HBT6.out.set hcs h6F' hrb' (by omega), h6F', h3F', hrb', hlo', (BC6.out.set (i := 0) _).set (i := 1) _, BC3.out.ch hcs (by simp; omega)⟩
            case measure => simp [intOf]; omega
        · have HBT := Lib.hid hbt; clear hbt
          have z0 := b3.cell (i := 0) rfl
          have z1 := b3.cell (i := 1) rfl
          have g0 := b3.frozen (i := 0)
          have g1 := b3.frozen (i := 1)
          clear b6c b3
          go_wp2_with fail
          refine Ord.St.door (fun _ => True) [.fl, .rd, .fl, .ef] [0, 0, 1, 7] [0, 1, 2, 3] mixed (by kernel_rfl) rfl ?_
          refine Ord.St.fl2 (T' := ?_) 0 [1, 2, 3] _ _ rfl (by kernel_rfl) rfl rfl rfl rfl (fun K w' hk => ?_) ?_
          rotate_left
          · go_step; exact hk
          refine Ord.St.rd2 (T' := ?_) 1 [2, 3] _ _ rfl (by kernel_rfl) rfl rfl rfl rfl (fun K hk => ?_) ?_
          rotate_left
          · go_step; exact hk
          refine Ord.St.fl2 (T' := ?_) 2 [3] _ _ rfl (by kernel_rfl) rfl rfl rfl rfl (fun K w' hk => ?_) ?_
          rotate_left
          · go_step; exact hk
          refine Ord.St.ef 3 [] _ rfl (by kernel_rfl) (fun K hK => ?_)
          go_wp2_with fail
          refine ⟨rfl, hK _ _ ?_⟩; clear hK K
          refine Ord.St.nil ?_
          go_wp2_with fail
          have hcs : Ch [w.heap.size + 1] wr ((wr.setCell ⟨w.heap.size + 1, 0, none⟩ (.int .i64 G.most)).setCell ⟨w.heap.size + 1, 1, none⟩ (.slice (some ⟨rb, 0, none⟩) G.nodes.length cap)).drew := (((Ch.refl _ _).setCell (by simp) _).setCell (by simp) _).drew
          refine bodyPost_ret (v := .tuple #[.pointer (some ⟨g, 0, none⟩), .agg #[.int .i64 G.most, .slice (some ⟨rb, 0, none⟩) G.nodes.length cap]]) (by simp [results, Tryz.results73, go_sem, z0, z1]) rfl ?_
          exact ⟨g, F, rb, cap, G, rfl, HBT.out.set hcs h3F (by omega) (by omega)⟩
end
end Go.Proofs.YtehljgigebhddaaGreat
namespace Go.Proofs.YtehljgigebhddaaGreat
open Go.RowKit Go.Mem Go.Aig
theorem Sl.ch2 {F : List Nat} {w w' : World} {a : Option Addr} {xs : List Int} (h : Sl w a xs) (hc : Ch F w w') (hF : 0 < xs.length → ∀ p, a = some p → p.block ∉ F) : Sl w' a xs :=
  ⟨fun i x hx => by
    obtain ⟨b, o, rfl, hcell⟩ := h.cells i x hx
    have hlt := (List.getElem?_eq_some_iff.1 hx).1
    exact ⟨b, o, rfl, (hc.cell (p := ⟨b, o + i, none⟩) (cell_lt hcell) (hF (by omega) ⟨b, o, none⟩ rfl)).trans hcell⟩, h.bd⟩
end Go.Proofs.YtehljgigebhddaaGreat
namespace Go.Proofs.YtehljgigebhddaaGreat
open Go.RowKit Go.Mem Go.Aig
/-- blocks keep their length -/
def ShqB (w w' : World) : Prop := ∀ b ys, blk w b ys → ∃ ys', blk w' b ys' ∧ ys'.length = ys.length
theorem ShqB.refl (w : World) : ShqB w w := fun _ ys h => ⟨ys, h, rfl⟩
theorem ShqB.set {w w' : World} (h : ShqB w w') (b k : Nat) (v : Value) : ShqB w (w'.setCell ⟨b, k, none⟩ v) := fun c ys hc => by
  obtain ⟨zs, h1, h2⟩ := h c ys hc
  by_cases e : c = b
  · subst e; exact ⟨_, h1.set (i := k) v, by simpa using h2⟩
  · exact ⟨zs, h1.other e v, h2⟩
theorem ShqB.cell {w w' : World} {e : TypeId} {a : Option Addr} {n c k : Nat} {xs : List Value} (h : ShqB w w') (hr : row w e 1 (.slice a n c) n xs) (hk : k < n) : ∃ (b : Nat) (old : Value), a = some ⟨b, 0, none⟩ ∧ w'.cell? ⟨b, k, none⟩ = some old ∧ w'.frozen? ⟨b, k, none⟩ = false := by
  obtain ⟨b, ys, e1, hb, hl⟩ := rowBlk hr k hk
  obtain ⟨zs, h1, h2⟩ := h b ys hb
  exact ⟨b, _, e1, h1.cell (List.getElem?_eq_getElem (show k < zs.length by omega)), h1.frozen⟩
theorem natInts_len' (l : List Nat) : (natInts l).length = l.length := by simp [natInts]
/-- what an act leaves: both graphs, changed in the same way -/
def ATo (W w : World) (g rb : Nat) (F : List Nat) (e : Ending) (w' : World) : Prop := ∃ G' F' rb' cap', e = .returned (.tuple #[.agg #[.int .i64 G'.most, .slice (some ⟨rb', 0, none⟩) G'.nodes.length cap'], .bool true]) ∧ Both W w' g rb' cap' G' F' ∧ (∀ q ∈ F', q ∈ F ∨ w.heap.size ≤ q) ∧ (rb' = rb ∨ w.heap.size ≤ rb') ∧ Ch F w w'
theorem ATo.of {W w w' : World} {g rb cap : Nat} {G : Gra} {F : List Nat} (hb : Both W w g rb cap G F) {G' : Gra} {F' : List Nat} {rb' cap' : Nat} (hg : GIn w' g G' F') (hr : RG w' rb' cap' G') (hap : rb' ∉ F') (hfn : ∀ q ∈ F', q ∈ F ∨ w.heap.size ≤ q) (hfr : rb' = rb ∨ w.heap.size ≤ rb') (hc : Ch F w w') :
    ATo W w g rb F (.returned (.tuple #[.agg #[.int .i64 G'.most, .slice (some ⟨rb', 0, none⟩) G'.nodes.length cap'], .bool true])) w' := by
  have hz := hb.ch.size
  have hlo := hb.rlo
  refine ⟨G', F', rb', cap', rfl, ⟨hg, hr, hap, fun q hq => ?_, by omega, hb.ch.trans hc (fun q hq => .inr (hb.own q hq))⟩, hfn, hfr, hc⟩
  rcases hfn q hq with e | e
  · exact hb.own q e
  · omega
section
end
end Go.Proofs.YtehljgigebhddaaGreat
namespace Go.Proofs.YtehljgigebhddaaGreat
open Go.RowKit Go.Mem Go.Aig
section
set_option maxRecDepth 100000 in
set_option maxHeartbeats 8000000 in
theorem act24_is {W w : World} {g rb cap : Nat} {G : Gra} {F : List Nat} (hbt : Both W w g rb cap G F) (kind : Nat) {xa ya : Option Addr} {X Y : List Int} (xc yc : Nat) (N : Nat) (hN : N < 4294967296) (hsx : Sl w xa X) (hsy : Sl w ya Y)
    (hxb : ∀ z ∈ X, -9223372036854775808 ≤ z ∧ z ≤ 9223372036854775807) (hyb : ∀ z ∈ Y, -9223372036854775808 ≤ z ∧ z ≤ 9223372036854775807) (hxf : X.length ≤ 1000) (hyf : Y.length ≤ 1000)
    (hxo : 0 < X.length → ∀ p, xa = some p → p.block < W.heap.size) (hyo : 0 < Y.length → ∀ p, ya = some p → p.block < W.heap.size) :
    Calls Tryz.prog 108 #[.pointer (some ⟨g, 0, none⟩), .agg #[.int .i64 G.most, .slice (some ⟨rb, 0, none⟩) G.nodes.length cap], .agg #[.int .u8 kind, .slice xa X.length xc, .slice ya Y.length yc, .int .u32 N]] w (ATo W w g rb F) := by
  obtain ⟨K, hK⟩ : ∃ K, kind % 6 = K := ⟨_, rfl⟩
  have hK5 : K ≤ 5 := by omega
  have hKi : (kind : Int) % 6 = K := by omega
  have hFw : ∀ q ∈ F, q < w.heap.size := hbt.gin.lt
  have hWw := hbt.ch.size
  have hrbw := hbt.rg.lt
  have HSX := Lib.hid hsx; clear hsx
  have HSY := Lib.hid hsy; clear hsy
  have HXB := Lib.hid hxb; clear hxb
  have HYB := Lib.hid hyb; clear hyb
  have HBT0 := Lib.hid hbt
  have HBT := Lib.hid hbt; clear hbt
  have HXO := Lib.hid hxo; clear hxo
  have HYO := Lib.hid hyo; clear hyo
  have HFW := Lib.hid hFw; clear hFw
  have HKI := Lib.hid hKi; clear hKi
  go_enter Tryz.func108, Tryz.ntmps108
  go_upto_region 1 with fail
  refine wp_alw ?_
  intro W1 hW1
  have hb4 : blk W1 w.heap.size [.int .i64 G.most, .slice (some ⟨rb, 0, none⟩) G.nodes.length cap] := by rw [hW1]; exact ((blk.new' _ _ rfl).alloc _).alloc _
  have hb5 : blk W1 (w.heap.size + 1) [.int .u8 kind, .slice xa X.length xc, .slice ya Y.length yc, .int .u32 N] := by rw [hW1]; exact (blk.new' _ _ (by simp)).alloc _
  have hb6 : blk W1 (w.heap.size + 2) [.int .i64 0, .slice none 0 0] := by rw [hW1]; exact blk.new' _ _ (by simp)
  have hc01 : Ch [] w W1 := by rw [hW1]; exact (((Ch.refl _ _).alloc _).alloc _).alloc _
  clear hW1
  have hbt := HBT.out.same hc01
  have hsx := HSX.out.ch hc01 (by simp)
  have hsy := HSY.out.ch hc01 (by simp)
  clear HBT HSX HSY
  have y1 := hb5.cell (i := 1) rfl
  have hh0 : Hold (W : Base) W1.drew g G F [] := (Hold.start ⟨hbt.gin, hbt.own, hbt.ch⟩).same (Ch.refl [] W1).drew
  have hR1 := Refs23_is (w := W1.drew) X.length xc rfl (hsx.ch (Ch.refl [] W1).drew (by simp)) (by omega)
  have HR1 := Lib.hid hR1; clear hR1
  have HH0 := Lib.hid hh0; clear hh0
  have HSX := Lib.hid hsx; clear hsx
  have HSY := Lib.hid hsy; clear hsy
  have HBT := Lib.hid hbt; clear hbt
  have B4 := Lib.hid hb4; clear hb4
  have B5 := Lib.hid hb5; clear hb5
  have B6 := Lib.hid hb6; clear hb6
  have HC01 := Lib.hid hc01; clear hc01
  have hcur : Ch [] W1 W1.drew := (Ch.refl [] W1).drew
  refine Ord.St.door (fun w' => Ch [] W1 w') [.fl, .rd, .ef, .fl, .ho, .ef, .fl, .fl] [0, 1, 3, 0, 8, 31, 63, 127] [0, 1, 2, 3, 4, 5, 6, 7] mixed (by kernel_rfl) rfl ?_
  refine Ord.St.fl2 (T' := ?_) 0 [1, 2, 3, 4, 5, 6, 7] _ _ rfl (by kernel_rfl) rfl rfl rfl rfl (fun K w' hk => ?_) ?_
  rotate_left
  · go_step; exact hk
  refine Ord.St.rd2 (T' := ?_) 1 [2, 3, 4, 5, 6, 7] _ _ rfl (by kernel_rfl) rfl rfl rfl rfl (fun K hk => ?_) ?_
  rotate_left
  · go_step; exact hk
  refine Ord.St.fl2 (T' := ?_) 3 [2, 4, 5, 6, 7] _ _ rfl (by kernel_rfl) rfl rfl rfl rfl (fun K w' hk => ?_) ?_
  rotate_left
  · go_step; exact hk
  refine Ord.St.ho2 (T' := ?_) 4 [2, 5, 6, 7] _ _ rfl (by kernel_rfl) rfl rfl rfl rfl ?_ (fun K w' hw' hk => ?_) ?_
  rotate_left
  · trivial
  · have z2 := (B5.out.ch hw' (by simp)).cell (i := 2) rfl; go_step; exact hk
  refine Ord.St.efC 2 [5, 6, 7] _ rfl (by kernel_rfl) (fun K hK => ?_)
  go_wp2_with fail
  refine HR1.out.mono ?_
  rintro e w2 ⟨v, rfl, hro, hlo, hc2⟩
  have hcur : Ch [] W1 w2 := (Ch.refl [] W1).drew.trans hc2 (by simp)
  obtain ⟨pa, pc, rfl, hh⟩ := HH0.out.new (l := X) ⟨by rw [show (intCells X).length = X.length from by simp [intCells]]; exact hro, hlo, hc2⟩ HXB.out (by omega)
  have hplo : ∀ q, (Value.slice pa X.length pc).ownBlock = some q → W1.heap.size ≤ q := fun q hq => by have := hlo q (by simpa using hq); simpa using this
  have HPLO := Lib.hid hplo; clear hplo
  have hR2 := Refs23_is (w := w2) Y.length yc rfl (HSY.out.ch hcur (by simp)) (by omega)
  have HR2 := Lib.hid hR2; clear hR2
  have HH1 := Lib.hid hh; clear hh HH0 HR1 hro hlo hc2 y1
  go_wp2_with fail
  refine ⟨rfl, hK _ _ ?_ ?_⟩
  · exact hcur
  clear hK K
  refine Ord.St.ef 5 [6, 7] _ rfl (by kernel_rfl) (fun K hK => ?_)
  go_wp2_with fail
  refine HR2.out.mono ?_
  rintro e w3 ⟨v, rfl, hro, hlo, hc3⟩
  have hcur3 : Ch [] W1 w3 := hcur.trans hc3 (by simp)
  obtain ⟨qa, qc, rfl, hh⟩ := HH1.out.new (l := Y) ⟨by rw [show (intCells Y).length = Y.length from by simp [intCells]]; exact hro, hlo, hc3⟩ HYB.out (by omega)
  have hqlo : ∀ q, (Value.slice qa Y.length qc).ownBlock = some q → W1.heap.size ≤ q := fun q hq => by have := hlo q (by simpa using hq); have := hcur.size; omega
  have HQLO := Lib.hid hqlo; clear hqlo
  have HH := Lib.hid hh; clear hh HH1 HR2 hro hlo hc3 hcur
  go_wp2_with fail
  refine ⟨rfl, hK _ _ ?_⟩; clear hK K
  refine Ord.St.fl2 (T' := ?_) 6 [7] _ _ rfl (by kernel_rfl) rfl rfl rfl rfl (fun K w' hk => ?_) ?_
  rotate_left
  · go_step; exact hk
  refine Ord.St.fl2 (T' := ?_) 7 [] _ _ rfl (by kernel_rfl) rfl rfl rfl rfl (fun K w' hk => ?_) ?_
  rotate_left
  · go_step; exact hk
  refine Ord.St.nil ?_
  have hP := HH.out.at (a := pa) (c := pc) (n := X.length) (l := X) (by simp) rfl
  have hQ := HH.out.at (a := qa) (c := qc) (n := Y.length) (l := Y) (by simp) rfl
  have hhp := HH.out.held (.slice pa X.length pc, X) (by simp)
  have hhq := HH.out.held (.slice qa Y.length qc, Y) (by simp)
  have hpcap := (row_cap hhp.row).1
  have hPr := program24_is HH.out.own.gin hP hQ hpcap kind xa X.length xc ya Y.length yc N hN
  rw [hK] at hPr
  simp only [WV.val] at hPr
  have hlen := P24_len (k := K) HH.out.own.gin.ok (X := X) (Y := Y) (N := N)
  have hf := f24_small K G X Y
  have hPE : P24 K G X Y N = if f24 K G X Y ≠ 0 then (G, [], [], f24 K G X Y) else fin24 G (RF24 K G (nats X) (nats Y) N) := rfl
  have hRef := fun (w9 : World) (rb9 cap9 : Nat) (hr : RG w9 rb9 cap9 G) (hx9 : Sl w9 xa X) (hy9 : Sl w9 ya Y) (h0 : f24 K G X Y = 0) => reference24_is hr kind xa X.length xc ya Y.length yc N hN rfl rfl hx9 hy9 (by rw [hK]; exact h0)
  rw [hK] at hRef
  obtain ⟨⟨G1, l1, m1, e1⟩, hPeq⟩ : ∃ B, B = P24 K G X Y N := ⟨_, rfl⟩
  rw [← hPeq] at hPr hlen hPE
  obtain ⟨fv, hfv⟩ : ∃ fv, fv = f24 K G X Y := ⟨_, rfl⟩
  rw [← hfv] at hPE hf hRef
  simp only at hlen
  obtain ⟨hlen, hlenm⟩ := hlen
  clear hPeq hpcap
  have hrp := hhp.row
  have hrq := hhq.row
  have hpF : ∀ q, (Value.slice pa X.length pc).ownBlock = some q → q ∉ F := fun q hq => (hhp.own q hq).2
  have hqF : ∀ q, (Value.slice qa Y.length qc).ownBlock = some q → q ∉ F := fun q hq => (hhq.own q hq).2
  have hphi : ∀ q, (Value.slice pa X.length pc).ownBlock = some q → q < w3.heap.size := fun q hq => (hrp.lt q hq).2
  have hqhi : ∀ q, (Value.slice qa Y.length qc).ownBlock = some q → q < w3.heap.size := fun q hq => (hrq.lt q hq).2
  have hbt3 := HBT.out.same hcur3
  have hb4 := B4.out.ch hcur3 (by simp)
  have hb5 := B5.out.ch hcur3 (by simp)
  have hb6 := B6.out.ch hcur3 (by simp)
  have hsx := HSX.out.ch hcur3 (by simp)
  have hsy := HSY.out.ch hcur3 (by simp)
  have hc03 := HC01.out.trans hcur3 (by simp)
  have hz31 := hcur3.size
  have h61 := B6.out.lt
  clear B4 B5 B6 HBT HSX HSY HC01 HH hP hQ hhp hhq hcur3
  have x0 := hb5.cell (i := 0) rfl
  have x1 := hb5.cell (i := 1) rfl
  have x2 := hb5.cell (i := 2) rfl
  have x3 := hb5.cell (i := 3) rfl
  have B4 := Lib.hid hb4; clear hb4
  have B5 := Lib.hid hb5; clear hb5
  have B6 := Lib.hid hb6; clear hb6
  have HSX := Lib.hid hsx; clear hsx
  have HSY := Lib.hid hsy; clear hsy
  have HBT := Lib.hid hbt3; clear hbt3
  have HC03 := Lib.hid hc03; clear hc03
  have HRP := Lib.hid hrp; clear hrp
  have HRQ := Lib.hid hrq; clear hrq
  have HPF := Lib.hid hpF; clear hpF
  have HQF := Lib.hid hqF; clear hqF
  have HPHI := Lib.hid hphi; clear hphi
  have HQHI := Lib.hid hqhi; clear hqhi
  have HPR := Lib.hid hPr; clear hPr
  have HPE := Lib.hid hPE; clear hPE
  have HFV := Lib.hid hfv; clear hfv
  have HREF := Lib.hid hRef; clear hRef
  have HLM := Lib.hid hlenm; clear hlenm
  have HKK := Lib.hid hK; clear hK
  go_wp2_with fail
  refine HPR.out.mono ?_
  rintro e w4 ⟨v, u, rfl, F', hg', hc', hF', hF2, hrv, hru, hov, hou⟩
  obtain ⟨va, vc, rfl⟩ := row.shape hrv
  obtain ⟨ua, uc, rfl⟩ := row.shape hru
  have hc' : Ch F w3 w4 := hc'
  simp only at hg' hrv hru hov hou
  have hFlo : ∀ q ∈ F, W.heap.size ≤ q := HBT.out.own
  have hrg := HBT.out.rg.ch hc' HBT.out.ap
  have hsx := HSX.out.ch2 hc' (fun h0 p hp hin => by have := HXO.out h0 p hp; have := hFlo _ hin; omega)
  have hsy := HSY.out.ch2 hc' (fun h0 p hp hin => by have := HYO.out h0 p hp; have := hFlo _ hin; omega)
  have hb4 := B4.out.ch hc' (fun hin => by have := HFW.out _ hin; omega)
  have hb5 := B5.out.ch hc' (fun hin => by have := HFW.out _ hin; omega)
  have hb6 := B6.out.ch hc' (fun hin => by have := HFW.out _ hin; omega)
  have hrp := HRP.out.ch hc' HPF.out
  have hrq := HRQ.out.ch hc' HQF.out
  have hz34 := hc'.size
  have hzw3 := HC03.out.size
  have hc04 : Ch F w w4 := (HC03.out.mono (by simp)).trans hc' (fun q hq => .inl hq)
  have hFn : ∀ q ∈ F', q ∈ F ∨ w3.heap.size ≤ q := hF'
  have hF4 : ∀ q ∈ F', q < w4.heap.size := hg'.lt
  have hap : rb ∉ F' := fun hin => by rcases hFn _ hin with e | e; exact HBT.out.ap e; omega
  have hvp : ∀ q, (Value.slice va l1.length vc).ownBlock = some q → w3.heap.size ≤ q ∧ q < w4.heap.size ∧ q ∉ F' := fun q hq => ⟨(hov q hq).1, (hrv.lt q hq).2, (hov q hq).2.1⟩
  have hup : ∀ q, (Value.slice ua m1.length uc).ownBlock = some q → w3.heap.size ≤ q ∧ q < w4.heap.size ∧ (Value.slice va l1.length vc).ownBlock ≠ some q := fun q hq => ⟨(hou q hq).1, (hru.lt q hq).2, fun e => (hov q e).2.2 hq⟩
  have hrlo := HBT.out.rlo
  clear x0 x1 x2 x3
  have x0 := hb5.cell (i := 0) rfl
  have x1 := hb5.cell (i := 1) rfl
  have x2 := hb5.cell (i := 2) rfl
  clear B4 B5 B6 HSX HSY HBT HRP HRQ HPF HQF HPR hov hou hF' hF2 hc' hFlo
  have HG := Lib.hid hg'; clear hg'
  have HRG := Lib.hid hrg; clear hrg
  have B4 := Lib.hid hb4; clear hb4
  have B5 := Lib.hid hb5; clear hb5
  have B6 := Lib.hid hb6; clear hb6
  have HSX := Lib.hid hsx; clear hsx
  have HSY := Lib.hid hsy; clear hsy
  have HRP := Lib.hid hrp; clear hrp
  have HRQ := Lib.hid hrq; clear hrq
  have HRV := Lib.hid hrv; clear hrv
  have HRU := Lib.hid hru; clear hru
  have HVP := Lib.hid hvp; clear hvp
  have HUP := Lib.hid hup; clear hup
  have HC04 := Lib.hid hc04; clear hc04
  have HFN := Lib.hid hFn; clear hFn
  have HF4 := Lib.hid hF4; clear hF4
  go_upto_region 4 with fail
  refine wp_alw ?_
  intro W5 hW5
  have hb7 : blk W5 w4.heap.size [.slice xa X.length xc, .slice ya Y.length yc] := by rw [hW5]; exact blk.new' _ _ rfl
  have hc45 : Ch [] w4 W5 := by rw [hW5]; exact (Ch.refl _ _).alloc _
  have hb5 := B5.out.ch hc45 (by simp)
  clear hW5 x0 x1 x2
  have x0 := hb5.cell (i := 0) rfl
  have B7 := Lib.hid hb7; clear hb7 hb5
  have HC45 := Lib.hid hc45; clear hc45
  obtain ⟨one, hone⟩ : ∃ one : Bool, one = decide (3 < (kind : Int) % 6) := ⟨_, rfl⟩
  obtain ⟨nw, hnw⟩ : ∃ nw : Nat, nw = if one then 1 else 2 := ⟨_, rfl⟩
  have HNW := Lib.hid hnw; clear hnw
  go_upto_if 42 with fail
  rw [← hone]
  have HONE := Lib.hid hone; clear hone x0
  go_cut [13] (fun ws wd => wd = W5 ∧ ws = .slice (some ⟨w4.heap.size, 0, none⟩) nw 2)
  case first =>
    cases one
    · go_wp2_with fail
      go_meet
      case rel => exact ⟨rfl, by rw [HNW.out]; rfl⟩
    · go_wp2_with fail
      go_meet
      case rel => exact ⟨rfl, by rw [HNW.out]; rfl⟩
  case rest =>
    obtain ⟨hwd, rfl⟩ := hcut
    have hwd := hwd.symm
    subst hwd
    have hrg5 := HRG.out.ch HC45.out (by simp)
    have hsx5 := HSX.out.ch HC45.out (by simp)
    have hsy5 := HSY.out.ch HC45.out (by simp)
    have hC : Calls Tryz.prog 218 #[.agg #[.int .i64 G.most, .slice (some ⟨rb, 0, none⟩) G.nodes.length cap], .slice (some ⟨w4.heap.size, 0, none⟩) nw 2] W5 fun e w' => e = .returned (.int .i64 fv) ∧ Ch [] W5 w' := by
      have hd0 := B7.out.cell (i := 0) rfl
      have hd1 := B7.out.cell (i := 1) rfl
      have ho := HONE.out
      have hki := HKI.out
      have hfe : fv = chk24 G (if 3 < K then [X] else [X, Y]) := HFV.out
      by_cases h3 : 3 < K
      · have e1 : one = true := by rw [ho]; exact decide_eq_true (by omega)
        have e2 : nw = 1 := by rw [HNW.out, e1]; rfl
        rw [if_pos h3] at hfe
        rw [e2, hfe]
        exact r24Check_is hrg5 (b := w4.heap.size) (n := 1) (cap := 2) (ws := [⟨xa, X, xc⟩]) rfl (by omega) (by omega) (fun i x hx => by
          match i, hx with
          | 0, hx => cases hx; exact hd0) (fun x hx => by
          simp only [List.mem_cons, List.not_mem_nil, or_false] at hx
          subst hx; exact hsx5) (fun x hx => by
          simp only [List.mem_cons, List.not_mem_nil, or_false] at hx
          subst hx; (show X.length ≤ 1000000; omega))
      · have e1 : one = false := by rw [ho]; exact decide_eq_false (by omega)
        have e2 : nw = 2 := by rw [HNW.out, e1]; rfl
        rw [if_neg h3] at hfe
        rw [e2, hfe]
        exact r24Check_is hrg5 (b := w4.heap.size) (n := 2) (cap := 2) (ws := [⟨xa, X, xc⟩, ⟨ya, Y, yc⟩]) rfl (by omega) (by omega) (fun i x hx => by
          match i, hx with
          | 0, hx => cases hx; exact hd0
          | 1, hx => cases hx; exact hd1) (fun x hx => by
          simp only [List.mem_cons, List.not_mem_nil, or_false] at hx
          rcases hx with rfl | rfl; exact hsx5; exact hsy5) (fun x hx => by
          simp only [List.mem_cons, List.not_mem_nil, or_false] at hx
          rcases hx with rfl | rfl; (show X.length ≤ 1000000; omega); (show Y.length ≤ 1000000; omega))
    have hb4 := B4.out.ch HC45.out (by simp)
    have x0 := hb4.cell (i := 0) rfl
    have x1 := hb4.cell (i := 1) rfl
    have HC := Lib.hid hC; clear hC hrg5 hsx5 hsy5 hb4
    go_wp2_with fail
    refine HC.out.mono ?_
    rintro e wc ⟨rfl, hcd⟩
    have hc4c := HC45.out.trans hcd (by simp)
    have hg := HG.out.same hc4c (by simp)
    have hrg := HRG.out.ch hc4c (by simp)
    have hb4 := B4.out.ch hc4c (by simp)
    have hb5 := B5.out.ch hc4c (by simp)
    have hb6 := B6.out.ch hc4c (by simp)
    have hsx := HSX.out.ch hc4c (by simp)
    have hsy := HSY.out.ch hc4c (by simp)
    have hrp := HRP.out.ch hc4c (by simp)
    have hrq := HRQ.out.ch hc4c (by simp)
    have hrv := HRV.out.ch hc4c (by simp)
    have hru := HRU.out.ch hc4c (by simp)
    have hc0c := HC04.out.trans hc4c (by simp)
    have hz4c := hc4c.size
    have h6lt := B6.out.lt
    have h4F : w.heap.size ∉ F' := fun hin => by rcases HFN.out _ hin with e | e; (have := HFW.out _ e; omega); omega
    have h6F : w.heap.size + 2 ∉ F' := fun hin => by rcases HFN.out _ hin with e | e; (have := HFW.out _ e; omega); omega
    clear HG HRG B4 B5 B6 HSX HSY HRP HRQ HRV HRU HC04 hcd hc4c HC45 B7 HC x0 x1 HONE HNW HKK
    have HG := Lib.hid hg; clear hg
    have HRG := Lib.hid hrg; clear hrg
    have B4 := Lib.hid hb4; clear hb4
    have B5 := Lib.hid hb5; clear hb5
    have B6 := Lib.hid hb6; clear hb6
    have HSX := Lib.hid hsx; clear hsx
    have HSY := Lib.hid hsy; clear hsy
    have HRP := Lib.hid hrp; clear hrp
    have HRQ := Lib.hid hrq; clear hrq
    have HRV := Lib.hid hrv; clear hrv
    have HRU := Lib.hid hru; clear hru
    have HC0 := Lib.hid hc0c; clear hc0c
    by_cases hfz : fv = 0
    · have h9 := HPE.out
      rw [if_neg (by omega)] at h9
      subst hfz
      have hR := HREF.out wc rb cap HRG.out HSX.out HSY.out rfl
      obtain ⟨R, hRR⟩ : ∃ R, R = RF24 K G (nats X) (nats Y) N := ⟨_, rfl⟩
      rw [← hRR] at hR h9
      obtain ⟨⟨G2, q2⟩, l2, m2⟩ := R
      have HR := Lib.hid hR; clear hR hRR
      have H9 := Lib.hid h9; clear h9
      have hq4 := B4.out
      have y0 := hq4.cell (i := 0) rfl
      have y1 := hq4.cell (i := 1) rfl
      have hq5 := B5.out
      have z0 := hq5.cell (i := 0) rfl
      have z1 := hq5.cell (i := 1) rfl
      have z2 := hq5.cell (i := 2) rfl
      have z3 := hq5.cell (i := 3) rfl
      have hwc := B6.out.lt
      clear hq4 hq5 HREF
      go_wp2_with fail
      refine HR.out.mono ?_
      rintro e w5 ⟨rb2, cap2, a2, c2, a3, c3, rfl, hrg2, hch, hfr, hs1, hs2, ho1, ho2⟩
      simp only at hrg2 hs1 hs2
      have HRG2 := Lib.hid hrg2; clear hrg2
      have HCH := Lib.hid hch; clear hch
      have HS1 := Lib.hid hs1; clear hs1
      have HS2 := Lib.hid hs2; clear hs2
      have HO1 := Lib.hid ho1; clear ho1
      have HO2 := Lib.hid ho2; clear ho2
      clear y0 y1 z0 z1 z2 z3
      go_upto_region 10 with fail
      refine wp_alw ?_
      intro W6 hW6
      have hb16 : blk W6 w5.heap.size [.int .i64 G2.most, .slice (some ⟨rb2, 0, none⟩) G2.nodes.length cap2, .int .i64 q2] := by rw [hW6]; exact blk.new' _ _ rfl
      have hcA : Ch [] w5 W6 := by rw [hW6]; exact (Ch.refl _ _).alloc _
      clear hW6
      have hcc6 := HCH.out.trans hcA (by simp)
      have hg := HG.out.same hcc6 (by simp)
      have hrg := HRG.out.ch hcc6 (by simp)
      have hrg2 := HRG2.out.ch hcA (by simp)
      have hs1 := HS1.out.ch hcA (by simp)
      have hs2 := HS2.out.ch hcA (by simp)
      have hb4 := B4.out.ch hcc6 (by simp)
      have hb5 := B5.out.ch hcc6 (by simp)
      have hb6 := B6.out.ch hcc6 (by simp)
      have hsx := HSX.out.ch hcc6 (by simp)
      have hsy := HSY.out.ch hcc6 (by simp)
      have hrp := HRP.out.ch hcc6 (by simp)
      have hrq := HRQ.out.ch hcc6 (by simp)
      have hrv := HRV.out.ch hcc6 (by simp)
      have hru := HRU.out.ch hcc6 (by simp)
      have hc0 := HC0.out.trans hcc6 (by simp)
      have hzc6 := HCH.out.size
      have x2 := hb16.cell (i := 2) rfl
      have hap2 : rb2 ∉ F' := fun hin => by rcases hfr with e | e; (rw [e] at hin; exact hap hin); (have := HF4.out _ hin; omega)
      have hfr2 : rb2 = rb ∨ w.heap.size ≤ rb2 := by rcases hfr with e | e; exact .inl e; (right; omega)
      have h62 : rb2 ≠ w.heap.size + 2 := by rcases hfr with e | e <;> omega
      clear HG HRG HRG2 HS1 HS2 B4 B5 B6 HSX HSY HRP HRQ HRV HRU HC0 hcA hcc6 HCH HR
      have HG := Lib.hid hg; clear hg
      have HRG := Lib.hid hrg; clear hrg
      have HRG2 := Lib.hid hrg2; clear hrg2
      have HS1 := Lib.hid hs1; clear hs1
      have HS2 := Lib.hid hs2; clear hs2
      have B4 := Lib.hid hb4; clear hb4
      have B5 := Lib.hid hb5; clear hb5
      have B6 := Lib.hid hb6; clear hb6
      have B16 := Lib.hid hb16; clear hb16
      have HSX := Lib.hid hsx; clear hsx
      have HSY := Lib.hid hsy; clear hsy
      have HRP := Lib.hid hrp; clear hrp
      have HRQ := Lib.hid hrq; clear hrq
      have HRV := Lib.hid hrv; clear hrv
      have HRU := Lib.hid hru; clear hru
      have HC0 := Lib.hid hc0; clear hc0
      by_cases hq : q2 = 0
      · have h9 := H9.out
        unfold fin24 at h9
        rw [if_neg (by simp [hq])] at h9
        simp only [Prod.mk.injEq] at h9
        obtain ⟨a1, a2', a3', a4⟩ := h9
        subst a1 a2' a3' a4
        subst hq
        clear H9
        have hrvi := HRV.out
        rw [refs_natInts] at hrvi
        have hslv := Sl.of_ints hrvi (by omega)
        have hI := Ints23_is (w := W6) (a := va) (l := natInts l1) l1.length vc (natInts_len' _) hslv (by omega)
        have HI := Lib.hid hI; clear hI hslv hrvi
        go_wp2_with fail
        refine HI.out.mono ?_
        rintro e w7 ⟨v, rfl, hri, _, hc7⟩
        obtain ⟨ia, ic, rfl⟩ := row.shape hri
        have hE := Eqint_same (w := w7) ic c2 (natInts_len' l1) (Sl.of_ints hri (by omega)) (HS1.out.ch hc7 (by simp))
        have HE := Lib.hid hE; clear hE hri
        have HC7 := Lib.hid hc7; clear hc7 HI
        clear x2
        go_wp2_with fail
        refine HE.out.mono ?_
        rintro e w8 ⟨rfl, hc8⟩
        have hc68 := HC7.out.trans hc8 (by simp)
        have hrvu := HRU.out.ch hc68 (by simp)
        rw [refs_natInts] at hrvu
        have hm16 := HLM.out
        have hslv := Sl.of_ints hrvu (by omega)
        have hI := Ints23_is (w := w8) (a := ua) (l := natInts m1) m1.length uc (natInts_len' _) hslv (by omega)
        have HI := Lib.hid hI; clear hI hslv hrvu
        have HC68 := Lib.hid hc68; clear hc68 hc8 HC7 HE
        go_wp2_with fail
        refine HI.out.mono ?_
        rintro e wa ⟨v, rfl, hri, _, hc7⟩
        have hc6a := HC68.out.trans hc7 (by simp)
        obtain ⟨ja, jc, rfl⟩ := row.shape hri
        have hE := Eqint_same (w := wa) jc c3 (natInts_len' m1) (Sl.of_ints hri (by omega)) (HS2.out.ch hc6a (by simp))
        have HE := Lib.hid hE; clear hE hri
        have HC6A := Lib.hid hc6a; clear hc6a hc7 HI HC68
        go_wp2_with fail
        refine HE.out.mono ?_
        rintro e wg ⟨rfl, hcg⟩
        have hc6g := HC6A.out.trans hcg (by simp)
        have hrvg := HRV.out.ch hc6g (by simp)
        have HRVG := Lib.hid hrvg; clear hrvg
        have HCG := Lib.hid hc6g; clear hc6g hcg HC6A HE
        go_wp2_with fail
        go_loopw [115] (fun i wq => ∃ j : Nat, j ≤ l1.length ∧ i = .int .i64 j ∧ Ch (Value.slice va l1.length vc).ownBlock.toList wg wq ∧ ShqB wg wq) (fun i _ => l1.length - (intOf i).toNat)
        case atStart => exact ⟨0, by omega, rfl, Ch.refl _ _, ShqB.refl _⟩
        case round =>
          obtain ⟨j, hj, rfl, hcv, hsh⟩ := hrel
          by_cases hjn : j < l1.length
          · obtain ⟨b, old, rfl, hcl, hfz⟩ := hsh.cell HRVG.out hjn
            have HCV := Lib.hid hcv; clear hcv
            have HSH := Lib.hid hsh; clear hsh
            go_wp2_with fail
            go_roundw
            case rel => exact ⟨j + 1, by omega, by go_num, HCV.out.setCell (.inl (by simp)) _, HSH.out.set _ _ _⟩
            case measure => simp [intOf]; omega
          · have hvq : ∀ q ∈ (Value.slice va l1.length vc).ownBlock.toList, w3.heap.size ≤ q ∧ q < w4.heap.size ∧ q ∉ F' := fun q hq => HVP.out q (by simpa using hq)
            have hc6r : Ch (Value.slice va l1.length vc).ownBlock.toList W6 wr := (HCG.out.mono (by simp)).trans hcv (fun q hq => .inl hq)
            have hzr := hc6r.size
            have h6l := B6.out.lt
            have hg := HG.out.same hc6r (fun q hq hq2 => (hvq q hq2).2.2 hq)
            have hrg2 := HRG2.out.ch hc6r (fun hin => by have := hvq _ hin; rcases hfr with e | e <;> omega)
            have hrp := HRP.out.ch hc6r (fun q hq hq2 => by have := hvq _ hq2; have := HPHI.out q hq; omega)
            have hrq := HRQ.out.ch hc6r (fun q hq hq2 => by have := hvq _ hq2; have := HQHI.out q hq; omega)
            have hru := HRU.out.ch hc6r (fun q hq hq2 => (HUP.out q hq).2.2 (by simpa using hq2))
            have hs2 := HS2.out.ch hc6r (fun p hp hq2 => by have := hvq _ hq2; have := HO2.out p hp; omega)
            have hsx := HSX.out.ch2 hc6r (fun h0 p hp hq2 => by have := hvq _ hq2; have := HXO.out h0 p hp; omega)
            have hsy := HSY.out.ch2 hc6r (fun h0 p hp hq2 => by have := hvq _ hq2; have := HYO.out h0 p hp; omega)
            have hb5 := B5.out.ch hc6r (fun hin => by have := hvq _ hin; omega)
            have hb6 := B6.out.ch hc6r (fun hin => by have := hvq _ hin; omega)
            have hb16 := B16.out.ch hc6r (fun hin => by have := hvq _ hin; omega)
            have hc0 := HC0.out.trans hc6r (fun q hq => .inr (by have := hvq q hq; omega))
            have hrvu := hru
            rw [refs_natInts] at hrvu
            have hI := Ints23_is (w := wr) (a := ua) (l := natInts m1) m1.length uc (natInts_len' _) (Sl.of_ints hrvu (by omega)) (by omega)
            have HI := Lib.hid hI; clear hI hrvu
            clear HG HRG HRG2 HRP HRQ HRU HSX HSY B5 B6 B16 HC0 hcv hsh hc6r hvq HRVG HCG B4 HRV HS1 HS2 hru
            have HG := Lib.hid hg; clear hg
            have HRG2 := Lib.hid hrg2; clear hrg2
            have HRP := Lib.hid hrp; clear hrp
            have HRQ := Lib.hid hrq; clear hrq
            have HS2 := Lib.hid hs2; clear hs2
            have HSX := Lib.hid hsx; clear hsx
            have HSY := Lib.hid hsy; clear hsy
            have B5 := Lib.hid hb5; clear hb5
            have B6 := Lib.hid hb6; clear hb6
            have B16 := Lib.hid hb16; clear hb16
            have HC0 := Lib.hid hc0; clear hc0
            go_wp2_with fail
            refine HI.out.mono ?_
            rintro e w8 ⟨v, rfl, hri, _, hc8⟩
            obtain ⟨ia, ic, rfl⟩ := row.shape hri
            have hE := Eqint_same (w := w8) ic c3 (natInts_len' m1) (Sl.of_ints hri (by omega)) (HS2.out.ch hc8 (by simp))
            have HE := Lib.hid hE; clear hE hri
            have HC8 := Lib.hid hc8; clear hc8 HI
            go_wp2_with fail
            refine HE.out.mono ?_
            rintro e wa ⟨rfl, hca⟩
            have hc6a := HC8.out.trans hca (by simp)
            have z1 := (B5.out.ch hc6a (by simp)).cell (i := 1) rfl
            have hR1 := Refs23_is (w := wa) X.length xc rfl (HSX.out.ch hc6a (by simp)) (by omega)
            have HR1 := Lib.hid hR1; clear hR1
            have HC68 := Lib.hid hc6a; clear hc6a hca HC8 HE
            go_wp2_with fail
            refine HR1.out.mono ?_
            rintro e wd ⟨v, rfl, hr1, _, hcd⟩
            obtain ⟨ma, mc, rfl⟩ := row.shape hr1
            have hcd6 := HC68.out.trans hcd (by simp)
            have hE := Eqref_same (w := wd) pc mc rfl (Sl.of_ints (HRP.out.ch hcd6 (by simp)) (by omega)) (Sl.of_ints hr1 (by omega))
            have HE := Lib.hid hE; clear hE hr1 z1
            have HCD := Lib.hid hcd6; clear hcd6 hcd HR1 HC68
            go_wp2_with fail
            refine HE.out.mono ?_
            rintro e we ⟨rfl, hce⟩
            have hcde := HCD.out.trans hce (by simp)
            have z2 := (B5.out.ch hcde (by simp)).cell (i := 2) rfl
            have hR2 := Refs23_is (w := we) Y.length yc rfl (HSY.out.ch hcde (by simp)) (by omega)
            have HR2 := Lib.hid hR2; clear hR2
            have HCDE := Lib.hid hcde; clear hcde hce HCD HE
            go_wp2_with fail
            refine HR2.out.mono ?_
            rintro e wf ⟨v, rfl, hr1, _, hcf⟩
            obtain ⟨na, nc, rfl⟩ := row.shape hr1
            have hcf6 := HCDE.out.trans hcf (by simp)
            have hE := Eqref_same (w := wf) qc nc rfl (Sl.of_ints (HRQ.out.ch hcf6 (by simp)) (by omega)) (Sl.of_ints hr1 (by omega))
            have HE := Lib.hid hE; clear hE hr1 z2
            have HCF := Lib.hid hcf6; clear hcf6 hcf HR2 HCDE
            go_wp2_with fail
            refine HE.out.mono ?_
            rintro e wh ⟨rfl, hch⟩
            have hcH := HCF.out.trans hch (by simp)
            have hg := HG.out.same hcH (by simp)
            have hrg2 := HRG2.out.ch hcH (by simp)
            have hb6 := B6.out.ch hcH (by simp)
            have hb16 := B16.out.ch hcH (by simp)
            have hc0 := HC0.out.trans hcH (by simp)
            have hSm := Same23_is (hg.same (Ch.refl [] wh).drew (by simp)) (hrg2.ch (Ch.refl [] wh).drew (by simp))
            have hcur : Ch [] wh wh.drew := (Ch.refl [] wh).drew
            have hb16d := hb16.ch hcur (by simp)
            have t0 := hb16d.cell (i := 0) rfl
            have t1 := hb16d.cell (i := 1) rfl
            have HSM := Lib.hid hSm; clear hSm hcH hch HCF HE hb16d
            clear HG HRG2 B6 B16 HC0 HRP HRQ B5 HSX HSY HS2
            have HG := Lib.hid hg; clear hg
            have HRG2 := Lib.hid hrg2; clear hrg2
            have B6 := Lib.hid hb6; clear hb6
            have B16 := Lib.hid hb16; clear hb16
            have HC0 := Lib.hid hc0; clear hc0
            go_wp2_with fail
            refine Ord.St.door (fun w' => Ch [] wh w') [.fl, .ho, .fl, .fl, .rd, .ef, .ef, .fl] [0, 1, 0, 0, 8, 28, 63, 127] [0, 1, 2, 3, 4, 5, 6, 7] mixed (by kernel_rfl) rfl ?_
            refine Ord.St.fl2 (T' := ?_) 0 [1, 2, 3, 4, 5, 6, 7] _ _ rfl (by kernel_rfl) rfl rfl rfl rfl (fun K w' hk => ?_) ?_
            rotate_left
            · go_step; exact hk
            refine Ord.St.ho2 (T' := ?_) 1 [2, 3, 4, 5, 6, 7] _ _ rfl (by kernel_rfl) rfl rfl rfl rfl ?_ (fun K w' hw' hk => ?_) ?_
            rotate_left
            · trivial
            · have hq16 := B16.out.ch hw' (by simp); have u0 := hq16.cell (i := 0) rfl; have u1 := hq16.cell (i := 1) rfl; go_step; exact hk
            refine Ord.St.fl2 (T' := ?_) 2 [3, 4, 5, 6, 7] _ _ rfl (by kernel_rfl) rfl rfl rfl rfl (fun K w' hk => ?_) ?_
            rotate_left
            · go_step; exact hk
            refine Ord.St.fl2 (T' := ?_) 3 [4, 5, 6, 7] _ _ rfl (by kernel_rfl) rfl rfl rfl rfl (fun K w' hk => ?_) ?_
            rotate_left
            · go_step; exact hk
            refine Ord.St.rd2 (T' := ?_) 4 [5, 6, 7] _ _ rfl (by kernel_rfl) rfl rfl rfl rfl (fun K hk => ?_) ?_
            rotate_left
            · go_step; exact hk
            refine Ord.St.efC 5 [6, 7] _ rfl (by kernel_rfl) (fun K hK => ?_)
            go_wp2_with fail
            refine HSM.out.mono ?_
            rintro e w9 ⟨rfl, hc9⟩
            go_wp2_with fail
            refine ⟨rfl, hK _ _ ?_ ?_⟩
            · exact hcur.trans hc9 (by simp)
            clear hK K
            have hcw := hcur.trans hc9 (by simp)
            have hb6 := B6.out.ch hcw (by simp)
            have v0 := hb6.cell (i := 0) rfl
            have v1 := hb6.cell (i := 1) rfl
            have f0 := hb6.frozen (i := 0)
            have f1 := hb6.frozen (i := 1)
            have h6l9 := hb6.lt
            have HCW := Lib.hid hcw; clear hcw hc9 hb6 t0 t1
            refine Ord.St.ef 6 [7] _ rfl (by kernel_rfl) (fun K hK => ?_)
            go_wp2_with fail
            refine ⟨rfl, hK _ _ ?_⟩; clear hK K
            refine Ord.St.fl2 (T' := ?_) 7 [] _ _ rfl (by kernel_rfl) rfl rfl rfl rfl (fun K w' hk => ?_) ?_
            rotate_left
            · go_step; exact hk
            refine Ord.St.nil ?_
            go_wp2_with fail
            refine bodyPost_ret (v := .tuple #[.agg #[.int .i64 G1.most, .slice (some ⟨rb2, 0, none⟩) G1.nodes.length cap2], .bool true]) (by simp [results, Tryz.results108, go_sem, v0, v1]) rfl ?_
            have hcs := set2_ch (w := w9) (b := w.heap.size + 2) (u := .int .i64 G1.most) (v := .slice (some ⟨rb2, 0, none⟩) G1.nodes.length cap2) rfl
            exact ATo.of HBT0.out ((HG.out.same HCW.out (by simp)).same hcs (fun q hq hq2 => h6F (by rw [List.mem_singleton.1 hq2] at hq; exact hq))) ((HRG2.out.ch HCW.out (by simp)).ch hcs (by simpa using h62)) hap2 (fun q hq => (HFN.out q hq).imp id (fun e => by omega)) hfr2 ((HC0.out.trans HCW.out (by simp)).trans hcs (fun q hq => .inr (by simp at hq; omega)))
      · have h9 := H9.out
        unfold fin24 at h9
        rw [if_pos hq] at h9
        simp only [Prod.mk.injEq] at h9
        obtain ⟨a1, a2', a3', a4⟩ := h9
        subst a1 a2' a3' a4
        simp only [List.length_nil] at *
        have hSm := Same23_is (HG.out.same (Ch.refl [] W6).drew (by simp)) (HRG.out.ch (Ch.refl [] W6).drew (by simp))
        have e4 : ((e1 : Int) != 0) = true := by simp [hq]
        have HSM := Lib.hid hSm; clear hSm hq H9
        have hb4 := B4.out.ch (Ch.refl [] W6).drew (by simp)
        have y0 := hb4.cell (i := 0) rfl
        have y1 := hb4.cell (i := 1) rfl
        clear hb4
        go_wp2_with fail
        have hcur : Ch [] W6 W6.drew := (Ch.refl [] W6).drew
        refine Ord.St.door (fun w' => Ch [] W6 w') [.ho, .fl, .fl, .rd, .fl, .fl, .fl, .rd, .fl, .rd, .fl, .fl, .fl, .fl, .fl, .rd, .ef, .fl, .ef, .fl] [0, 0, 0, 4, 14, 30, 62, 126, 62, 318, 1022, 2046, 4094, 8190, 16382, 16382, 65534, 131070, 131071, 524287] [0, 1, 2, 3, 4, 5, 6, 7, 8, 9, 10, 11, 12, 13, 14, 15, 16, 17, 18, 19] mixed (by kernel_rfl) rfl ?_
        refine Ord.St.ho2 (T' := ?_) 0 [1, 2, 3, 4, 5, 6, 7, 8, 9, 10, 11, 12, 13, 14, 15, 16, 17, 18, 19] _ _ rfl (by kernel_rfl) rfl rfl rfl rfl ?_ (fun K w' hw' hk => ?_) ?_
        rotate_left
        · trivial
        · have hq4 := B4.out.ch hw' (by simp); have u0 := hq4.cell (i := 0) rfl; have u1 := hq4.cell (i := 1) rfl; go_step; exact hk
        refine Ord.St.fl2 (T' := ?_) 1 [2, 3, 4, 5, 6, 7, 8, 9, 10, 11, 12, 13, 14, 15, 16, 17, 18, 19] _ _ rfl (by kernel_rfl) rfl rfl rfl rfl (fun K w' hk => ?_) ?_
        rotate_left
        · go_step; exact hk
        refine Ord.St.fl2 (T' := ?_) 2 [3, 4, 5, 6, 7, 8, 9, 10, 11, 12, 13, 14, 15, 16, 17, 18, 19] _ _ rfl (by kernel_rfl) rfl rfl rfl rfl (fun K w' hk => ?_) ?_
        rotate_left
        · go_step; exact hk
        refine Ord.St.rd2 (T' := ?_) 3 [4, 5, 6, 7, 8, 9, 10, 11, 12, 13, 14, 15, 16, 17, 18, 19] _ _ rfl (by kernel_rfl) rfl rfl rfl rfl (fun K hk => ?_) ?_
        rotate_left
        · go_step; exact hk
        refine Ord.St.fl2 (T' := ?_) 4 [5, 6, 7, 8, 9, 10, 11, 12, 13, 14, 15, 16, 17, 18, 19] _ _ rfl (by kernel_rfl) rfl rfl rfl rfl (fun K w' hk => ?_) ?_
        rotate_left
        · go_step; exact hk
        refine Ord.St.fl2 (T' := ?_) 5 [6, 7, 8, 9, 10, 11, 12, 13, 14, 15, 16, 17, 18, 19] _ _ rfl (by kernel_rfl) rfl rfl rfl rfl (fun K w' hk => ?_) ?_
        rotate_left
        · go_step; exact hk
        first | (refine Ord.St.fl2 (T' := ?_) 6 [7, 8, 9, 10, 11, 12, 13, 14, 15, 16, 17, 18, 19] _ _ rfl (by kernel_rfl) ?_ rfl rfl rfl (fun K w' hk => ?_) ?_; rotate_left; (first | rfl | (simp [Region.wanted, yielded, *]; done)); focus (go_step; exact hk)) | (refine Ord.St.skip 6 [7, 8, 9, 10, 11, 12, 13, 14, 15, 16, 17, 18, 19] _ rfl (by kernel_rfl) ?_ (fun K hK => ?_); (first | rfl | (simp [Region.wanted, yielded, *]; done)); go_simp; refine hK _ ?_; clear hK K)
        first | (refine Ord.St.rd2 (T' := ?_) 7 [8, 9, 10, 11, 12, 13, 14, 15, 16, 17, 18, 19] _ _ rfl (by kernel_rfl) ?_ rfl rfl rfl (fun K hk => ?_) ?_; rotate_left; (first | rfl | (simp [Region.wanted, yielded, *]; done)); focus (go_step; exact hk)) | (refine Ord.St.skipr 7 [8, 9, 10, 11, 12, 13, 14, 15, 16, 17, 18, 19] _ rfl (by kernel_rfl) ?_ (fun K hK => ?_); (first | rfl | (simp [Region.wanted, yielded, *]; done)); go_simp; refine hK _ ?_; clear hK K)
        first | (refine Ord.St.fl2 (T' := ?_) 8 [9, 10, 11, 12, 13, 14, 15, 16, 17, 18, 19] _ _ rfl (by kernel_rfl) ?_ rfl rfl rfl (fun K w' hk => ?_) ?_; rotate_left; (first | rfl | (simp [Region.wanted, yielded, *]; done)); focus (go_step; exact hk)) | (refine Ord.St.skip 8 [9, 10, 11, 12, 13, 14, 15, 16, 17, 18, 19] _ rfl (by kernel_rfl) ?_ (fun K hK => ?_); (first | rfl | (simp [Region.wanted, yielded, *]; done)); go_simp; refine hK _ ?_; clear hK K)
        first | (refine Ord.St.rd2 (T' := ?_) 9 [10, 11, 12, 13, 14, 15, 16, 17, 18, 19] _ _ rfl (by kernel_rfl) ?_ rfl rfl rfl (fun K hk => ?_) ?_; rotate_left; (first | rfl | (simp [Region.wanted, yielded, *]; done)); focus (go_step; exact hk)) | (refine Ord.St.skipr 9 [10, 11, 12, 13, 14, 15, 16, 17, 18, 19] _ rfl (by kernel_rfl) ?_ (fun K hK => ?_); (first | rfl | (simp [Region.wanted, yielded, *]; done)); go_simp; refine hK _ ?_; clear hK K)
        first | (refine Ord.St.fl2 (T' := ?_) 10 [11, 12, 13, 14, 15, 16, 17, 18, 19] _ _ rfl (by kernel_rfl) ?_ rfl rfl rfl (fun K w' hk => ?_) ?_; rotate_left; (first | rfl | (simp [Region.wanted, yielded, *]; done)); focus (go_step; exact hk)) | (refine Ord.St.skip 10 [11, 12, 13, 14, 15, 16, 17, 18, 19] _ rfl (by kernel_rfl) ?_ (fun K hK => ?_); (first | rfl | (simp [Region.wanted, yielded, *]; done)); go_simp; refine hK _ ?_; clear hK K)
        first | (refine Ord.St.fl2 (T' := ?_) 11 [12, 13, 14, 15, 16, 17, 18, 19] _ _ rfl (by kernel_rfl) ?_ rfl rfl rfl (fun K w' hk => ?_) ?_; rotate_left; (first | rfl | (simp [Region.wanted, yielded, *]; done)); focus (go_step; exact hk)) | (refine Ord.St.skip 11 [12, 13, 14, 15, 16, 17, 18, 19] _ rfl (by kernel_rfl) ?_ (fun K hK => ?_); (first | rfl | (simp [Region.wanted, yielded, *]; done)); go_simp; refine hK _ ?_; clear hK K)
        refine Ord.St.fl2 (T' := ?_) 12 [13, 14, 15, 16, 17, 18, 19] _ _ rfl (by kernel_rfl) rfl rfl rfl rfl (fun K w' hk => ?_) ?_
        rotate_left
        · go_step; exact hk
        refine Ord.St.fl2 (T' := ?_) 13 [14, 15, 16, 17, 18, 19] _ _ rfl (by kernel_rfl) rfl rfl rfl rfl (fun K w' hk => ?_) ?_
        rotate_left
        · go_step; exact hk
        first | (refine Ord.St.fl2 (T' := ?_) 14 [15, 16, 17, 18, 19] _ _ rfl (by kernel_rfl) ?_ rfl rfl rfl (fun K w' hk => ?_) ?_; rotate_left; (first | rfl | (simp [Region.wanted, yielded, *]; done)); focus (go_step; exact hk)) | (refine Ord.St.skip 14 [15, 16, 17, 18, 19] _ rfl (by kernel_rfl) ?_ (fun K hK => ?_); (first | rfl | (simp [Region.wanted, yielded, *]; done)); go_simp; refine hK _ ?_; clear hK K)
        first | (refine Ord.St.rd2 (T' := ?_) 15 [16, 17, 18, 19] _ _ rfl (by kernel_rfl) ?_ rfl rfl rfl (fun K hk => ?_) ?_; rotate_left; (first | rfl | (simp [Region.wanted, yielded, *]; done)); focus (go_step; exact hk)) | (refine Ord.St.skipr 15 [16, 17, 18, 19] _ rfl (by kernel_rfl) ?_ (fun K hK => ?_); (first | rfl | (simp [Region.wanted, yielded, *]; done)); go_simp; refine hK _ ?_; clear hK K)
        refine Ord.St.efC 16 [17, 18, 19] _ rfl (by kernel_rfl) (fun K hK => ?_)
        go_wp2_with fail
        refine HSM.out.mono ?_
        rintro e w9 ⟨rfl, hc9⟩
        go_wp2_with fail
        refine ⟨rfl, hK _ _ ?_ ?_⟩
        · exact hcur.trans hc9 (by simp)
        clear hK K
        have hcw := hcur.trans hc9 (by simp)
        have hb6 := B6.out.ch hcw (by simp)
        have v0 := hb6.cell (i := 0) rfl
        have v1 := hb6.cell (i := 1) rfl
        have f0 := hb6.frozen (i := 0)
        have f1 := hb6.frozen (i := 1)
        have h6l := hb6.lt
        have HCW := Lib.hid hcw; clear hcw hc9 hb6 y0 y1
        refine Ord.St.fl2 (T' := ?_) 17 [18, 19] _ _ rfl (by kernel_rfl) rfl rfl rfl rfl (fun K w' hk => ?_) ?_
        rotate_left
        · go_step; exact hk
        refine Ord.St.ef 18 [19] _ rfl (by kernel_rfl) (fun K hK => ?_)
        go_wp2_with fail
        refine ⟨rfl, hK _ _ ?_⟩; clear hK K
        refine Ord.St.fl2 (T' := ?_) 19 [] _ _ rfl (by kernel_rfl) rfl rfl rfl rfl (fun K w' hk => ?_) ?_
        rotate_left
        · go_step; exact hk
        refine Ord.St.nil ?_
        go_wp2_with fail
        refine bodyPost_ret (v := .tuple #[.agg #[.int .i64 G1.most, .slice (some ⟨rb, 0, none⟩) G1.nodes.length cap], .bool true]) (by simp [results, Tryz.results108, go_sem, v0, v1]) rfl ?_
        have hcs := set2_ch (w := w9) (b := w.heap.size + 2) (u := .int .i64 G1.most) (v := .slice (some ⟨rb, 0, none⟩) G1.nodes.length cap) rfl
        exact ATo.of HBT0.out ((HG.out.same HCW.out (by simp)).same hcs (fun q hq hq2 => h6F (by rw [List.mem_singleton.1 hq2] at hq; exact hq))) ((HRG.out.ch HCW.out (by simp)).ch hcs (by simp; omega)) hap (fun q hq => (HFN.out q hq).imp id (fun e => by omega)) (.inl rfl) ((HC0.out.trans HCW.out (by simp)).trans hcs (fun q hq => .inr (by simp at hq; omega)))
    · have h9 := HPE.out
      rw [if_pos hfz] at h9
      simp only [Prod.mk.injEq] at h9
      obtain ⟨a1, a2, a3, a4⟩ := h9
      subst a1 a2 a3 a4
      simp only [List.length_nil] at *
      have e4 : ((e1 : Int) != 0) = true := by simp [hfz]
      have hSm := Same23_is (HG.out.same (Ch.refl [] wc).drew (by simp)) (HRG.out.ch (Ch.refl [] wc).drew (by simp))
      have HSM := Lib.hid hSm; clear hSm hfz
      have hb4 := B4.out.ch (Ch.refl [] wc).drew (by simp)
      have y0 := hb4.cell (i := 0) rfl
      have y1 := hb4.cell (i := 1) rfl
      clear hb4
      go_wp2_with fail
      have hcur : Ch [] wc wc.drew := (Ch.refl [] wc).drew
      refine Ord.St.door (fun w' => Ch [] wc w') [.ho, .fl, .fl, .fl, .fl, .fl, .rd, .fl, .rd, .fl, .fl, .fl, .fl, .fl, .rd, .ef, .fl, .ef, .fl] [0, 0, 0, 6, 14, 30, 62, 30, 158, 510, 1022, 2046, 4094, 8190, 8190, 32766, 65534, 65535, 262143] [0, 1, 2, 3, 4, 5, 6, 7, 8, 9, 10, 11, 12, 13, 14, 15, 16, 17, 18] mixed (by kernel_rfl) rfl ?_
      refine Ord.St.ho2 (T' := ?_) 0 [1, 2, 3, 4, 5, 6, 7, 8, 9, 10, 11, 12, 13, 14, 15, 16, 17, 18] _ _ rfl (by kernel_rfl) rfl rfl rfl rfl ?_ (fun K w' hw' hk => ?_) ?_
      rotate_left
      · trivial
      · have hq4 := B4.out.ch hw' (by simp); have u0 := hq4.cell (i := 0) rfl; have u1 := hq4.cell (i := 1) rfl; go_step; exact hk
      refine Ord.St.fl2 (T' := ?_) 1 [2, 3, 4, 5, 6, 7, 8, 9, 10, 11, 12, 13, 14, 15, 16, 17, 18] _ _ rfl (by kernel_rfl) rfl rfl rfl rfl (fun K w' hk => ?_) ?_
      rotate_left
      · go_step; exact hk
      refine Ord.St.fl2 (T' := ?_) 2 [3, 4, 5, 6, 7, 8, 9, 10, 11, 12, 13, 14, 15, 16, 17, 18] _ _ rfl (by kernel_rfl) rfl rfl rfl rfl (fun K w' hk => ?_) ?_
      rotate_left
      · go_step; exact hk
      refine Ord.St.fl2 (T' := ?_) 3 [4, 5, 6, 7, 8, 9, 10, 11, 12, 13, 14, 15, 16, 17, 18] _ _ rfl (by kernel_rfl) rfl rfl rfl rfl (fun K w' hk => ?_) ?_
      rotate_left
      · go_step; exact hk
      refine Ord.St.fl2 (T' := ?_) 4 [5, 6, 7, 8, 9, 10, 11, 12, 13, 14, 15, 16, 17, 18] _ _ rfl (by kernel_rfl) rfl rfl rfl rfl (fun K w' hk => ?_) ?_
      rotate_left
      · go_step; exact hk
      first | (refine Ord.St.fl2 (T' := ?_) 5 [6, 7, 8, 9, 10, 11, 12, 13, 14, 15, 16, 17, 18] _ _ rfl (by kernel_rfl) ?_ rfl rfl rfl (fun K w' hk => ?_) ?_; rotate_left; (first | rfl | (simp [Region.wanted, yielded, *]; done)); focus (go_step; exact hk)) | (refine Ord.St.skip 5 [6, 7, 8, 9, 10, 11, 12, 13, 14, 15, 16, 17, 18] _ rfl (by kernel_rfl) ?_ (fun K hK => ?_); (first | rfl | (simp [Region.wanted, yielded, *]; done)); go_simp; refine hK _ ?_; clear hK K)
      first | (refine Ord.St.rd2 (T' := ?_) 6 [7, 8, 9, 10, 11, 12, 13, 14, 15, 16, 17, 18] _ _ rfl (by kernel_rfl) ?_ rfl rfl rfl (fun K hk => ?_) ?_; rotate_left; (first | rfl | (simp [Region.wanted, yielded, *]; done)); focus (go_step; exact hk)) | (refine Ord.St.skipr 6 [7, 8, 9, 10, 11, 12, 13, 14, 15, 16, 17, 18] _ rfl (by kernel_rfl) ?_ (fun K hK => ?_); (first | rfl | (simp [Region.wanted, yielded, *]; done)); go_simp; refine hK _ ?_; clear hK K)
      first | (refine Ord.St.fl2 (T' := ?_) 7 [8, 9, 10, 11, 12, 13, 14, 15, 16, 17, 18] _ _ rfl (by kernel_rfl) ?_ rfl rfl rfl (fun K w' hk => ?_) ?_; rotate_left; (first | rfl | (simp [Region.wanted, yielded, *]; done)); focus (go_step; exact hk)) | (refine Ord.St.skip 7 [8, 9, 10, 11, 12, 13, 14, 15, 16, 17, 18] _ rfl (by kernel_rfl) ?_ (fun K hK => ?_); (first | rfl | (simp [Region.wanted, yielded, *]; done)); go_simp; refine hK _ ?_; clear hK K)
      first | (refine Ord.St.rd2 (T' := ?_) 8 [9, 10, 11, 12, 13, 14, 15, 16, 17, 18] _ _ rfl (by kernel_rfl) ?_ rfl rfl rfl (fun K hk => ?_) ?_; rotate_left; (first | rfl | (simp [Region.wanted, yielded, *]; done)); focus (go_step; exact hk)) | (refine Ord.St.skipr 8 [9, 10, 11, 12, 13, 14, 15, 16, 17, 18] _ rfl (by kernel_rfl) ?_ (fun K hK => ?_); (first | rfl | (simp [Region.wanted, yielded, *]; done)); go_simp; refine hK _ ?_; clear hK K)
      first | (refine Ord.St.fl2 (T' := ?_) 9 [10, 11, 12, 13, 14, 15, 16, 17, 18] _ _ rfl (by kernel_rfl) ?_ rfl rfl rfl (fun K w' hk => ?_) ?_; rotate_left; (first | rfl | (simp [Region.wanted, yielded, *]; done)); focus (go_step; exact hk)) | (refine Ord.St.skip 9 [10, 11, 12, 13, 14, 15, 16, 17, 18] _ rfl (by kernel_rfl) ?_ (fun K hK => ?_); (first | rfl | (simp [Region.wanted, yielded, *]; done)); go_simp; refine hK _ ?_; clear hK K)
      first | (refine Ord.St.fl2 (T' := ?_) 10 [11, 12, 13, 14, 15, 16, 17, 18] _ _ rfl (by kernel_rfl) ?_ rfl rfl rfl (fun K w' hk => ?_) ?_; rotate_left; (first | rfl | (simp [Region.wanted, yielded, *]; done)); focus (go_step; exact hk)) | (refine Ord.St.skip 10 [11, 12, 13, 14, 15, 16, 17, 18] _ rfl (by kernel_rfl) ?_ (fun K hK => ?_); (first | rfl | (simp [Region.wanted, yielded, *]; done)); go_simp; refine hK _ ?_; clear hK K)
      refine Ord.St.fl2 (T' := ?_) 11 [12, 13, 14, 15, 16, 17, 18] _ _ rfl (by kernel_rfl) rfl rfl rfl rfl (fun K w' hk => ?_) ?_
      rotate_left
      · go_step; exact hk
      refine Ord.St.fl2 (T' := ?_) 12 [13, 14, 15, 16, 17, 18] _ _ rfl (by kernel_rfl) rfl rfl rfl rfl (fun K w' hk => ?_) ?_
      rotate_left
      · go_step; exact hk
      first | (refine Ord.St.fl2 (T' := ?_) 13 [14, 15, 16, 17, 18] _ _ rfl (by kernel_rfl) ?_ rfl rfl rfl (fun K w' hk => ?_) ?_; rotate_left; (first | rfl | (simp [Region.wanted, yielded, *]; done)); focus (go_step; exact hk)) | (refine Ord.St.skip 13 [14, 15, 16, 17, 18] _ rfl (by kernel_rfl) ?_ (fun K hK => ?_); (first | rfl | (simp [Region.wanted, yielded, *]; done)); go_simp; refine hK _ ?_; clear hK K)
      first | (refine Ord.St.rd2 (T' := ?_) 14 [15, 16, 17, 18] _ _ rfl (by kernel_rfl) ?_ rfl rfl rfl (fun K hk => ?_) ?_; rotate_left; (first | rfl | (simp [Region.wanted, yielded, *]; done)); focus (go_step; exact hk)) | (refine Ord.St.skipr 14 [15, 16, 17, 18] _ rfl (by kernel_rfl) ?_ (fun K hK => ?_); (first | rfl | (simp [Region.wanted, yielded, *]; done)); go_simp; refine hK _ ?_; clear hK K)
      refine Ord.St.efC 15 [16, 17, 18] _ rfl (by kernel_rfl) (fun K hK => ?_)
      go_wp2_with fail
      refine HSM.out.mono ?_
      rintro e w9 ⟨rfl, hc9⟩
      go_wp2_with fail
      refine ⟨rfl, hK _ _ ?_ ?_⟩
      · exact hcur.trans hc9 (by simp)
      clear hK K
      have hcw := hcur.trans hc9 (by simp)
      have hb6 := B6.out.ch hcw (by simp)
      have v0 := hb6.cell (i := 0) rfl
      have v1 := hb6.cell (i := 1) rfl
      have f0 := hb6.frozen (i := 0)
      have f1 := hb6.frozen (i := 1)
      have h6l := hb6.lt
      have HCW := Lib.hid hcw; clear hcw hc9 hb6 y0 y1
      refine Ord.St.fl2 (T' := ?_) 16 [17, 18] _ _ rfl (by kernel_rfl) rfl rfl rfl rfl (fun K w' hk => ?_) ?_
      rotate_left
      · go_step; exact hk
      refine Ord.St.ef 17 [18] _ rfl (by kernel_rfl) (fun K hK => ?_)
      go_wp2_with fail
      refine ⟨rfl, hK _ _ ?_⟩; clear hK K
      refine Ord.St.fl2 (T' := ?_) 18 [] _ _ rfl (by kernel_rfl) rfl rfl rfl rfl (fun K w' hk => ?_) ?_
      rotate_left
      · go_step; exact hk
      refine Ord.St.nil ?_
      go_wp2_with fail
      refine bodyPost_ret (v := .tuple #[.agg #[.int .i64 G1.most, .slice (some ⟨rb, 0, none⟩) G1.nodes.length cap], .bool true]) (by simp [results, Tryz.results108, go_sem, v0, v1]) rfl ?_
      have hcs := set2_ch (w := w9) (b := w.heap.size + 2) (u := .int .i64 G1.most) (v := .slice (some ⟨rb, 0, none⟩) G1.nodes.length cap) rfl
      exact ATo.of HBT0.out ((HG.out.same HCW.out (by simp)).same hcs (fun q hq hq2 => h6F (by rw [List.mem_singleton.1 hq2] at hq; exact hq))) ((HRG.out.ch HCW.out (by simp)).ch hcs (by simp; omega)) hap (fun q hq => (HFN.out q hq).imp id (fun e => by omega)) (.inl rfl) ((HC0.out.trans HCW.out (by simp)).trans hcs (fun q hq => .inr (by simp at hq; omega)))
end
end Go.Proofs.YtehljgigebhddaaGreat
namespace Go.Proofs.YtehljgigebhddaaGreat
open Go.RowKit Go.Mem Go.Aig
/-- an act of muldiv -/
structure MAct where
  kind : Nat
  xa : Option Addr
  xn : Nat
  xc : Nat
  X : List Int
  ya : Option Addr
  yn : Nat
  yc : Nat
  Y : List Int
  N : Nat
/-- a slice of acts that can be read -/
structure MActS (w : World) (a : Option Addr) (n cap : Nat) (l : List MAct) : Prop where
  len : l.length = n
  le : n ≤ cap
  max : cap ≤ 9223372036854775807
  cells : ∀ (i : Nat) (x : MAct), l[i]? = some x → ∃ b o, a = some ⟨b, o, none⟩ ∧ w.cell? ⟨b, o + i * 4, none⟩ = some (.int .u8 x.kind) ∧ w.cell? ⟨b, o + i * 4 + 1, none⟩ = some (.slice x.xa x.xn x.xc) ∧ w.cell? ⟨b, o + i * 4 + 2, none⟩ = some (.slice x.ya x.yn x.yc) ∧ w.cell? ⟨b, o + i * 4 + 3, none⟩ = some (.int .u32 x.N)
  bd : ∀ x ∈ l, x.N < 4294967296 ∧ x.kind ≤ 255 ∧ x.X.length = x.xn ∧ x.Y.length = x.yn ∧ (∀ z ∈ x.X, -9223372036854775808 ≤ z ∧ z ≤ 9223372036854775807) ∧ (∀ z ∈ x.Y, -9223372036854775808 ≤ z ∧ z ≤ 9223372036854775807)
  slx : ∀ x ∈ l, Sl w x.xa x.X
  sly : ∀ x ∈ l, Sl w x.ya x.Y
section
variable {w : World}
set_option maxRecDepth 100000 in
set_option maxHeartbeats 8000000 in
theorem makes24_no (M : Int) (N : Nat) (hM : M < 1 ∨ 65536 < M) (a : Option Addr) (n cap : Nat) : Calls Tryz.prog 21 #[.agg #[.int .i64 M, .int .u8 N], .slice a n cap] w fun e w' => e = .returned (.bool true) ∧ Ch [] w w' := by
  have hB := fun W => Begin23_no W M N hM
  clear hM
  go_enter Tryz.func21, Tryz.ntmps21
  go_wp2_with fail
  refine calls_named fun W hW => ?_
  have hc : Ch [] w W := by rw [hW]; exact (Ch.refl _ _).alloc _
  clear hW
  refine (hB W).mono ?_
  rintro e w1 ⟨rfl, hc1⟩
  have HC := Lib.hid (hc.trans hc1 (by simp)); clear hc hc1 hB
  go_wp2_with fail
  go_ret
  exact ⟨rfl, HC.out.alloc _⟩
set_option maxRecDepth 100000 in
set_option maxHeartbeats 8000000 in
theorem makes24_yes (M N : Nat) (h1 : 1 ≤ M) (h2 : M ≤ 65536) (hN : N ≤ 255) {a : Option Addr} {n cap : Nat} {l : List MAct} (hS : MActS w a n cap l) (hfew : ∀ x ∈ l, x.xn ≤ 1000 ∧ x.yn ≤ 1000) :
    Calls Tryz.prog 21 #[.agg #[.int .i64 M, .int .u8 N], .slice a n cap] w fun e w' => e = .returned (.bool true) ∧ Ch [] w w' := by
  have hB := fun W => Begin23_yes W M N h1 h2 hN
  have hlen := hS.len
  have hle := hS.le
  have hmx := hS.max
  have HB := Lib.hid hB; clear hB
  have HS := Lib.hid hS; clear hS
  have HFEW := Lib.hid hfew; clear hfew
  have HLEN := Lib.hid hlen; clear hlen
  go_enter Tryz.func21, Tryz.ntmps21
  go_wp2_with fail
  refine calls_named fun W hW => ?_
  have hc0 : Ch [] w W := by rw [hW]; exact (Ch.refl _ _).alloc _
  clear hW
  refine (HB.out W).mono ?_
  rintro e w1 ⟨g, F, rb, cap0, G, rfl, hbt⟩
  have HC0 := Lib.hid hc0; clear hc0
  have HBT := Lib.hid hbt; clear hbt HB
  go_upto_region 2 with fail
  refine wp_alw ?_
  intro W3 hW3
  have hb6 := alw_blk (xs := [.int .i64 G.most, .slice (some ⟨rb, 0, none⟩) G.nodes.length cap0]) hW3
  have hbt := HBT.out.same (alw_ch hW3)
  have h6F : w1.heap.size ∉ F := fun hin => Nat.lt_irrefl _ (HBT.out.gin.lt _ hin)
  have hrb6 : rb ≠ w1.heap.size := rg_ne HBT.out.rg
  have h6lo : W.heap.size ≤ w1.heap.size := HBT.out.ch.size
  clear hW3 HBT
  generalize w1.heap.size = b6 at *
  have HBT := Lib.hid hbt; clear hbt
  have B6 := Lib.hid hb6; clear hb6
  go_wp2_with fail
  go_loopw [24] (fun i wr => ∃ (k : Nat) (G : Gra) (F : List Nat) (rb cap : Nat), k ≤ n ∧ i = .int .i64 k ∧ Both W wr g rb cap G F ∧ b6 ∉ F ∧ rb ≠ b6 ∧ blk wr b6 [.int .i64 G.most, .slice (some ⟨rb, 0, none⟩) G.nodes.length cap]) (fun i _ => n - (intOf i).toNat)
  case atStart => exact ⟨0, G, F, rb, cap0, by omega, rfl, HBT.out, h6F, hrb6, B6.out⟩
  case round =>
    clear HBT B6 h6F hrb6
    obtain ⟨k, G, F, rb, capr, hk, rfl, hbt, h6F, hrb6, hb6⟩ := hrel
    by_cases hlt : k < n
    · obtain ⟨x, hx⟩ : ∃ x, l[k]? = some x := ⟨_, List.getElem?_eq_getElem (by rw [HLEN.out]; exact hlt)⟩
      have hxm := List.mem_of_getElem? hx
      obtain ⟨xb, xo, rfl, c0, c1, c2, c3⟩ := HS.out.cells k x hx
      have hcw := HC0.out.trans hbt.ch (by simp)
      have c0 := (hcw.cell (cell_lt c0) (by simp)).trans c0
      have c1 := (hcw.cell (cell_lt c1) (by simp)).trans c1
      have c2 := (hcw.cell (cell_lt c2) (by simp)).trans c2
      have c3 := (hcw.cell (cell_lt c3) (by simp)).trans c3
      obtain ⟨hNN, hkd, hxl, hyl, hxb, hyb⟩ := HS.out.bd x hxm
      obtain ⟨hxf, hyf⟩ := HFEW.out x hxm
      have hsx0 := HS.out.slx x hxm
      have hsy0 := HS.out.sly x hxm
      have hsx := hsx0.ch hcw (by simp)
      have hsy := hsy0.ch hcw (by simp)
      have hwr6 := hb6.lt
      obtain ⟨kind, xa, xn, xc, X, ya, yn, yc, Y, NN⟩ := x
      simp only at c0 c1 c2 c3 hNN hkd hxl hyl hxb hyb hxf hyf hsx hsy hsx0 hsy0
      subst hxl hyl
      have hxold : 0 < X.length → ∀ p, xa = some p → p.block < W.heap.size := fun h0 p hp => by
        have := sl_lt' hsx0 h0 p hp
        have := HC0.out.size
        omega
      have hyold : 0 < Y.length → ∀ p, ya = some p → p.block < W.heap.size := fun h0 p hp => by
        have := sl_lt' hsy0 h0 p hp
        have := HC0.out.size
        omega
      have hact := fun (W1 : World) (hcA : Ch [] wr W1) => act24_is (hbt.same hcA) kind xc yc NN hNN (hsx.ch hcA (by simp)) (hsy.ch hcA (by simp)) hxb hyb hxf hyf hxold hyold
      have HACT := Lib.hid hact; clear hact hsx0 hsy0 hsx hsy hxb hyb hxold hyold hx hxm hcw
      have HBT := Lib.hid hbt; clear hbt
      have B6 := Lib.hid hb6; clear hb6
      go_upto_region 7 with fail
      refine wp_alw ?_
      intro W1 hW1
      have hb8 := alw_blk (xs := [.int .u8 kind, .slice xa X.length xc, .slice ya Y.length yc, .int .u32 NN]) hW1
      have hcA := alw_ch hW1
      have hb6 := B6.out.ch hcA (by simp)
      have hA := HACT.out W1 hcA
      have h0 := hcA.size
      clear hW1 c0 c1 c2 c3
      have x0 := hb6.cell (i := 0) rfl
      have x1 := hb6.cell (i := 1) rfl
      have y0 := hb8.cell (i := 0) rfl
      have y1 := hb8.cell (i := 1) rfl
      have y2 := hb8.cell (i := 2) rfl
      have y3 := hb8.cell (i := 3) rfl
      have h6F1 : b6 ∉ F := h6F
      have hA1 := hb6.lt
      have HA := Lib.hid hA; clear hA HACT
      have B6' := Lib.hid hb6; clear hb6 hb8 B6
      go_wp2_with fail
      refine HA.out.mono ?_
      rintro e w2 ⟨G2, F2, rb2, cap2, rfl, hbt2, hF2, hfr2, hch⟩
      have hb6 := B6'.out.ch hch h6F
      have h6F2 : b6 ∉ F2 := fun hin => by rcases hF2 _ hin with e | e; exact h6F e; omega
      have hrb62 : rb2 ≠ b6 := by rcases hfr2 with e | e; (rw [e]; exact hrb6); omega
      have HBT2 := Lib.hid hbt2; clear hbt2 hF2 hfr2 hch
      have B6'' := Lib.hid hb6; clear hb6 B6' x0 x1 y0 y1 y2 y3 HA
      go_upto_region 8 with fail
      refine wp_alw ?_
      intro W5 hW5
      have hb9 := alw_blk (xs := [.int .i64 G2.most, .slice (some ⟨rb2, 0, none⟩) G2.nodes.length cap2]) hW5
      have hcA := alw_ch hW5
      have hbt := HBT2.out.same hcA
      have hb6 := B6''.out.ch hcA (by simp)
      clear hW5 HBT2 B6''
      have x0 := hb9.cell (i := 0) rfl
      have x1 := hb9.cell (i := 1) rfl
      have f0 := hb6.frozen (i := 0)
      have f1 := hb6.frozen (i := 1)
      have y0 := hb6.cell (i := 0) rfl
      have y1 := hb6.cell (i := 1) rfl
      have HBT := Lib.hid hbt; clear hbt hcA hb9
      have B6 := Lib.hid hb6; clear hb6
      go_wp2_with fail
      go_roundw
      case rel =>
        have hcs := set2_ch (w := W5) (b := b6) (u := .int .i64 G2.most) (v := .slice (some ⟨rb2, 0, none⟩) G2.nodes.length cap2) rfl
        exact ⟨k + 1, G2, F2, rb2, cap2, by omega, by go_num, HBT.out.set hcs h6F2 hrb62 h6lo, h6F2, hrb62, (B6.out.set (i := 0) _).set (i := 1) _⟩
      case measure => simp [intOf]; omega
    · have hSm := Same23_is hbt.gin hbt.rg
      have x0 := hb6.cell (i := 0) rfl
      have x1 := hb6.cell (i := 1) rfl
      have HSM := Lib.hid hSm; clear hSm
      have HC := Lib.hid (HC0.out.trans hbt.ch (by simp)); clear hbt hb6
      go_wp2_with fail
      refine HSM.out.mono ?_
      rintro e w9 ⟨rfl, hc9⟩
      have HC9 := Lib.hid hc9; clear hc9
      go_wp2_with fail
      go_ret
      exact ⟨rfl, HC.out.trans HC9.out (by simp)⟩
theorem makes24_is (M : Int) (N : Nat) (hN : N ≤ 255) {a : Option Addr} {n cap : Nat} {l : List MAct} (hS : MActS w a n cap l) (hfew : ∀ x ∈ l, x.xn ≤ 1000 ∧ x.yn ≤ 1000) :
    Calls Tryz.prog 21 #[.agg #[.int .i64 M, .int .u8 N], .slice a n cap] w fun e w' => e = .returned (.bool true) ∧ Ch [] w w' := by
  by_cases hM : M < 1 ∨ 65536 < M
  · exact makes24_no M N hM a n cap
  · obtain ⟨m, rfl⟩ : ∃ m : Nat, M = m := ⟨M.toNat, by omega⟩
    exact makes24_yes m N (by omega) (by omega) hN hS hfew
end
end Go.Proofs.YtehljgigebhddaaGreat
namespace Go.Proofs.YtehljgigebhddaaGreat
open Go.RowKit Go.Mem Go.Aig
/-- a graph that is none: 'none' says so, here and in all worlds that come of it -/
def NoGr (w : World) (v : Value) : Prop := ∀ W, Ch [] w W → Calls Tryz.prog 165 #[v] W fun e w' => e = .returned (.bool true) ∧ W = w'
theorem NoGr.ch {w W : World} {v : Value} (h : NoGr w v) (hc : Ch [] w W) : NoGr W v := fun U hU => h U (hc.trans hU (by simp))
section
set_option maxRecDepth 100000 in
set_option maxHeartbeats 400000 in
theorem nogr_nil (w : World) : NoGr w (.pointer none) := fun W _ => by
  go_enter Tryz.func165, Tryz.ntmps165
  go_wp2_with fail
  go_ret
  exact ⟨rfl, rfl⟩
set_option maxRecDepth 100000 in
set_option maxHeartbeats 400000 in
theorem nogr_zero {w : World} {g : Nat} (h : blk w g [.int .i64 0, .slice none 0 0, .map none, .slice none 0 0]) : NoGr w (.pointer (some ⟨g, 0, none⟩)) := fun W hW => by
  have c2 := (h.ch hW (by simp)).cell (i := 2) rfl
  clear h
  go_enter Tryz.func165, Tryz.ntmps165
  go_wp2_with fail
  go_ret
  exact ⟨rfl, rfl⟩
set_option maxRecDepth 100000 in
set_option maxHeartbeats 400000 in
theorem Len_none {w : World} {p : Option Addr} (h : NoGr w (.pointer p)) : Calls Tryz.prog 49 #[.pointer p] w fun e w' => e = .returned (.int .i64 0) ∧ Ch [] w w' := by
  have H := Lib.hid h; clear h
  go_enter Tryz.func49, Tryz.ntmps49
  go_wp2_with fail
  refine (H.out _ ?hc).mono ?_
  case hc => repeat (first | refine Ch.alloc ?_ _ | exact Ch.refl _ _)
  rintro e w' ⟨rfl, rfl⟩
  go_wp2_with fail
  go_ret
  exact ⟨rfl, by repeat (first | refine Ch.alloc ?_ _ | exact Ch.refl _ _)⟩
end
end Go.Proofs.YtehljgigebhddaaGreat
namespace Go.Proofs.YtehljgigebhddaaGreat
open Go.RowKit Go.Mem Go.Aig
section
variable {w : World} {p : Option Addr}
set_option maxRecDepth 100000 in
set_option maxHeartbeats 2000000 in
theorem mdcheck_none (h : NoGr w (.pointer p)) (a : Option Addr) (n c : Nat) : Calls Tryz.prog 207 #[.pointer p, .slice a n c] w fun e w' => e = .returned (.int .i64 1) ∧ Ch [] w w' := by
  have H := Lib.hid h; clear h
  go_enter Tryz.func207, Tryz.ntmps207
  go_wp2_with fail
  refine calls_named fun W hW => ?_
  have hc : Ch [] w W := by rw [hW]; exact (Ch.refl _ _).alloc _
  clear hW
  refine (Len_none (H.out.ch hc)).mono ?_
  rintro e w2 ⟨rfl, hc2⟩
  have HC2 := Lib.hid (hc.trans hc2 (by simp)); clear hc2 hc
  go_wp2_with fail
  go_ret
  exact ⟨rfl, HC2.out⟩
set_option maxRecDepth 100000 in
set_option maxHeartbeats 2000000 in
theorem mdMul_none (h : NoGr w (.pointer p)) (xa ya : Option Addr) (n xc m yc : Nat) : Calls Tryz.prog 102 #[.pointer p, .slice xa n xc, .slice ya m yc] w fun e w' => e = .returned (.tuple #[.slice none 0 0, .int .i64 1]) ∧ Ch [] w w' := by
  have H := Lib.hid h; clear h
  go_enter Tryz.func102, Tryz.ntmps102
  go_wp2_with fail
  refine calls_named fun W hW => ?_
  have hc : Ch [] w W := by rw [hW]; repeat (first | exact Ch.refl _ _ | refine Ch.alloc ?_ _)
  clear hW
  refine (mdcheck_none (H.out.ch hc) _ _ _).mono ?_
  rintro e w2 ⟨rfl, hc2⟩
  have HC2 := Lib.hid (hc.trans hc2 (by simp)); clear hc2 hc
  go_wp2_with fail
  go_ret2
  exact ⟨rfl, HC2.out⟩
set_option maxRecDepth 100000 in
set_option maxHeartbeats 2000000 in
theorem mdBoth_none (h : NoGr w (.pointer p)) (xa ya : Option Addr) (n xc m yc : Nat) : Calls Tryz.prog 105 #[.pointer p, .slice xa n xc, .slice ya m yc] w fun e w' => e = .returned (.tuple #[.slice none 0 0, .slice none 0 0, .int .i64 1]) ∧ Ch [] w w' := by
  have H := Lib.hid h; clear h
  go_enter Tryz.func105, Tryz.ntmps105
  go_wp2_with fail
  refine calls_named fun W hW => ?_
  have hc : Ch [] w W := by rw [hW]; repeat (first | exact Ch.refl _ _ | refine Ch.alloc ?_ _)
  clear hW
  refine (mdcheck_none (H.out.ch hc) _ _ _).mono ?_
  rintro e w2 ⟨rfl, hc2⟩
  have HC2 := Lib.hid (hc.trans hc2 (by simp)); clear hc2 hc
  go_wp2_with fail
  go_ret3
  exact ⟨rfl, HC2.out⟩
set_option maxRecDepth 100000 in
set_option maxHeartbeats 2000000 in
theorem mdDiv_none (h : NoGr w (.pointer p)) (xa ya : Option Addr) (n xc m yc : Nat) : Calls Tryz.prog 109 #[.pointer p, .slice xa n xc, .slice ya m yc] w fun e w' => e = .returned (.tuple #[.slice none 0 0, .int .i64 1]) ∧ Ch [] w w' := by
  have H := Lib.hid h; clear h
  go_enter Tryz.func109, Tryz.ntmps109
  go_wp2_with fail
  refine calls_named fun W hW => ?_
  have hc : Ch [] w W := by rw [hW]; repeat (first | exact Ch.refl _ _ | refine Ch.alloc ?_ _)
  clear hW
  refine (mdBoth_none (H.out.ch hc) xa ya n xc m yc).mono ?_
  rintro e w2 ⟨rfl, hc2⟩
  have HC2 := Lib.hid (hc.trans hc2 (by simp)); clear hc2 hc
  go_wp2_with fail
  go_ret2
  exact ⟨rfl, HC2.out⟩
set_option maxRecDepth 100000 in
set_option maxHeartbeats 2000000 in
theorem mdRem_none (h : NoGr w (.pointer p)) (xa ya : Option Addr) (n xc m yc : Nat) : Calls Tryz.prog 110 #[.pointer p, .slice xa n xc, .slice ya m yc] w fun e w' => e = .returned (.tuple #[.slice none 0 0, .int .i64 1]) ∧ Ch [] w w' := by
  have H := Lib.hid h; clear h
  go_enter Tryz.func110, Tryz.ntmps110
  go_wp2_with fail
  refine calls_named fun W hW => ?_
  have hc : Ch [] w W := by rw [hW]; repeat (first | exact Ch.refl _ _ | refine Ch.alloc ?_ _)
  clear hW
  refine (mdBoth_none (H.out.ch hc) xa ya n xc m yc).mono ?_
  rintro e w2 ⟨rfl, hc2⟩
  have HC2 := Lib.hid (hc.trans hc2 (by simp)); clear hc2 hc
  go_wp2_with fail
  go_ret2
  exact ⟨rfl, HC2.out⟩
set_option maxRecDepth 100000 in
set_option maxHeartbeats 2000000 in
theorem mdSquare_none (h : NoGr w (.pointer p)) (xa : Option Addr) (n xc : Nat) : Calls Tryz.prog 111 #[.pointer p, .slice xa n xc] w fun e w' => e = .returned (.tuple #[.slice none 0 0, .int .i64 1]) ∧ Ch [] w w' := by
  have H := Lib.hid h; clear h
  go_enter Tryz.func111, Tryz.ntmps111
  go_wp2_with fail
  refine calls_named fun W hW => ?_
  have hc : Ch [] w W := by rw [hW]; repeat (first | exact Ch.refl _ _ | refine Ch.alloc ?_ _)
  clear hW
  refine (mdMul_none (H.out.ch hc) xa xa n xc n xc).mono ?_
  rintro e w2 ⟨rfl, hc2⟩
  have HC2 := Lib.hid (hc.trans hc2 (by simp)); clear hc2 hc
  go_wp2_with fail
  go_ret2
  exact ⟨rfl, HC2.out⟩
set_option maxRecDepth 100000 in
set_option maxHeartbeats 2000000 in
theorem mdTimes_none (h : NoGr w (.pointer p)) (xa : Option Addr) (n xc : Nat) (N : Int) : Calls Tryz.prog 104 #[.pointer p, .slice xa n xc, .int .u32 N] w fun e w' => e = .returned (.tuple #[.slice none 0 0, .int .i64 1]) ∧ Ch [] w w' := by
  have H := Lib.hid h; clear h
  go_enter Tryz.func104, Tryz.ntmps104
  go_wp2_with fail
  refine calls_named fun W hW => ?_
  have hc : Ch [] w W := by rw [hW]; repeat (first | exact Ch.refl _ _ | refine Ch.alloc ?_ _)
  clear hW
  refine (mdcheck_none (H.out.ch hc) _ _ _).mono ?_
  rintro e w2 ⟨rfl, hc2⟩
  have HC2 := Lib.hid (hc.trans hc2 (by simp)); clear hc2 hc
  go_wp2_with fail
  go_ret2
  exact ⟨rfl, HC2.out⟩
set_option maxRecDepth 100000 in
set_option maxHeartbeats 2000000 in
theorem program24_none_0 (h : NoGr w (.pointer p)) (kind : Nat) (hk : (kind : Int) % 6 = 0) (xa : Option Addr) (xc : Nat) :
    Calls Tryz.prog 22 #[.pointer p, .agg #[.int .u8 kind, .slice none 0 0, .slice none 0 0, .int .u32 0], .slice xa 1 xc, .slice none 0 0] w fun e w' => e = .returned (.tuple #[.slice none 0 0, .slice none 0 0, .int .i64 1]) ∧ Ch [] w w' := by
  have H := Lib.hid h; clear h
  go_enter Tryz.func22, Tryz.ntmps22
  go_wp2_with fail
  refine calls_named fun W hW => ?_
  have hc : Ch [] w W := by rw [hW]; exact (Ch.refl _ _).alloc _
  clear hW
  refine (mdMul_none (H.out.ch hc) xa none 1 xc 0 0).mono ?_
  rintro e w2 ⟨rfl, hc2⟩
  have HC2 := Lib.hid (hc.trans hc2 (by simp)); clear hc2 hc
  go_wp2_with fail
  go_ret3
  exact ⟨rfl, HC2.out⟩
set_option maxRecDepth 100000 in
set_option maxHeartbeats 2000000 in
theorem program24_none_1 (h : NoGr w (.pointer p)) (kind : Nat) (hk : (kind : Int) % 6 = 1) (xa : Option Addr) (xc : Nat) :
    Calls Tryz.prog 22 #[.pointer p, .agg #[.int .u8 kind, .slice none 0 0, .slice none 0 0, .int .u32 0], .slice xa 1 xc, .slice none 0 0] w fun e w' => e = .returned (.tuple #[.slice none 0 0, .slice none 0 0, .int .i64 1]) ∧ Ch [] w w' := by
  have H := Lib.hid h; clear h
  go_enter Tryz.func22, Tryz.ntmps22
  go_wp2_with fail
  refine calls_named fun W hW => ?_
  have hc : Ch [] w W := by rw [hW]; exact (Ch.refl _ _).alloc _
  clear hW
  refine (mdDiv_none (H.out.ch hc) xa none 1 xc 0 0).mono ?_
  rintro e w2 ⟨rfl, hc2⟩
  have HC2 := Lib.hid (hc.trans hc2 (by simp)); clear hc2 hc
  go_wp2_with fail
  go_ret3
  exact ⟨rfl, HC2.out⟩
set_option maxRecDepth 100000 in
set_option maxHeartbeats 2000000 in
theorem program24_none_2 (h : NoGr w (.pointer p)) (kind : Nat) (hk : (kind : Int) % 6 = 2) (xa : Option Addr) (xc : Nat) :
    Calls Tryz.prog 22 #[.pointer p, .agg #[.int .u8 kind, .slice none 0 0, .slice none 0 0, .int .u32 0], .slice xa 1 xc, .slice none 0 0] w fun e w' => e = .returned (.tuple #[.slice none 0 0, .slice none 0 0, .int .i64 1]) ∧ Ch [] w w' := by
  have H := Lib.hid h; clear h
  go_enter Tryz.func22, Tryz.ntmps22
  go_wp2_with fail
  refine calls_named fun W hW => ?_
  have hc : Ch [] w W := by rw [hW]; exact (Ch.refl _ _).alloc _
  clear hW
  refine (mdRem_none (H.out.ch hc) xa none 1 xc 0 0).mono ?_
  rintro e w2 ⟨rfl, hc2⟩
  have HC2 := Lib.hid (hc.trans hc2 (by simp)); clear hc2 hc
  go_wp2_with fail
  go_ret3
  exact ⟨rfl, HC2.out⟩
set_option maxRecDepth 100000 in
set_option maxHeartbeats 2000000 in
theorem program24_none_3 (h : NoGr w (.pointer p)) (kind : Nat) (hk : (kind : Int) % 6 = 3) (xa : Option Addr) (xc : Nat) :
    Calls Tryz.prog 22 #[.pointer p, .agg #[.int .u8 kind, .slice none 0 0, .slice none 0 0, .int .u32 0], .slice xa 1 xc, .slice none 0 0] w fun e w' => e = .returned (.tuple #[.slice none 0 0, .slice none 0 0, .int .i64 1]) ∧ Ch [] w w' := by
  have H := Lib.hid h; clear h
  go_enter Tryz.func22, Tryz.ntmps22
  go_wp2_with fail
  refine calls_named fun W hW => ?_
  have hc : Ch [] w W := by rw [hW]; exact (Ch.refl _ _).alloc _
  clear hW
  refine (mdBoth_none (H.out.ch hc) xa none 1 xc 0 0).mono ?_
  rintro e w2 ⟨rfl, hc2⟩
  have HC2 := Lib.hid (hc.trans hc2 (by simp)); clear hc2 hc
  go_wp2_with fail
  go_ret3
  exact ⟨rfl, HC2.out⟩
set_option maxRecDepth 100000 in
set_option maxHeartbeats 2000000 in
theorem program24_none_4 (h : NoGr w (.pointer p)) (kind : Nat) (hk : (kind : Int) % 6 = 4) (xa : Option Addr) (xc : Nat) :
    Calls Tryz.prog 22 #[.pointer p, .agg #[.int .u8 kind, .slice none 0 0, .slice none 0 0, .int .u32 0], .slice xa 1 xc, .slice none 0 0] w fun e w' => e = .returned (.tuple #[.slice none 0 0, .slice none 0 0, .int .i64 1]) ∧ Ch [] w w' := by
  have H := Lib.hid h; clear h
  go_enter Tryz.func22, Tryz.ntmps22
  go_wp2_with fail
  refine calls_named fun W hW => ?_
  have hc : Ch [] w W := by rw [hW]; exact (Ch.refl _ _).alloc _
  clear hW
  refine (mdSquare_none (H.out.ch hc) xa 1 xc).mono ?_
  rintro e w2 ⟨rfl, hc2⟩
  have HC2 := Lib.hid (hc.trans hc2 (by simp)); clear hc2 hc
  go_wp2_with fail
  go_ret3
  exact ⟨rfl, HC2.out⟩
set_option maxRecDepth 100000 in
set_option maxHeartbeats 2000000 in
theorem program24_none_5 (h : NoGr w (.pointer p)) (kind : Nat) (hk : (kind : Int) % 6 = 5) (xa : Option Addr) (xc : Nat) :
    Calls Tryz.prog 22 #[.pointer p, .agg #[.int .u8 kind, .slice none 0 0, .slice none 0 0, .int .u32 0], .slice xa 1 xc, .slice none 0 0] w fun e w' => e = .returned (.tuple #[.slice none 0 0, .slice none 0 0, .int .i64 1]) ∧ Ch [] w w' := by
  have H := Lib.hid h; clear h
  go_enter Tryz.func22, Tryz.ntmps22
  go_wp2_with fail
  refine calls_named fun W hW => ?_
  have hc : Ch [] w W := by rw [hW]; exact (Ch.refl _ _).alloc _
  clear hW
  refine (mdTimes_none (H.out.ch hc) xa 1 xc 0).mono ?_
  rintro e w2 ⟨rfl, hc2⟩
  have HC2 := Lib.hid (hc.trans hc2 (by simp)); clear hc2 hc
  go_wp2_with fail
  go_ret3
  exact ⟨rfl, HC2.out⟩
theorem program24_none (h : NoGr w (.pointer p)) (kind : Nat) (hk : kind < 6) (xa : Option Addr) (xc : Nat) :
    Calls Tryz.prog 22 #[.pointer p, .agg #[.int .u8 kind, .slice none 0 0, .slice none 0 0, .int .u32 0], .slice xa 1 xc, .slice none 0 0] w fun e w' => e = .returned (.tuple #[.slice none 0 0, .slice none 0 0, .int .i64 1]) ∧ Ch [] w w' := by
  obtain ⟨k, hk2⟩ : ∃ k, kind = k := ⟨_, rfl⟩
  have hki : (kind : Int) % 6 = k := by omega
  rw [hk2] at hk
  match k, hk, hki with
  | 0, _, hki => exact program24_none_0 h kind hki xa xc
  | 1, _, hki => exact program24_none_1 h kind hki xa xc
  | 2, _, hki => exact program24_none_2 h kind hki xa xc
  | 3, _, hki => exact program24_none_3 h kind hki xa xc
  | 4, _, hki => exact program24_none_4 h kind hki xa xc
  | 5, _, hki => exact program24_none_5 h kind hki xa xc
end
end Go.Proofs.YtehljgigebhddaaGreat
namespace Go.Proofs.YtehljgigebhddaaGreat
open Go.RowKit Go.Mem Go.Aig
section
variable {w0 : Base} {w : World} {g : Nat} {G : Gra} {F : List Nat} {L : List (Value × List Int)}
theorem Hold.word2 {w' : World} {G' : Gra} {v1 v2 : Value} {l1 l2 : List Nat} (h : Hold w0 w g G F L) (ht : GVV w g G' F v1 l1 v2 l2 w') (hb1 : ∀ r ∈ l1, r ≤ 1000000) (hl1 : l1.length ≤ 1000000) (hb2 : ∀ r ∈ l2, r ≤ 1000000) (hl2 : l2.length ≤ 1000000) :
    ∃ a1 c1 a2 c2 F', v1 = .slice a1 l1.length c1 ∧ v2 = .slice a2 l2.length c2 ∧ Hold w0 w' g G' F' ((.slice a2 l2.length c2, natInts l2) :: (.slice a1 l1.length c1, natInts l1) :: L) := by
  obtain ⟨F', h1, h2, h3, h4, h5, h6, h7, h8⟩ := ht
  obtain ⟨a1, c1, rfl⟩ := row.shape h5
  obtain ⟨a2, c2, rfl⟩ := row.shape h6
  have hs := h.own.ch.size
  have mk : ∀ {v : Value} {l : List Nat}, row w' 52 1 v l.length (refsCells l) → (∀ r ∈ l, r ≤ 1000000) → l.length ≤ 1000000 → (∀ k, v.ownBlock = some k → w.heap.size ≤ k ∧ k ∉ F') → Held w0.w w' F' v (natInts l) := fun {v l} hr hb hl ho => by
    refine ⟨?_, by simpa using hl, fun r hr => ?_, fun k hk => ⟨Nat.le_trans hs (ho k hk).1, (ho k hk).2⟩⟩
    · simp only [natInts_len]
      rw [← refs_natInts]
      exact hr
    · obtain ⟨q, hq, rfl⟩ := List.mem_map.1 hr
      have := hb q hq
      omega
  refine ⟨a1, c1, a2, c2, F', rfl, rfl, ⟨⟨h1, fun k hk => (h3 k hk).elim (h.own.own k) (fun e => Nat.le_trans hs e), h.own.ch.trans h2 (fun k hk => .inr (h.own.own k hk))⟩, fun p hp => ?_, h.keptTo h2 h3⟩⟩
  rcases List.mem_cons.1 hp with rfl | hp
  · exact mk h6 hb2 hl2 h8
  rcases List.mem_cons.1 hp with rfl | hp
  · exact mk h5 hb1 hl1 (fun k hk => ⟨(h7 k hk).1, (h7 k hk).2.1⟩)
  · exact (h.held p hp).keep h2 h3
theorem mdMul_h (h : Hold w0 w g G F L) {xa ya : Option Addr} {xl yl : List Int} {n m xc yc : Nat} (hx : (.slice xa n xc, xl) ∈ L) (hxn : xl.length = n) (hy : (.slice ya m yc, yl) ∈ L) (hym : yl.length = m) {G' : Gra} {l : List Nat} {e k : Nat} (hR : mulG G xl yl = (G', l, e)) (hk : l.length = k) (hb : ∀ r ∈ l, r ≤ 1000000) (hl : k ≤ 1000000) :
    Calls Tryz.prog 102 #[.pointer (some ⟨g, 0, none⟩), .slice xa n xc, .slice ya m yc] w fun en w' => ∃ a c F', en = .returned (.tuple #[.slice a k c, .int .i64 e]) ∧ Hold w0 w' g G' F' ((.slice a k c, natInts l) :: L) := by
  have hc := mdMul_is h.own.gin (h.at hx hxn) (h.at hy hym) (by rw [hxn]; exact (h.held _ hx).cap)
  simp only [WV.val, hxn, hym] at hc
  exact Calls.word h hc hR hk hb hl
theorem mdTimes_h (h : Hold w0 w g G F L) {xa : Option Addr} {xl : List Int} {n xc : Nat} (hx : (.slice xa n xc, xl) ∈ L) (hxn : xl.length = n) (z : Nat) (hz : z < 4294967296) {G' : Gra} {l : List Nat} {e k : Nat} (hR : timesG G xl z = (G', l, e)) (hk : l.length = k) (hb : ∀ r ∈ l, r ≤ 1000000) (hl : k ≤ 1000000) :
    Calls Tryz.prog 104 #[.pointer (some ⟨g, 0, none⟩), .slice xa n xc, .int .u32 z] w fun en w' => ∃ a c F', en = .returned (.tuple #[.slice a k c, .int .i64 e]) ∧ Hold w0 w' g G' F' ((.slice a k c, natInts l) :: L) := by
  have hc := mdTimes_is h.own.gin (h.at hx hxn) (by rw [hxn]; exact (h.held _ hx).cap) z hz
  simp only [WV.val, hxn] at hc
  exact Calls.word h hc hR hk hb hl
theorem mdBoth_h (h : Hold w0 w g G F L) {xa ya : Option Addr} {xl yl : List Int} {n m xc yc : Nat} (hx : (.slice xa n xc, xl) ∈ L) (hxn : xl.length = n) (hy : (.slice ya m yc, yl) ∈ L) (hym : yl.length = m) {G' : Gra} {l1 l2 : List Nat} {e k1 k2 : Nat} (hR : bothG G xl yl = (G', (l1, l2), e)) (hk1 : l1.length = k1) (hk2 : l2.length = k2) (hb1 : ∀ r ∈ l1, r ≤ 1000000) (hb2 : ∀ r ∈ l2, r ≤ 1000000) (hl1 : k1 ≤ 1000000) (hl2 : k2 ≤ 1000000) :
    Calls Tryz.prog 105 #[.pointer (some ⟨g, 0, none⟩), .slice xa n xc, .slice ya m yc] w fun en w' => ∃ a1 c1 a2 c2 F', en = .returned (.tuple #[.slice a1 k1 c1, .slice a2 k2 c2, .int .i64 e]) ∧ Hold w0 w' g G' F' ((.slice a2 k2 c2, natInts l2) :: (.slice a1 k1 c1, natInts l1) :: L) := by
  have hc := mdBoth_is h.own.gin (h.at hx hxn) (h.at hy hym)
  simp only [WV.val, hxn, hym] at hc
  rw [hR] at hc
  subst hk1 hk2
  refine hc.mono ?_
  rintro en w' ⟨v1, v2, rfl, hg⟩
  obtain ⟨a1, c1, a2, c2, F', rfl, rfl, ho⟩ := h.word2 hg hb1 hl1 hb2 hl2
  exact ⟨a1, c1, a2, c2, F', rfl, ho⟩
end
end Go.Proofs.YtehljgigebhddaaGreat
namespace Go.Proofs.YtehljgigebhddaaGreat
open Go.RowKit Go.Mem Go.Aig
def u64s (l : List Nat) : List Value := l.map fun (r : Nat) => .int .u64 r
/-- the words of the four inputs -/
def inWords : List Nat := [43690, 52428, 61680, 65280]
/-- the word of a reference, over the words of the nodes -/
def wv (vs : List Nat) (r : Nat) : Nat := if r % 2 = 1 then vs.getD (r / 2) 0 ^^^ 65535 else vs.getD (r / 2) 0
end Go.Proofs.YtehljgigebhddaaGreat
namespace Go.Proofs.YtehljgigebhddaaGreat
open Go.RowKit Go.Mem Go.Aig
/-- all bits -/
abbrev U64 : Nat := 18446744073709551615
theorem u64_pow : (2 ^ 64 - 1 : Nat) = U64 := rfl
theorem infoU64 : (Tryz.prog.info? 64).map (fun i => (i.zero, i.size, i.bytes)) = some (some (.int .u64 0), 1, 8) := by kernel_rfl
theorem slU64s : SliceTy Tryz.prog 54 64 1 8 (.int .u64 0) := ⟨Tryz.underlying54, infoU64, rfl, by decide⟩
theorem run_make_u64s (w : World) (n : Nat) (hn : n ≤ 1000000) : (Instr.makeSlice 54 (.int .i64 n) (.int .i64 n)).run Tryz.prog w = .ok (.slice (some ⟨w.heap.size, 0, none⟩) n n) (w.alloc (.cells (u64s (List.replicate n 0)).toArray 64)) := by
  obtain ⟨i, hi, hz, hs, hb⟩ := info_parts infoU64
  have := run_make (P := Tryz.prog) w 54 64 i (.int .u64 0) Tryz.underlying54 hi hz .i64 .i64 n n (by omega) (by omega) (by rw [hb]; omega) (by omega)
  rw [this, hs]
  have e : madeCells (Value.int .u64 0).cells ((n : Int).toNat * 1) = (u64s (List.replicate n 0)).toArray := by
    apply Array.ext'
    have h := toList_madeCells_one (Value.int .u64 0) ((n : Int).toNat * 1)
    simpa [u64s, Value.cells] using h
  rw [e]; simp
theorem u64s_get {l : List Nat} {i v : Nat} (h : l[i]? = some v) : (u64s l)[i]? = some (.int .u64 v) := by simp [u64s, h]
section
variable {w : World}
set_option maxRecDepth 100000 in
set_option maxHeartbeats 2000000 in
theorem simof1_is {bx nb n c : Nat} {vs : List Nat} (hb : w.cell? ⟨bx, 0, none⟩ = some (.slice (some ⟨nb, 0, none⟩) n c)) (hk : blk w nb (u64s vs)) (hn : vs.length = n) (hlt : ∀ v ∈ vs, v < 2 ^ 64) (r : Nat) (hr : r < 2 * n) (hr2 : r ≤ 1000000) :
    Calls Tryz.prog 308 #[.int .i64 r, .pointer (some ⟨bx, 0, none⟩)] w fun e w' => e = .returned (.int .u64 (wref U64 vs r)) ∧ w = w' := by
  have hg : vs[r / 2]? = some vs[r / 2] := List.getElem?_eq_getElem (by omega)
  have hx := hlt _ (List.getElem_mem (show r / 2 < vs.length by omega))
  have c0 : w.cell? ⟨nb, r / 2, none⟩ = some (.int .u64 vs[r / 2]) := hk.cell (u64s_get hg)
  have hv : wref U64 vs r = if r % 2 = 1 then U64 ^^^ vs[r / 2] else vs[r / 2] := by unfold wref; rw [List.getD_eq_getElem?_getD, hg]; rfl
  rw [hv]
  generalize vs[r / 2] = x at *
  clear hg hk hlt hv
  by_cases h1 : r % 2 = 1
  · rw [if_pos h1]
    have hbb : ((r : Int) % 2 == 1) = true := by simp; omega
    have hnx := bits_xor_u64_nat U64 x (by decide) (by omega)
    have H1 := Lib.hid h1; clear h1
    have HNX := Lib.hid hnx; clear hnx
    have HN := Lib.hid hn; clear hn
    go_enter Tryz.func308, Tryz.ntmps308
    go_wp2_with fail
    go_ret
    exact ⟨ret_int (by first | exact HNX.out | (rw [show IntKind.u64.max = ((U64 : Nat) : Int) from by decide]; exact HNX.out)), rfl⟩
  · rw [if_neg h1]
    have hbb : ((r : Int) % 2 == 1) = false := by simp; omega
    have H1 := Lib.hid h1; clear h1
    have HN := Lib.hid hn; clear hn
    go_enter Tryz.func308, Tryz.ntmps308
    go_wp2_with fail
    go_ret
    exact ⟨rfl, rfl⟩
theorem fnvsimof1 : Fnv 308 := fnv_of Tryz.func308 (by simp [Tryz.f308]) (by simp [Tryz.f308])
set_option maxRecDepth 100000 in
set_option maxHeartbeats 400000 in
theorem simof_is (a : Option Addr) (n c : Nat) : Calls Tryz.prog 238 #[.slice a n c] w fun e w' => e = .returned (.func (.func 308) #[] #[.pointer (some ⟨w.heap.size, 0, none⟩)]) ∧ w' = w.alloc (.cells #[.slice a n c] 54) := by
  go_enter Tryz.func238, Tryz.ntmps238
  go_wp2_with fail
  go_ret
  exact ⟨rfl, rfl⟩
theorem isAnd_at {G : Gra} (hG : Ok G) {n : Nat} {x : Nd} (hx : G.nodes[n]? = some x) : isAndAt G.nodes ((2 * n : Nat) : Int) = (x.k == 3) := by
  have := (node_tells hG hx).1
  unfold isAndAt
  rw [this]
theorem Sv.ch2 {F : List Nat} {w w' : World} {a : Option Addr} {xs : List Value} (h : Sv w a xs) (hc : Ch F w w') (hF : 0 < xs.length → ∀ p, a = some p → p.block ∉ F) : Sv w' a xs :=
  ⟨fun i x hx => by
    obtain ⟨b, o, rfl, hcell⟩ := h.cells i x hx
    have hlt := (List.getElem?_eq_some_iff.1 hx).1
    exact ⟨b, o, rfl, (hc.cell (p := ⟨b, o + i, none⟩) (cell_lt hcell) (hF (by omega) ⟨b, o, none⟩ rfl)).trans hcell⟩, h.bd⟩
theorem u64s_len (l : List Nat) : (u64s l).length = l.length := by simp [u64s]
theorem set_mid (L : List Nat) (m v : Nat) (hm : 0 < m) : (u64s (L ++ List.replicate m 0)).set L.length (.int .u64 v) = u64s ((L ++ [v]) ++ List.replicate (m - 1) 0) := by
  obtain ⟨k, rfl⟩ : ∃ k, m = k + 1 := ⟨m - 1, by omega⟩
  unfold u64s
  rw [List.map_append, List.set_append_right _ _ (by simp)]
  simp [List.replicate_succ]
theorem set_zero (L : List Nat) (m : Nat) (hm : 0 < m) : u64s (L ++ List.replicate m 0) = u64s ((L ++ [0]) ++ List.replicate (m - 1) 0) := by
  obtain ⟨k, rfl⟩ : ∃ k, m = k + 1 := ⟨m - 1, by omega⟩
  simp [u64s, List.replicate_succ]
set_option maxRecDepth 100000 in
set_option maxHeartbeats 8000000 in
theorem simnodes_is {g : Nat} {G : Gra} {F : List Nat} (h : GIn w g G F) {xa : Option Addr} {ins : List Nat} (xc : Nat) (hS : Sv w xa (u64s ins)) (hi : (inputs G.nodes).length = ins.length) (hlt : ∀ v ∈ ins, v < 2 ^ 64) (hcap : ins.length ≤ xc) (hxc : xc ≤ 9223372036854775807) :
    Calls Tryz.prog 239 #[.pointer (some ⟨g, 0, none⟩), .slice xa ins.length xc] w fun e w' => e = .returned (.slice (some ⟨w.heap.size, 0, none⟩) G.nodes.length G.nodes.length) ∧ blk w' w.heap.size (u64s (wvF U64 ins G.nodes).1) ∧ Ch [] w w' := by
  have hok := h.ok
  have hroom := hok.room
  have hmost := hok.most
  obtain ⟨N, hN⟩ : ∃ N, N = G.nodes.length := ⟨_, rfl⟩
  have hN0 : N ≤ 65536 := by omega
  have hLen := Len_g h
  rw [← hN] at hLen ⊢
  have hE0 : wvF U64 ins (G.nodes.take 0) = ([], ins) := rfl
  have hEn : wvF U64 ins (G.nodes.take N) = wvF U64 ins G.nodes := by rw [List.take_of_length_le (by omega)]
  have hEs : ∀ (k : Nat) (x : Nd), G.nodes[k]? = some x → wvF U64 ins (G.nodes.take (k + 1)) = wvStep U64 (wvF U64 ins (G.nodes.take k)) x := fun k x hx => by
    rw [List.take_add_one, hx]; exact wvF_snoc _ _ _ _
  have hEl : ∀ k, k ≤ N → (wvF U64 ins (G.nodes.take k)).1.length = k := fun k hk => by rw [wvF_len, List.length_take]; omega
  have hEb := fun k => wvF_lt (N := 64) hlt (G.nodes.take k)
  rw [u64_pow] at hEb
  have hE2 : ∀ (k : Nat) (x : Nd), G.nodes[k]? = some x → x.k = 2 → 0 < (wvF U64 ins (G.nodes.take k)).2.length := fun k x hx hk2 => by
    have h1 := (wvF_bits (N := 64) (k := 0) (by omega) ins (G.nodes.take k)).2
    rw [u64_pow] at h1
    rw [h1, nv_count, List.length_drop]
    have hsp := split_at hx
    have h2 : (inputs (G.nodes.take (k + 1))).length = (inputs (G.nodes.take k)).length + 1 := by
      rw [List.take_add_one, hx]
      rw [show (some x).toList = [x] from rfl, inputs_input hk2, List.length_append]; rfl
    have h3 : (inputs (G.nodes.take (k + 1))).length ≤ (inputs G.nodes).length := by
      rw [← nv_count (fun _ => false), ← nv_count (fun _ => false)]
      have : ∀ (ms ns : List Nd), (nv (fun _ => false) ns).2 ≤ (nv (fun _ => false) (ns ++ ms)).2 := by
        intro ms
        induction ms with
        | nil => intro ns; simp
        | cons y ms ih =>
          intro ns
          rw [List.append_cons]
          refine Nat.le_trans ?_ (ih (ns ++ [y]))
          rw [nv_snoc]; unfold nvStep
          (repeat' split) <;> simp
      conv => rhs; rw [← List.take_append_drop (k + 1) G.nodes]
      exact this _ _
    omega
  obtain ⟨E, hE⟩ : ∃ E : Nat → List Nat × List Nat, E = fun k => wvF U64 ins (G.nodes.take k) := ⟨_, rfl⟩
  have hEk : ∀ k, wvF U64 ins (G.nodes.take k) = E k := fun k => by rw [hE]
  simp only [hEk] at hE0 hEn hEs hEl hEb hE2
  rw [← hEn]
  clear hE hEk hEn
  have hmk := run_make_u64s w N (by omega)
  have hnt : ∀ (k : Nat) (x : Nd), G.nodes[k]? = some x → kindOf G.nodes (2 * (k : Int)) = x.k ∧ lOf G.nodes (2 * (k : Int)) = x.l ∧ rOf G.nodes (2 * (k : Int)) = x.r ∧ isAndAt G.nodes (2 * (k : Int)) = (x.k == 3) ∧ x.k ≤ 3 := fun k x hx => by
    obtain ⟨a1, a2, a3, a4⟩ := node_tells hok hx
    have a5 := isAnd_at hok hx
    rw [show ((2 * k : Nat) : Int) = 2 * (k : Int) by omega] at a1 a2 a3 a5
    exact ⟨a1, a2, a3, a5, a4⟩
  have hwf := hok.wf
  have HWF := Lib.hid hwf; clear hwf
  have HNT := Lib.hid hnt; clear hnt
  have H := Lib.hid h; clear h
  have HS := Lib.hid hS; clear hS
  have HE0 := Lib.hid hE0; clear hE0
  have HES := Lib.hid hEs; clear hEs
  have HEL := Lib.hid hEl; clear hEl
  have HEB := Lib.hid hEb; clear hEb
  have HE2 := Lib.hid hE2; clear hE2
  have HN := Lib.hid hN; clear hN hi hlt
  have hcf : ∀ args w, (callFunc 308 args).run Tryz.prog w = .ok (.enter 308 args) w := fnvsimof1
  go_enter Tryz.func239, Tryz.ntmps239
  go_wp2_with fail
  refine hLen.mono ?_
  rintro e w' ⟨rfl, rfl⟩
  go_upto_region 2 with fail
  refine wp_alw ?_
  intro W1 hW1
  have hbo : blk W1 w.heap.size (u64s (List.replicate N 0)) := by rw [hW1]; exact blk.new' _ _ rfl
  have hc1 : Ch [] w W1 := by rw [hW1]; exact (Ch.refl _ _).alloc _
  have hz1 : W1.heap.size = w.heap.size + 1 := by rw [hW1]; simp
  clear hW1 hmk hLen
  have hOf := simof_is (w := W1) (some ⟨w.heap.size, 0, none⟩) N N
  have HOF := Lib.hid hOf; clear hOf
  have HBO := Lib.hid hbo; clear hbo
  have HC1 := Lib.hid hc1; clear hc1
  go_wp2_with fail
  refine HOF.out.mono ?_
  rintro e W2 ⟨rfl, hW2⟩
  have hbx := alw_blk (xs := [.slice (some ⟨w.heap.size, 0, none⟩) N N]) hW2
  have hc2 := HC1.out.trans (alw_ch hW2) (by simp)
  have hbo := HBO.out.ch (alw_ch hW2) (by simp)
  clear hW2 HBO HC1 HOF
  rw [hz1] at hbx
  simp only [hz1]
  clear hz1
  have HBX := Lib.hid hbx; clear hbx
  have HBO := Lib.hid hbo; clear hbo
  have HC2 := Lib.hid hc2; clear hc2
  go_wp2_with fail
  go_loopw [1, 19] (fun u i wr => ∃ (k : Nat) (xk : Option Addr) (ck : Nat), k ≤ N ∧ i = .int .i64 k ∧ u = .slice xk (E k).2.length ck ∧ (E k).2.length ≤ ck ∧ ck ≤ 9223372036854775807 ∧ Sv wr xk (u64s (E k).2) ∧ blk wr w.heap.size (u64s ((E k).1 ++ List.replicate (N - k) 0)) ∧ blk wr (w.heap.size + 1) [.slice (some ⟨w.heap.size, 0, none⟩) N N] ∧ Ch [] w wr ∧ (∀ p, xk = some p → 0 < (E k).2.length → p.block < w.heap.size)) (fun _ i _ => N - (intOf i).toNat)
  case atStart =>
    refine ⟨0, xa, xc, by omega, rfl, by rw [HE0.out], by rw [HE0.out]; exact hcap, hxc, by rw [HE0.out]; exact HS.out.ch HC2.out (by simp), by rw [HE0.out]; exact HBO.out, HBX.out, HC2.out, fun p hp h0 => ?_⟩
    rw [HE0.out] at h0
    obtain ⟨b, o, e, hc⟩ := HS.out.cells 0 _ (List.getElem?_eq_getElem (show 0 < (u64s ins).length by simpa [u64s] using h0))
    rw [hp] at e; cases e
    exact cell_lt hc
  case round =>
    clear HBX HBO HC2
    obtain ⟨k, xk, ck, hk, rfl, rfl, hck, hck2, hsv, hbo, hbx, hc, hlo⟩ := hrel
    by_cases hkn : k < N
    · obtain ⟨x, hx⟩ : ∃ x, G.nodes[k]? = some x := ⟨_, List.getElem?_eq_getElem (by rw [← HN.out]; exact hkn)⟩
      obtain ⟨t1, t2, t3, t4, t5⟩ := HNT.out k x hx
      have hes := HES.out k x hx
      have hel := HEL.out k hk
      have heb := HEB.out k
      have he2 := HE2.out k x hx
      have hsides : x.k = 3 → x.l < 2 * k ∧ x.r < 2 * k := fun e => by have := HWF.out.sides hx e; omega
      have hg := H.out.same hc (by simp)
      have hSd := Sides_g hg (2 * (k : Int)) (by omega)
      rw [t2, t3, t4] at hSd
      generalize hEE : E (k + 1) = EN at hes
      generalize E k = ES at hes hel heb he2 hck hsv hbo hlo ⊢
      obtain ⟨L, I⟩ := ES
      simp only at hel heb he2 hck hsv hbo hlo ⊢
      unfold wvStep at hes
      have HSD := Lib.hid hSd; clear hSd
      have HG := Lib.hid hg; clear hg
      have HSV := Lib.hid hsv; clear hsv
      have HLO := Lib.hid hlo; clear hlo
      have HBO := Lib.hid hbo; clear hbo
      have HBX := Lib.hid hbx; clear hbx
      have HEL' := Lib.hid hel; clear hel
      have HEB' := Lib.hid heb; clear heb
      have HC := Lib.hid hc; clear hc
      by_cases h3 : x.k = 3
      · rw [if_pos h3] at hes
        subst hes
        obtain ⟨hl, hr⟩ := hsides h3
        have h33 : (x.k == 3) = true := by rw [h3]; rfl
        rw [h33] at HSD
        have HEE := Lib.hid hEE; clear hEE
        clear t1 t2 t3 t4 t5 h3 h33 he2 hsides hx
        generalize x.l = a at *
        generalize x.r = b at *
        go_wp2_with fail
        refine HSD.out.mono ?_
        rintro e w3 ⟨rfl, hc3⟩
        have hbo := HBO.out.ch hc3 (by simp)
        have hbx := HBX.out.ch hc3 (by simp)
        have hlen : (L ++ List.replicate (N - k) 0).length = N := by rw [List.length_append, List.length_replicate, HEL'.out]; omega
        have hbd : ∀ v ∈ L ++ List.replicate (N - k) 0, v < 2 ^ 64 := fun v hv => by
          rcases List.mem_append.1 hv with hv | hv
          · exact HEB'.out.1 v hv
          · rw [(List.mem_replicate.1 hv).2]; omega
        have hA := simof1_is (hbx.cell (i := 0) rfl) hbo hlen hbd a (by omega) (by omega)
        have hB := simof1_is (hbx.cell (i := 0) rfl) hbo hlen hbd b (by omega) (by omega)
        rw [wref_ext (by rw [HEL'.out]; exact hl)] at hA
        rw [wref_ext (by rw [HEL'.out]; exact hr)] at hB
        have hwa := wref_lt (N := 64) HEB'.out.1 a
        have hwb := wref_lt (N := 64) HEB'.out.1 b
        rw [u64_pow] at hwa hwb
        have hand := bits_and_u64_nat (wref U64 L a) (wref U64 L b) hwa hwb
        generalize hva : wref U64 L a = va at *
        generalize hvb : wref U64 L b = vb at *
        have f0 := hbo.frozen (i := k)
        obtain ⟨old, c0⟩ : ∃ old, w3.cell? ⟨w.heap.size, k, none⟩ = some old := ⟨_, hbo.cell (List.getElem?_eq_getElem (show k < (u64s (L ++ List.replicate (N - k) 0)).length by rw [u64s_len, hlen]; exact hkn))⟩
        have hlt0 := hbo.lt
        have HA := Lib.hid hA; clear hA
        have HB := Lib.hid hB; clear hB
        have HBO3 := Lib.hid hbo; clear hbo HBO
        have HBX3 := Lib.hid hbx; clear hbx HBX
        have HC3 := Lib.hid (HC.out.trans hc3 (by simp)); clear HC HSD
        have HC13 := Lib.hid hc3; clear hc3
        clear hva hvb hwa hwb hlen hbd
        go_wp2_with fail
        refine HA.out.mono ?_
        rintro e w' ⟨rfl, rfl⟩
        go_wp2_with fail
        refine HB.out.mono ?_
        rintro e w' ⟨rfl, rfl⟩
        go_wp2_with fail
        go_roundw
        case rel =>
          have hcs : Ch [w.heap.size] w3 (w3.setCell ⟨w.heap.size, k, none⟩ (.int .u64 (va &&& vb : Nat))) := (Ch.refl _ _).setCell (.inl (by simp)) _
          have hset := HBO3.out.set (i := k) (.int .u64 (va &&& vb : Nat))
          rw [show k = L.length from HEL'.out.symm, set_mid L (N - L.length) _ (by rw [HEL'.out]; omega), HEL'.out] at hset
          exact ⟨k + 1, xk, ck, by omega, by go_num, by rw [HEE.out], by rw [HEE.out]; exact hck, hck2, by rw [HEE.out]; exact (HSV.out.ch HC13.out (by simp)).ch2 hcs (fun h0 p hp hin => by rw [u64s_len] at h0; have := HLO.out p hp h0; have := List.mem_singleton.1 hin; omega), by rw [HEE.out, show N - (k + 1) = N - k - 1 by omega]; exact hset, HBX3.out.ch hcs (by simp), HC3.out.trans hcs (fun q hq => .inr (by have := List.mem_singleton.1 hq; omega)), fun p hp h0 => HLO.out p hp (by rw [HEE.out] at h0; exact h0)⟩
        case measure => simp [intOf]; omega
      · rw [if_neg h3] at hes
        have h33 : (x.k == 3) = false := by rw [beq_eq_false_iff_ne]; exact h3
        rw [h33] at HSD
        have hKd := fun (W : World) (hW : Ch [] wr W) => Kind_g (HG.out.same hW (by simp)) (2 * (k : Int)) (by omega)
        rw [t1] at hKd
        have HKD := Lib.hid hKd; clear hKd
        by_cases h2 : x.k = 2
        · rw [if_pos h2] at hes
          subst hes
          have hI := he2 h2
          rw [h2] at HKD
          have HEE := Lib.hid hEE; clear hEE
          clear t1 t2 t3 t4 t5 h3 h33 he2 hsides hx h2
          obtain ⟨v0, I', rfl⟩ : ∃ v0 I', I = v0 :: I' := by
            cases I with
            | nil => simp at hI
            | cons a l => exact ⟨a, l, rfl⟩
          obtain ⟨xb, xo, rfl, hcx⟩ := HSV.out.cells 0 (.int .u64 v0) rfl
          have hv0 := HEB'.out.2 v0 (List.mem_cons_self ..)
          have hxlo := HLO.out _ rfl hI
          simp only [List.length_cons] at hck hI
          go_wp2_with fail
          refine HSD.out.mono ?_
          rintro e w3 ⟨rfl, hc3⟩
          have hKd := HKD.out w3 hc3
          have HC13 := Lib.hid hc3; clear hc3 HSD
          have HKD3 := Lib.hid hKd; clear hKd HKD
          go_wp2_with fail
          refine HKD3.out.mono ?_
          rintro e w' ⟨rfl, rfl⟩
          have hbo := HBO.out.ch HC13.out (by simp)
          have hbx := HBX.out.ch HC13.out (by simp)
          have hlen : (L ++ List.replicate (N - k) 0).length = N := by rw [List.length_append, List.length_replicate, HEL'.out]; omega
          have c0 := (HC13.out.cell (cell_lt hcx) (by simp)).trans hcx
          rw [Nat.add_zero] at c0
          have f0 := hbo.frozen (i := k)
          obtain ⟨old, d0⟩ : ∃ old, w3.cell? ⟨w.heap.size, k, none⟩ = some old := ⟨_, hbo.cell (List.getElem?_eq_getElem (show k < (u64s (L ++ List.replicate (N - k) 0)).length by rw [u64s_len, hlen]; exact hkn))⟩
          have hlt0 := hbo.lt
          have HBO3 := Lib.hid hbo; clear hbo HBO
          have HBX3 := Lib.hid hbx; clear hbx HBX
          have HC3 := Lib.hid (HC.out.trans HC13.out (by simp)); clear HC
          clear hlen hcx
          by_cases hc1 : ck = 1
          · subst hc1
            have hI0 : I'.length = 0 := by omega
            obtain rfl : I' = [] := List.eq_nil_of_length_eq_zero hI0
            clear hI0
            go_wp2_with fail
            refine Ord.St.door (fun _ => True) [.fl, .fl, .fl, .fl, .rd, .fl, .fl, .fl, .ef, .fl] [0, 0, 0, 4, 12, 0, 32, 31, 159, 511] [0, 1, 2, 3, 4, 5, 6, 7, 8, 9] mixed (by kernel_rfl) rfl ?_
            refine Ord.St.fl2 (T' := ?_) 0 [1, 2, 3, 4, 5, 6, 7, 8, 9] _ _ rfl (by kernel_rfl) rfl rfl rfl rfl (fun K w' hk => ?_) ?_
            rotate_left
            · go_step; exact hk
            refine Ord.St.fl2 (T' := ?_) 1 [2, 3, 4, 5, 6, 7, 8, 9] _ _ rfl (by kernel_rfl) rfl rfl rfl rfl (fun K w' hk => ?_) ?_
            rotate_left
            · go_step; exact hk
            refine Ord.St.fl2 (T' := ?_) 2 [3, 4, 5, 6, 7, 8, 9] _ _ rfl (by kernel_rfl) rfl rfl rfl rfl (fun K w' hk => ?_) ?_
            rotate_left
            · go_step; exact hk
            refine Ord.St.fl2 (T' := ?_) 3 [4, 5, 6, 7, 8, 9] _ _ rfl (by kernel_rfl) rfl rfl rfl rfl (fun K w' hk => ?_) ?_
            rotate_left
            · go_step; exact hk
            refine Ord.St.rd2 (T' := ?_) 4 [5, 6, 7, 8, 9] _ _ rfl (by kernel_rfl) rfl rfl rfl rfl (fun K hk => ?_) ?_
            rotate_left
            · go_step; exact hk
            refine Ord.St.fl2 (T' := ?_) 5 [6, 7, 8, 9] _ _ rfl (by kernel_rfl) rfl rfl rfl rfl (fun K w' hk => ?_) ?_
            rotate_left
            · go_step; exact hk
            refine Ord.St.fl2 (T' := ?_) 6 [7, 8, 9] _ _ rfl (by kernel_rfl) rfl rfl rfl rfl (fun K w' hk => ?_) ?_
            rotate_left
            · go_step; exact hk
            refine Ord.St.fl2 (T' := ?_) 7 [8, 9] _ _ rfl (by kernel_rfl) rfl rfl rfl rfl (fun K w' hk => ?_) ?_
            rotate_left
            · go_step; exact hk
            refine Ord.St.ef 8 [9] _ rfl (by kernel_rfl) (fun K hK => ?_)
            go_wp2_with fail
            refine ⟨rfl, hK _ _ ?_⟩; clear hK K
            refine Ord.St.fl2 (T' := ?_) 9 [] _ _ rfl (by kernel_rfl) rfl rfl rfl rfl (fun K w' hk => ?_) ?_
            rotate_left
            · go_step; exact hk
            refine Ord.St.nil ?_
            go_wp2_with fail
            go_roundw
            case rel =>
              have hcd : Ch [] w3 w3.drew := (Ch.refl [] w3).drew
              have hcs : Ch [w.heap.size] w3.drew (w3.drew.setCell ⟨w.heap.size, k, none⟩ (.int .u64 v0)) := (Ch.refl _ _).setCell (.inl (by simp)) _
              have hset := (HBO3.out.ch hcd (by simp)).set (i := k) (.int .u64 v0)
              rw [show k = L.length from HEL'.out.symm, set_mid L (N - L.length) _ (by rw [HEL'.out]; omega), HEL'.out] at hset
              have hsv := ((HSV.out.ch HC13.out (by simp)).ch hcd (by simp)).ch2 hcs (fun _ p hp hin => by cases hp; have := List.mem_singleton.1 hin; simp only at hxlo this; omega)
              have hsv2 : Sv (w3.drew.setCell ⟨w.heap.size, k, none⟩ (.int .u64 v0)) (some ⟨xb, xo, none⟩) (u64s []) := ⟨by simp [u64s], by simp [u64s]⟩
              exact ⟨k + 1, some ⟨xb, xo, none⟩, 0, by omega, by go_num, by rw [HEE.out]; rfl, by rw [HEE.out]; show ([] : List Nat).length ≤ 0; simp, by omega, by rw [HEE.out]; exact hsv2, by rw [HEE.out, show N - (k + 1) = N - k - 1 by omega]; exact hset, (HBX3.out.ch hcd (by simp)).ch hcs (by simp), (HC3.out.trans hcd (by simp)).trans hcs (fun q hq => .inr (by have := List.mem_singleton.1 hq; omega)), fun p hp h0 => by rw [HEE.out] at h0; simp at h0⟩
            case measure => simp [intOf]; omega
          · have hck1 : 1 < ck := by omega
            have hcki : (ck : Int) - 1 = ((ck - 1 : Nat) : Int) := by omega
            go_wp2_with fail
            refine Ord.St.door (fun _ => True) [.fl, .fl, .fl, .fl, .rd, .fl, .fl, .fl, .ef, .fl] [0, 0, 0, 4, 12, 0, 32, 31, 159, 511] [0, 1, 2, 3, 4, 5, 6, 7, 8, 9] mixed (by kernel_rfl) rfl ?_
            refine Ord.St.fl2 (T' := ?_) 0 [1, 2, 3, 4, 5, 6, 7, 8, 9] _ _ rfl (by kernel_rfl) rfl rfl rfl rfl (fun K w' hk => ?_) ?_
            rotate_left
            · go_step; exact hk
            refine Ord.St.fl2 (T' := ?_) 1 [2, 3, 4, 5, 6, 7, 8, 9] _ _ rfl (by kernel_rfl) rfl rfl rfl rfl (fun K w' hk => ?_) ?_
            rotate_left
            · go_step; exact hk
            refine Ord.St.fl2 (T' := ?_) 2 [3, 4, 5, 6, 7, 8, 9] _ _ rfl (by kernel_rfl) rfl rfl rfl rfl (fun K w' hk => ?_) ?_
            rotate_left
            · go_step; exact hk
            refine Ord.St.fl2 (T' := ?_) 3 [4, 5, 6, 7, 8, 9] _ _ rfl (by kernel_rfl) rfl rfl rfl rfl (fun K w' hk => ?_) ?_
            rotate_left
            · go_step; exact hk
            refine Ord.St.rd2 (T' := ?_) 4 [5, 6, 7, 8, 9] _ _ rfl (by kernel_rfl) rfl rfl rfl rfl (fun K hk => ?_) ?_
            rotate_left
            · go_step; exact hk
            refine Ord.St.fl2 (T' := ?_) 5 [6, 7, 8, 9] _ _ rfl (by kernel_rfl) rfl rfl rfl rfl (fun K w' hk => ?_) ?_
            rotate_left
            · go_step; exact hk
            refine Ord.St.fl2 (T' := ?_) 6 [7, 8, 9] _ _ rfl (by kernel_rfl) rfl rfl rfl rfl (fun K w' hk => ?_) ?_
            rotate_left
            · go_step; exact hk
            refine Ord.St.fl2 (T' := ?_) 7 [8, 9] _ _ rfl (by kernel_rfl) rfl rfl rfl rfl (fun K w' hk => ?_) ?_
            rotate_left
            · go_step; exact hk
            refine Ord.St.ef 8 [9] _ rfl (by kernel_rfl) (fun K hK => ?_)
            go_wp2_with fail
            refine ⟨rfl, hK _ _ ?_⟩; clear hK K
            refine Ord.St.fl2 (T' := ?_) 9 [] _ _ rfl (by kernel_rfl) rfl rfl rfl rfl (fun K w' hk => ?_) ?_
            rotate_left
            · go_step; exact hk
            refine Ord.St.nil ?_
            go_wp2_with fail
            go_roundw
            case rel =>
              have hcd : Ch [] w3 w3.drew := (Ch.refl [] w3).drew
              have hcs : Ch [w.heap.size] w3.drew (w3.drew.setCell ⟨w.heap.size, k, none⟩ (.int .u64 v0)) := (Ch.refl _ _).setCell (.inl (by simp)) _
              have hset := (HBO3.out.ch hcd (by simp)).set (i := k) (.int .u64 v0)
              rw [show k = L.length from HEL'.out.symm, set_mid L (N - L.length) _ (by rw [HEL'.out]; omega), HEL'.out] at hset
              have hsv := ((HSV.out.ch HC13.out (by simp)).ch hcd (by simp)).ch2 hcs (fun _ p hp hin => by cases hp; have := List.mem_singleton.1 hin; simp only at hxlo this; omega)
              have hsv2 : Sv (w3.drew.setCell ⟨w.heap.size, k, none⟩ (.int .u64 v0)) (some ⟨xb, xo + 1, none⟩) (u64s I') := ⟨fun i x hx => by
                obtain ⟨b9, o9, e9, hc9⟩ := hsv.cells (i + 1) x (by simpa [u64s] using hx)
                cases e9
                exact ⟨_, _, rfl, by rw [show xo + 1 + i = xo + (i + 1) by omega]; exact hc9⟩, by have := hsv.bd; simp [u64s] at this ⊢; omega⟩
              exact ⟨k + 1, some ⟨xb, xo + 1, none⟩, ck - 1, by omega, by go_num, by rw [HEE.out]; rfl, by rw [HEE.out]; show I'.length ≤ _; omega, by omega, by rw [HEE.out]; exact hsv2, by rw [HEE.out, show N - (k + 1) = N - k - 1 by omega]; exact hset, (HBX3.out.ch hcd (by simp)).ch hcs (by simp), (HC3.out.trans hcd (by simp)).trans hcs (fun q hq => .inr (by have := List.mem_singleton.1 hq; omega)), fun p hp h0 => by cases hp; exact hxlo⟩
            case measure => simp [intOf]; omega
        · rw [if_neg h2] at hes
          subst hes
          have h22 : ((x.k : Int) == 2) = false := by rw [beq_eq_false_iff_ne]; omega
          have HEE := Lib.hid hEE; clear hEE
          clear t1 t2 t3 t4 h3 h33 he2 hsides hx h2
          generalize x.k = xkk at *
          go_wp2_with fail
          refine HSD.out.mono ?_
          rintro e w3 ⟨rfl, hc3⟩
          have hKd := HKD.out w3 hc3
          have HC13 := Lib.hid hc3; clear hc3 HSD
          have HKD3 := Lib.hid hKd; clear hKd HKD
          go_wp2_with fail
          refine HKD3.out.mono ?_
          rintro e w' ⟨rfl, rfl⟩
          go_wp2_with fail
          go_roundw
          case rel =>
            have hset := HBO.out.ch HC13.out (by simp)
            rw [show N - k = N - L.length by rw [HEL'.out], set_zero L (N - L.length) (by rw [HEL'.out]; omega), HEL'.out] at hset
            exact ⟨k + 1, xk, ck, by omega, by go_num, by rw [HEE.out], by rw [HEE.out]; exact hck, hck2, by rw [HEE.out]; exact HSV.out.ch HC13.out (by simp), by rw [HEE.out, show N - (k + 1) = N - k - 1 by omega]; exact hset, HBX.out.ch HC13.out (by simp), HC.out.trans HC13.out (by simp), fun p hp h0 => HLO.out p hp (by rw [HEE.out] at h0; exact h0)⟩
          case measure => simp [intOf]; omega
    · have hkN : k = N := by omega
      have hbo2 : blk wr w.heap.size (u64s (E N).1) := by
        have := hbo
        rw [hkN, Nat.sub_self, List.replicate_zero, List.append_nil] at this
        exact this
      have HBO2 := Lib.hid hbo2; clear hbo2 hbo hbx hsv hlo
      have HC := Lib.hid hc; clear hc
      go_wp2_with fail
      go_ret
      exact ⟨rfl, HBO2.out, HC.out⟩
end
end Go.Proofs.YtehljgigebhddaaGreat
namespace Go.Aig
/-- what a word of references is, for words of the inputs -/
def wsOf (ins : List Nat) (ns : List Nd) (l : List Nat) : List Nat := l.map (wref 18446744073709551615 (wvF 18446744073709551615 ins ns).1)
/-- what a word of references is, for an assignment -/
def bsOf (ins : List Bool) (ns : List Nd) (l : List Nat) : List Bool := l.map (bv (fun i => ins.getD i false) ns)
def wOf (l : List Bool) : List Nat := l.map fun b => if b then 1 else 0
theorem wOf_bit (l : List Bool) : (fun i => ((wOf l).getD i 0).testBit 0) = fun i => l.getD i false := by
  funext i
  unfold wOf
  rw [List.getD_eq_getElem?_getD, List.getD_eq_getElem?_getD, List.getElem?_map]
  cases l[i]? with
  | none => rfl
  | some b => cases b <;> rfl
theorem wsOf_bits (ins : List Bool) (ns : List Nd) (l : List Nat) : (wsOf (wOf ins) ns l).map (fun v => v.testBit 0) = bsOf ins ns l := by
  unfold wsOf bsOf
  rw [List.map_map]
  apply List.map_congr_left
  intro r _
  have := wv_bv (N := 64) (k := 0) (by omega) (wOf ins) ns r
  rw [wOf_bit] at this
  exact this
theorem wOf_lt (l : List Bool) : ∀ v ∈ wOf l, v < 2 ^ 64 := fun v hv => by
  obtain ⟨b, _, rfl⟩ := List.mem_map.1 hv
  cases b <;> decide
theorem wsOf_lt {ins : List Nat} (h : ∀ v ∈ ins, v < 2 ^ 64) (ns : List Nd) (l : List Nat) : ∀ v ∈ wsOf ins ns l, v < 2 ^ 64 := fun v hv => by
  obtain ⟨r, _, rfl⟩ := List.mem_map.1 hv
  exact wref_lt (N := 64) (wvF_lt (N := 64) h ns).1 r
end Go.Aig
namespace Go.Proofs.YtehljgigebhddaaGreat
open Go.RowKit Go.Mem Go.Aig
section
variable {w : World} {g : Nat} {G : Gra} {F : List Nat}
theorem fnvsimcheck1 : Fnv 307 := fnv_of Tryz.func307 (by simp [Tryz.f307]) (by simp [Tryz.f307])
set_option maxRecDepth 100000 in
set_option maxHeartbeats 1000000 in
theorem simcheck1_is (h : GIn w g G F) {bx : Nat} (hb : w.cell? ⟨bx, 0, none⟩ = some (.pointer (some ⟨g, 0, none⟩))) (r : Int) (hr : r ≤ 9223372036854775807) :
    Calls Tryz.prog 307 (#[.int .i64 r] ++ #[.pointer (some ⟨bx, 0, none⟩)]) w fun e w' => e = .returned (.bool (!right G.nodes r)) ∧ w = w' := by
  show Calls Tryz.prog 307 #[.int .i64 r, .pointer (some ⟨bx, 0, none⟩)] w _
  have HR := Right_g h r hr
  clear h
  generalize right G.nodes r = q at *
  go_enter Tryz.func307, Tryz.ntmps307
  go_wp2_with fail
  refine HR.mono ?_
  rintro e w' ⟨rfl, rfl⟩
  go_wp2_with fail
  go_ret
  exact ⟨ret_bool rfl, rfl⟩
set_option maxRecDepth 100000 in
set_option maxHeartbeats 2000000 in
theorem simcheck_is (h : GIn w g G F) {a : Option Addr} {l : List Int} (n c : Nat) (hn : l.length = n) (hS : Sl w a l) (hbd : ∀ r ∈ l, r ≤ 9223372036854775807) :
    Calls Tryz.prog 237 #[.pointer (some ⟨g, 0, none⟩), .slice a n c] w fun e w' => e = .returned (.int .i64 (if badIn G l then 200 else 0 : Nat)) ∧ Ch [] w w' := by
  subst hn
  have hpos := h.ok.wf.pos
  have hp0 : ((G.nodes.length : Int) == 0) = false := beqN (by omega)
  have hC : ∀ W, W = w.alloc (.cells #[.pointer (some ⟨g, 0, none⟩)] 42) → Calls Tryz.prog 40 #[.slice a l.length c, .func (.func 307) #[] #[.pointer (some ⟨w.heap.size, 0, none⟩)]] W fun e w' => e = .returned (.bool (badIn G l)) ∧ W = w' := fun W hW => by
    have hc := alw_ch hW
    have hb := alw_blk (xs := [.pointer (some ⟨g, 0, none⟩)]) hW
    exact CFref_is c 307 #[.pointer (some ⟨w.heap.size, 0, none⟩)] (fun r => !right G.nodes r) (hS.ch hc (by simp)) (fun r hr => simcheck1_is (h.same hc (by simp)) (hb.cell (i := 0) rfl) r (hbd r hr)) fnvsimcheck1
  have hL : ∀ W, W = w.alloc (.cells #[.pointer (some ⟨g, 0, none⟩)] 42) → Calls Tryz.prog 49 #[.pointer (some ⟨g, 0, none⟩)] W fun e w' => e = .returned (.int .i64 G.nodes.length) ∧ W = w' := fun W hW => Len_g (h.same (alw_ch hW) (by simp))
  have hw : w.cell? ⟨w.heap.size, 0, none⟩ = none := by simp [World.cell?]
  have HC := Lib.hid hC; clear hC
  have HL := Lib.hid hL; clear hL hw
  clear h hS hbd
  cases hq : badIn G l
  · rw [hq] at HC
    have HQ := Lib.hid hq; clear hq
    go_enter Tryz.func237, Tryz.ntmps237
    go_wp2_with fail
    refine (HL.out _ rfl).mono ?_
    rintro e w' ⟨rfl, rfl⟩
    go_wp2_with fail
    refine (HC.out _ rfl).mono ?_
    rintro e w' ⟨rfl, rfl⟩
    go_wp2_with fail
    go_ret
    exact ⟨rfl, (Ch.refl _ _).alloc _⟩
  · rw [hq] at HC
    have HQ := Lib.hid hq; clear hq
    go_enter Tryz.func237, Tryz.ntmps237
    go_wp2_with fail
    refine (HL.out _ rfl).mono ?_
    rintro e w' ⟨rfl, rfl⟩
    go_wp2_with fail
    refine (HC.out _ rfl).mono ?_
    rintro e w' ⟨rfl, rfl⟩
    go_wp2_with fail
    go_ret
    exact ⟨rfl, (Ch.refl _ _).alloc _⟩
/-- what Words returns -/
def wordsR (G : Gra) (ins : List Nat) (l : List Int) : List Nat × Nat := if badIn G l then ([], 200) else if ins.length ≠ (inputs G.nodes).length then ([], 210) else (wsOf ins G.nodes (nats l), 0)
/-- a new slice of words -/
def UNew (w : World) (v : Value) (l : List Nat) (w' : World) : Prop := row w' 64 1 v l.length (u64s l) ∧ (∀ q ∈ v.ownBlock.toList, w.heap.size ≤ q) ∧ Ch [] w w'
set_option maxRecDepth 100000 in
set_option maxHeartbeats 8000000 in
theorem simWords_is (h : GIn w g G F) {xa : Option Addr} {ins : List Nat} (xc : Nat) (hS : Sv w xa (u64s ins)) (hlt : ∀ v ∈ ins, v < 2 ^ 64) (hcap : ins.length ≤ xc) (hxc : xc ≤ 9223372036854775807) {a : Option Addr} {l : List Int} (c : Nat) (hL : Sl w a l) (hbd : ∀ r ∈ l, -9223372036854775808 ≤ r ∧ r ≤ 9223372036854775807) (hll : l.length ≤ 100000) :
    Calls Tryz.prog 138 #[.pointer (some ⟨g, 0, none⟩), .slice xa ins.length xc, .slice a l.length c] w fun e w' => ∃ v, e = .returned (.tuple #[v, .int .i64 (wordsR G ins l).2]) ∧ UNew w v (wordsR G ins l).1 w' := by
  have hpos := h.ok.wf.pos
  have hroom := h.ok.room
  have hmost := h.ok.most
  have hCk := simcheck_is h l.length c rfl hL (fun r hr => (hbd r hr).2)
  have hIn := fun (W : World) (hW : Ch [] w W) => Inputs_g (h.same hW (by simp))
  by_cases hb : badIn G l = true
  · have hR : wordsR G ins l = ([], 200) := by unfold wordsR; rw [if_pos hb]
    rw [hR]
    rw [if_pos hb] at hCk
    have HCK := Lib.hid hCk; clear hCk h hS hlt hL hbd hIn hb hR
    go_enter Tryz.func138, Tryz.ntmps138
    go_wp2_with fail
    refine HCK.out.mono ?_
    rintro e w1 ⟨rfl, hc1⟩
    have HC1 := Lib.hid hc1; clear hc1
    go_wp2_with fail
    go_ret2
    exact ⟨_, rfl, ⟨rfl, .inl ⟨rfl, rfl⟩⟩, by simp, HC1.out⟩
  · have hb2 : badIn G l = false := by simpa using hb
    rw [if_neg hb] at hCk
    obtain ⟨hnat, hnlt⟩ := badIn_no hb2
    by_cases hi : ins.length = (inputs G.nodes).length
    · have hR : wordsR G ins l = (wsOf ins G.nodes (nats l), 0) := by unfold wordsR; rw [if_neg hb, if_neg (by simp [hi])]
      rw [hR]
      have hNd := fun (W : World) (hW : Ch [] w W) => simnodes_is (h.same hW (by simp)) xc (hS.ch hW (by simp)) hi.symm hlt hcap hxc
      have hvl := wvF_len U64 ins G.nodes
      have hvb := (wvF_lt (N := 64) hlt G.nodes).1
      rw [u64_pow] at hvb
      unfold wsOf
      generalize hV : (wvF U64 ins G.nodes).1 = V at *
      clear hV
      have hie : ((ins.length : Int) != (inputs G.nodes).length) = false := by simp [hi]
      have HCK := Lib.hid hCk; clear hCk
      have HIN := Lib.hid hIn; clear hIn
      have HND := Lib.hid hNd; clear hNd
      have HVL := Lib.hid hvl; clear hvl
      have HVB := Lib.hid hvb; clear hvb
      have HL := Lib.hid hL; clear hL
      have HNL := Lib.hid hnlt; clear hnlt
      have HNT := Lib.hid hnat; clear hnat
      clear h hS hlt hbd hb hb2 hR hi
      generalize (inputs G.nodes).length = ni at *
      have hcf : ∀ args w, (callFunc 308 args).run Tryz.prog w = .ok (.enter 308 args) w := fnvsimof1
      go_enter Tryz.func138, Tryz.ntmps138
      go_wp2_with fail
      refine HCK.out.mono ?_
      rintro e w1 ⟨rfl, hc1⟩
      have hI1 := HIN.out w1 hc1
      have HI1 := Lib.hid hI1; clear hI1 HIN
      have HC1 := Lib.hid hc1; clear hc1
      go_wp2_with fail
      refine HI1.out.mono ?_
      rintro e w2 ⟨v, rfl, hro, _, hc2⟩
      obtain ⟨ia, ic, rfl⟩ := row.shape hro
      have hc12 := HC1.out.trans hc2 (by simp)
      have hN2 := HND.out w2 hc12
      have HN2 := Lib.hid hN2; clear hN2 HND hro hc2
      have HC2 := Lib.hid hc12; clear hc12 HI1 HC1
      go_wp2_with fail
      refine HN2.out.mono ?_
      rintro e w3 ⟨rfl, hbo, hc3⟩
      have hc13 := HC2.out.trans hc3 (by simp)
      have hz23 := HC2.out.size
      clear HN2
      generalize w2.heap.size = ob at *
      have hOf := simof_is (w := w3) (some ⟨ob, 0, none⟩) G.nodes.length G.nodes.length
      have HOF := Lib.hid hOf; clear hOf
      have HBO := Lib.hid hbo; clear hbo
      have HC3 := Lib.hid hc13; clear hc13 hc3 HC2
      go_wp2_with fail
      refine HOF.out.mono ?_
      rintro e w4 ⟨rfl, hw4⟩
      have hbx := alw_blk (xs := [.slice (some ⟨ob, 0, none⟩) G.nodes.length G.nodes.length]) hw4
      have hbo := HBO.out.ch (alw_ch hw4) (by simp)
      have hc4 := HC3.out.trans (alw_ch hw4) (by simp)
      have hz34 := HC3.out.size
      clear hw4 HOF HBO HC3
      generalize w3.heap.size = bx at *
      have HBX := Lib.hid hbx; clear hbx
      have HBO := Lib.hid hbo; clear hbo
      have HC4 := Lib.hid hc4; clear hc4
      go_wp2_with fail
      go_loopw [10, 31] (fun o i wr => ∃ k : Nat, k ≤ l.length ∧ i = .int .i64 k ∧ Ch [] w4 wr ∧ row wr 64 1 o k (u64s (((nats l).take k).map (wref U64 V))) ∧ ∀ q ∈ o.ownBlock.toList, w4.heap.size ≤ q) (fun _ i _ => l.length - (intOf i).toNat)
      case atStart => exact ⟨0, by omega, rfl, Ch.refl _ _, ⟨rfl, .inl ⟨rfl, rfl⟩⟩, by simp⟩
      case round =>
        obtain ⟨k, hk, rfl, hc, hrow, hlo⟩ := hrel
        obtain ⟨oa, oc, rfl⟩ := row.shape hrow
        by_cases hlt : k < l.length
        · obtain ⟨x, hx⟩ : ∃ x, (nats l)[k]? = some x := ⟨_, List.getElem?_eq_getElem (by rw [nats_len]; exact hlt)⟩
          have hxl := HNL.out x (List.mem_of_getElem? hx)
          have hlx : l[k]? = some (x : Int) := by rw [← HNT.out, List.getElem?_map, hx]; rfl
          obtain ⟨xb, xo, rfl, hcl⟩ := HL.out.cells k x hlx
          have c0 := ((HC4.out.trans hc (by simp)).cell (cell_lt hcl) (by simp)).trans hcl
          have hW := simof1_is ((HBX.out.ch hc (by simp)).cell (i := 0) rfl) (HBO.out.ch hc (by simp)) HVL.out HVB.out x hxl (by omega)
          have hsu : u64s (((nats l).take (k + 1)).map (wref U64 V)) = u64s (((nats l).take k).map (wref U64 V)) ++ [.int .u64 (wref U64 V x)] := by rw [List.take_add_one, hx]; simp [u64s]
          generalize wref U64 V x = vx at hW hsu
          have hcA : Ch [] wr (wr.alloc (.cells #[.int .u64 vx] 64)) := (Ch.refl _ _).alloc _
          have hrA := hrow.ch hcA (by simp)
          have hbA : blk (wr.alloc (.cells #[.int .u64 vx] 64)) wr.heap.size [.int .u64 vx] := blk.new' _ _ rfl
          have HW := Lib.hid hW; clear hW
          have HSU := Lib.hid hsu; clear hsu
          have HRA := Lib.hid hrA; clear hrA hrow
          have HBA := Lib.hid hbA; clear hbA
          have HCA := Lib.hid hcA; clear hcA
          have HCP := Lib.hid hc; clear hc
          have HLO := Lib.hid hlo; clear hlo hcl hlx hx
          go_wp2_with fail
          refine HW.out.mono ?_
          rintro e w' ⟨rfl, rfl⟩
          go_wp2_with (at_builtin; go_loud (refine wpList_append_row slU64s rfl _ _ rfl (v := .slice oa k oc) (n := k) (xs := u64s (((nats l).take k).map (wref U64 V))) rfl HRA.out (ad := ⟨wr.heap.size, 0, none⟩) (m := 1) (c := 1) (news := [.int .u64 vx]) rfl rfl (news_blk HBA.out) (by simp [Value.oneCell']) (by omega) (by omega) ?_; intro v' w5 hown4 hC4 hf4; have HO4 := Lib.hid hown4; clear hown4; have HCC4 := Lib.hid hC4; clear hC4; have HF4 := Lib.hid hf4; clear hf4))
          go_roundw
          case rel =>
            obtain ⟨q1, q2⟩ := app_step HCP.out HCA.out HLO.out HCC4.out HF4.out
            refine ⟨k + 1, by omega, by go_num, q1, ?_, q2⟩
            rw [HSU.out]; exact HO4.out
          case measure => simp [intOf]; omega
        · have hkn : k = l.length := by omega
          have hall : (nats l).take k = nats l := List.take_of_length_le (by rw [nats_len]; omega)
          rw [hall] at hrow
          rw [hkn] at hrow hlo
          rw [hkn]
          have HROW := Lib.hid hrow; clear hrow
          have HLO := Lib.hid hlo; clear hlo
          have HCP := Lib.hid hc; clear hc hall hkn
          go_wp2_with fail
          go_ret2
          refine ⟨.slice oa l.length oc, rfl, ?_, fun q hq => Nat.le_trans HC4.out.size (HLO.out q hq), HC4.out.trans HCP.out (by simp)⟩
          have := HROW.out
          simpa using this
    · have hR : wordsR G ins l = ([], 210) := by unfold wordsR; rw [if_neg hb, if_pos hi]
      rw [hR]
      have hie : ((ins.length : Int) != (inputs G.nodes).length) = true := by simp; omega
      have HCK := Lib.hid hCk; clear hCk
      have HIN := Lib.hid hIn; clear hIn
      clear h hS hlt hL hbd hb hb2 hR hi hnat hnlt
      generalize (inputs G.nodes).length = ni at *
      go_enter Tryz.func138, Tryz.ntmps138
      go_wp2_with fail
      refine HCK.out.mono ?_
      rintro e w1 ⟨rfl, hc1⟩
      have hI1 := HIN.out w1 hc1
      have HI1 := Lib.hid hI1; clear hI1 HIN
      have HC1 := Lib.hid hc1; clear hc1
      go_wp2_with fail
      refine HI1.out.mono ?_
      rintro e w2 ⟨v, rfl, hro, _, hc2⟩
      obtain ⟨ia, ic, rfl⟩ := row.shape hro
      have HC2 := Lib.hid (HC1.out.trans hc2 (by simp)); clear hc2 HI1 HC1 hro
      go_wp2_with fail
      go_ret2
      exact ⟨_, rfl, ⟨rfl, .inl ⟨rfl, rfl⟩⟩, by simp, HC2.out⟩
end
end Go.Proofs.YtehljgigebhddaaGreat
namespace Go.Proofs.YtehljgigebhddaaGreat
open Go.RowKit Go.Mem Go.Aig
theorem row.capLe' {w : World} {e : TypeId} {size : Nat} {a : Option Addr} {n c m : Nat} {xs : List Value} (h : row w e size (.slice a n c) m xs) : m ≤ c ∧ c ≤ 9223372036854775807 := by
  rcases h.2 with ⟨e1, h0⟩ | ⟨g', cap', cur, e1, _, _, h1, h2, _⟩
  · cases e1; omega
  · cases e1; exact ⟨h1, by unfold maxLen at h2; exact h2⟩
/-- what Bits returns -/
def bitsR (G : Gra) (ins : List Bool) (l : List Int) : List Bool × Nat := if badIn G l then ([], 200) else if ins.length ≠ (inputs G.nodes).length then ([], 210) else (bsOf ins G.nodes (nats l), 0)
theorem wOf_len (l : List Bool) : (wOf l).length = l.length := by simp [wOf]
theorem bitsR_words (G : Gra) (ins : List Bool) (l : List Int) : bitsR G ins l = ((wordsR G (wOf ins) l).1.map (fun v => v.testBit 0), (wordsR G (wOf ins) l).2) := by
  unfold bitsR wordsR
  rw [wOf_len]
  split
  · rfl
  · split
    · rfl
    · rw [wsOf_bits]
/-- a new slice of truths -/
def BNew (w : World) (v : Value) (l : List Bool) (w' : World) : Prop := row w' 4 1 v l.length (bools l) ∧ (∀ q ∈ v.ownBlock.toList, w.heap.size ≤ q) ∧ Ch [] w w'
section
variable {w : World} {g : Nat} {G : Gra} {F : List Nat}
set_option maxRecDepth 100000 in
set_option maxHeartbeats 8000000 in
theorem simBits_is (h : GIn w g G F) {xa : Option Addr} {ins : List Bool} (n xc : Nat) (hn : ins.length = n) (hS : Sb w xa ins) (hnl : n ≤ 100000) {a : Option Addr} {l : List Int} (m c : Nat) (hm : l.length = m) (hL : Sl w a l) (hbd : ∀ r ∈ l, -9223372036854775808 ≤ r ∧ r ≤ 9223372036854775807) (hll : m ≤ 100000) :
    Calls Tryz.prog 31 #[.pointer (some ⟨g, 0, none⟩), .slice xa n xc, .slice a m c] w fun e w' => ∃ v, e = .returned (.tuple #[v, .int .i64 (bitsR G ins l).2]) ∧ BNew w v (bitsR G ins l).1 w' := by
  subst hn hm
  have hW := fun (W : World) (hW : Ch [] w W) (wa : Option Addr) (wc : Nat) (hwa : row W 64 1 (.slice wa ins.length wc) ins.length (u64s (wOf ins))) => simWords_is (h.same hW (by simp)) (ins := wOf ins) (xa := wa) wc (row.sv hwa rfl (by omega)) (wOf_lt ins) (by rw [wOf_len]; exact (row.capLe' hwa).1) (row.capLe' hwa).2 c (hL.ch hW (by simp)) hbd hll
  simp only [wOf_len] at hW
  rw [bitsR_words]
  have hwl : (wordsR G (wOf ins) l).1.length ≤ l.length := by
    unfold wordsR
    split
    · simp
    · split
      · simp
      · simp [wsOf]
  have hwb : ∀ v ∈ (wordsR G (wOf ins) l).1, v < 2 ^ 64 := by
    unfold wordsR
    split
    · simp
    · split
      · simp
      · exact wsOf_lt (wOf_lt ins) _ _
  generalize wordsR G (wOf ins) l = R at *
  obtain ⟨ws, e0⟩ := R
  simp only at hwl hwb hW ⊢
  have HW := Lib.hid hW; clear hW
  have HS := Lib.hid hS; clear hS h hL hbd
  have HWB := Lib.hid hwb; clear hwb
  go_enter Tryz.func31, Tryz.ntmps31
  go_wp2_with fail
  go_loopw [8, 19] (fun o i wr => ∃ k : Nat, k ≤ ins.length ∧ i = .int .i64 k ∧ Ch [] w wr ∧ row wr 64 1 o k (u64s (wOf (ins.take k))) ∧ ∀ q ∈ o.ownBlock.toList, w.heap.size ≤ q) (fun _ i _ => ins.length - (intOf i).toNat)
  case atStart => exact ⟨0, by omega, rfl, Ch.refl _ _, ⟨rfl, .inl ⟨rfl, rfl⟩⟩, by simp⟩
  case round =>
    obtain ⟨k, hk, rfl, hc, hrow, hlo⟩ := hrel
    obtain ⟨oa, oc, rfl⟩ := row.shape hrow
    by_cases hlt : k < ins.length
    · obtain ⟨x, hx⟩ : ∃ x, ins[k]? = some x := ⟨_, List.getElem?_eq_getElem hlt⟩
      obtain ⟨xb, xo, rfl, hcl⟩ := HS.out.cells k (.bool x) (by simp [hx])
      have c0 := (hc.cell (cell_lt hcl) (by simp)).trans hcl
      cases x
      · have hsu : u64s (wOf (ins.take (k + 1))) = u64s (wOf (ins.take k)) ++ [.int .u64 0] := by rw [List.take_add_one, hx]; simp [u64s, wOf]
        have hcA : Ch [] wr (wr.alloc (.cells #[.int .u64 0] 64)) := (Ch.refl _ _).alloc _
        have hrA := hrow.ch hcA (by simp)
        have hbA : blk (wr.alloc (.cells #[.int .u64 0] 64)) wr.heap.size [.int .u64 0] := blk.new' _ _ rfl
        have HSU := Lib.hid hsu; clear hsu
        have HRA := Lib.hid hrA; clear hrA hrow
        have HBA := Lib.hid hbA; clear hbA
        have HCA := Lib.hid hcA; clear hcA
        have HCP := Lib.hid hc; clear hc
        have HLO := Lib.hid hlo; clear hlo hcl hx
        go_wp2_with (at_builtin; go_loud (refine wpList_append_row slU64s rfl _ _ rfl (v := .slice oa k oc) (n := k) (xs := u64s (wOf (ins.take k))) rfl HRA.out (ad := ⟨wr.heap.size, 0, none⟩) (m := 1) (c := 1) (news := [.int .u64 0]) rfl rfl (news_blk HBA.out) (by simp [Value.oneCell']) (by omega) (by omega) ?_; intro v' w5 hown4 hC4 hf4; have HO4 := Lib.hid hown4; clear hown4; have HCC4 := Lib.hid hC4; clear hC4; have HF4 := Lib.hid hf4; clear hf4))
        go_roundw
        case rel =>
          obtain ⟨q1, q2⟩ := app_step HCP.out HCA.out HLO.out HCC4.out HF4.out
          refine ⟨k + 1, by omega, by go_num, q1, ?_, q2⟩
          rw [HSU.out]; exact HO4.out
        case measure => simp [intOf]; omega
      · have hsu : u64s (wOf (ins.take (k + 1))) = u64s (wOf (ins.take k)) ++ [.int .u64 1] := by rw [List.take_add_one, hx]; simp [u64s, wOf]
        have hcA : Ch [] wr (wr.alloc (.cells #[.int .u64 1] 64)) := (Ch.refl _ _).alloc _
        have hrA := hrow.ch hcA (by simp)
        have hbA : blk (wr.alloc (.cells #[.int .u64 1] 64)) wr.heap.size [.int .u64 1] := blk.new' _ _ rfl
        have HSU := Lib.hid hsu; clear hsu
        have HRA := Lib.hid hrA; clear hrA hrow
        have HBA := Lib.hid hbA; clear hbA
        have HCA := Lib.hid hcA; clear hcA
        have HCP := Lib.hid hc; clear hc
        have HLO := Lib.hid hlo; clear hlo hcl hx
        go_wp2_with (at_builtin; go_loud (refine wpList_append_row slU64s rfl _ _ rfl (v := .slice oa k oc) (n := k) (xs := u64s (wOf (ins.take k))) rfl HRA.out (ad := ⟨wr.heap.size, 0, none⟩) (m := 1) (c := 1) (news := [.int .u64 1]) rfl rfl (news_blk HBA.out) (by simp [Value.oneCell']) (by omega) (by omega) ?_; intro v' w5 hown4 hC4 hf4; have HO4 := Lib.hid hown4; clear hown4; have HCC4 := Lib.hid hC4; clear hC4; have HF4 := Lib.hid hf4; clear hf4))
        go_roundw
        case rel =>
          obtain ⟨q1, q2⟩ := app_step HCP.out HCA.out HLO.out HCC4.out HF4.out
          refine ⟨k + 1, by omega, by go_num, q1, ?_, q2⟩
          rw [HSU.out]; exact HO4.out
        case measure => simp [intOf]; omega
    · have hkn : k = ins.length := by omega
      rw [hkn, List.take_of_length_le (Nat.le_refl _)] at hrow
      rw [hkn] at hlo
      rw [hkn]
      have hW1 := HW.out wr hc oa oc hrow
      have HW1 := Lib.hid hW1; clear hW1 HW hrow hlo hkn
      have HC := Lib.hid hc; clear hc
      go_wp2_with fail
      refine HW1.out.mono ?_
      rintro e w3 ⟨v, rfl, hrv, _, hc3⟩
      obtain ⟨va, vc, rfl⟩ := row.shape hrv
      have hsv := row.sv hrv rfl (by omega)
      have HSV := Lib.hid hsv; clear hsv hrv
      have HC3 := Lib.hid (HC.out.trans hc3 (by simp)); clear hc3 HC HW1
      go_wp2_with fail
      go_loopw [14, 38] (fun o i wq => ∃ j : Nat, j ≤ ws.length ∧ i = .int .i64 j ∧ Ch [] w3 wq ∧ row wq 4 1 o j (bools ((ws.take j).map (fun v => v.testBit 0))) ∧ ∀ q ∈ o.ownBlock.toList, w3.heap.size ≤ q) (fun _ i _ => ws.length - (intOf i).toNat)
      case atStart => exact ⟨0, by omega, rfl, Ch.refl _ _, ⟨rfl, .inl ⟨rfl, rfl⟩⟩, by simp⟩
      case round =>
        obtain ⟨j, hj, rfl, hc, hrow, hlo⟩ := hrel
        obtain ⟨oa, oc, rfl⟩ := row.shape hrow
        by_cases hlt : j < ws.length
        · obtain ⟨x, hx⟩ : ∃ x, ws[j]? = some x := ⟨_, List.getElem?_eq_getElem hlt⟩
          have hxb := HWB.out x (List.mem_of_getElem? hx)
          obtain ⟨xb, xo, rfl, hcl⟩ := HSV.out.cells j (.int .u64 x) (u64s_get hx)
          have c0 := (hc.cell (cell_lt hcl) (by simp)).trans hcl
          have hand : bits .and .u64 (x : Int) 1 = ((x &&& 1 : Nat) : Int) := bits_and_u64_nat x 1 (by omega) (by omega)
          have hbe : (((x &&& 1 : Nat) : Int) == 1) = x.testBit 0 := by
            rw [Nat.testBit_zero, show x &&& 1 = x % 2 from Nat.and_one_is_mod x]
            rcases Nat.mod_two_eq_zero_or_one x with h | h <;> simp [h]
          have hsu : bools ((ws.take (j + 1)).map (fun v => v.testBit 0)) = bools ((ws.take j).map (fun v => v.testBit 0)) ++ [.bool (x.testBit 0)] := by rw [List.take_add_one, hx]; simp [bools]
          generalize x.testBit 0 = tb at hbe hsu
          generalize x &&& 1 = x1 at hand hbe
          have hcA : Ch [] wr (wr.alloc (.cells #[.bool tb] 4)) := (Ch.refl _ _).alloc _
          have hrA := hrow.ch hcA (by simp)
          have hbA : blk (wr.alloc (.cells #[.bool tb] 4)) wr.heap.size [.bool tb] := blk.new' _ _ rfl
          have HSU := Lib.hid hsu; clear hsu
          have HRA := Lib.hid hrA; clear hrA hrow
          have HBA := Lib.hid hbA; clear hbA
          have HCA := Lib.hid hcA; clear hcA
          have HCP := Lib.hid hc; clear hc
          have HLO := Lib.hid hlo; clear hlo hcl hx hxb
          go_wp2_with (at_builtin; go_loud (refine wpList_append_row slBools rfl _ _ rfl (v := .slice oa j oc) (n := j) (xs := bools ((ws.take j).map (fun v => v.testBit 0))) rfl HRA.out (ad := ⟨wr.heap.size, 0, none⟩) (m := 1) (c := 1) (news := [.bool tb]) rfl rfl (news_blk HBA.out) (by simp [Value.oneCell']) (by omega) (by omega) ?_; intro v' w5 hown4 hC4 hf4; have HO4 := Lib.hid hown4; clear hown4; have HCC4 := Lib.hid hC4; clear hC4; have HF4 := Lib.hid hf4; clear hf4))
          go_roundw
          case rel =>
            obtain ⟨q1, q2⟩ := app_step HCP.out HCA.out HLO.out HCC4.out HF4.out
            refine ⟨j + 1, by omega, by go_num, q1, ?_, q2⟩
            rw [HSU.out]; exact HO4.out
          case measure => simp [intOf]; omega
        · have hkn : j = ws.length := by omega
          rw [hkn, List.take_of_length_le (Nat.le_refl _)] at hrow
          rw [hkn] at hlo
          rw [hkn]
          have HROW := Lib.hid hrow; clear hrow
          have HLO := Lib.hid hlo; clear hlo
          have HCP := Lib.hid hc; clear hc hkn
          go_wp2_with fail
          go_ret2
          refine ⟨.slice oa ws.length oc, rfl, ?_, fun q hq => Nat.le_trans HC3.out.size (HLO.out q hq), HC3.out.trans HCP.out (by simp)⟩
          have := HROW.out
          simpa using this
end
end Go.Proofs.YtehljgigebhddaaGreat
namespace Go.Aig
/-- the values of the inputs for two numbers -/
def givenL (n m a b : Nat) : List Bool := (List.range n).map a.testBit ++ (List.range m).map b.testBit
theorem givenL_len (n m a b : Nat) : (givenL n m a b).length = n + m := by simp [givenL]
end Go.Aig
namespace Go.Proofs.YtehljgigebhddaaGreat
open Go.RowKit Go.Mem Go.Aig
theorem bits_and_i64_nat (a b : Nat) (ha : a < 9223372036854775808) (hb : b < 9223372036854775808) : bits .and .i64 (a : Int) (b : Int) = ((a &&& b : Nat) : Int) := by
  have hx : a &&& b ≤ a := Nat.and_le_left
  have h1 : (BitVec.ofInt 64 (a : Int)).toNat = a := by
    rw [BitVec.ofInt_natCast, BitVec.toNat_ofNat]; exact Nat.mod_eq_of_lt (by omega)
  have h2 : (BitVec.ofInt 64 (b : Int)).toNat = b := by
    rw [BitVec.ofInt_natCast, BitVec.toNat_ofNat]; exact Nat.mod_eq_of_lt (by omega)
  show IntKind.i64.wrap ((BitVec.ofInt 64 (a : Int) &&& BitVec.ofInt 64 (b : Int)).toNat : Int) = _
  rw [BitVec.toNat_and, h1, h2, IntKind.wrap_i64]
  omega
/-- a bit, as the code asks for it -/
theorem bit_i64 (x d : Nat) (hx : x < 9223372036854775808) : (bits .and .i64 ((x : Int) / 2 ^ d) 1 == 1) = decide (x / 2 ^ d % 2 = 1) := by
  have h1 : x / 2 ^ d < 9223372036854775808 := Nat.lt_of_le_of_lt (Nat.div_le_self _ _) hx
  have h2 := bits_and_i64_nat (x / 2 ^ d) 1 h1 (by omega)
  have h3 : ((x / 2 ^ d : Nat) : Int) = (x : Int) / 2 ^ d := by rw [Int.natCast_ediv]; simp
  rw [Nat.and_one_is_mod, h3] at h2
  rw [show (1 : Int) = ((1 : Nat) : Int) from rfl, h2]
  rcases Nat.mod_two_eq_zero_or_one (x / 2 ^ d) with h | h <;> rw [h] <;> rfl
section
variable {w : World}
end
end Go.Proofs.YtehljgigebhddaaGreat
namespace Go.Proofs.YtehljgigebhddaaGreat
open Go.RowKit Go.Mem Go.Aig
attribute [local go_sem] Oper.semAt_some
section
variable {w : World} {g : Nat} {G : Gra} {F : List Nat}
end
end Go.Proofs.YtehljgigebhddaaGreat
namespace Go.Aig
end Go.Aig
namespace Go.Proofs.YtehljgigebhddaaGreat
open Go.RowKit Go.Mem Go.Aig
attribute [local go_sem] Oper.semAt_some
section
variable {w : World} {g : Nat} {G : Gra} {F : List Nat}
end
end Go.Proofs.YtehljgigebhddaaGreat
namespace Go.Aig
end Go.Aig
namespace Go.Proofs.YtehljgigebhddaaGreat
open Go.RowKit Go.Mem Go.Aig
attribute [local go_sem] Oper.semAt_some
section
variable {w : World} {g : Nat} {G : Gra} {F : List Nat}
end
end Go.Proofs.YtehljgigebhddaaGreat
namespace Go.Proofs.YtehljgigebhddaaGreat
open Go.Aig
theorem nv_count (env : Nat → Bool) : ∀ (ms ns : List Nd), (nv env (ns ++ ms)).2 = (nv env ns).2 + (ms.filter fun x => x.k == 2).length
  | [], ns => by simp
  | x :: ms, ns => by
    rw [List.append_cons, nv_count env ms (ns ++ [x]), nv_snoc]
    unfold nvStep
    by_cases h3 : x.k = 3
    · simp [h3]
    · by_cases h2 : x.k = 2
      · simp [h2]; omega
      · simp [h3, h2]
end Go.Proofs.YtehljgigebhddaaGreat
namespace Go.Proofs.YtehljgigebhddaaGreat
open Go.Aig
def wvStep (s : List Nat × Nat) (x : Nd) : List Nat × Nat :=
  if x.k = 3 then (s.1 ++ [wv s.1 x.l &&& wv s.1 x.r], s.2) else if x.k = 2 then (s.1 ++ [inWords.getD s.2 0], s.2 + 1) else (s.1 ++ [0], s.2)
end Go.Proofs.YtehljgigebhddaaGreat
namespace Go.Aig
end Go.Aig
namespace Go.Proofs.YtehljgigebhddaaGreat
open Go.RowKit Go.Mem Go.Aig
section
variable {w : World} {g : Nat} {G : Gra} {F : List Nat}
set_option maxRecDepth 100000 in
set_option maxHeartbeats 2000000 in
theorem ReadsW_is (h : GIn w g G F) {a : Option Addr} {l : List Int} {m c : Nat} (hm : l.length = m) (hL : Sl w a l) (hbd : ∀ r ∈ l, -9223372036854775808 ≤ r ∧ r ≤ 9223372036854775807) {xa : Option Addr} {ins : List Bool} {k xc : Nat} (hk : ins.length = k) (hI : Sb w xa ins) (hkl : k ≤ 1000) {B : List Bool} (hR : bitsR G ins l = (B, 0)) (hB : B.length = m) (h1 : 1 ≤ m) (h16 : m ≤ 16) :
    Calls Tryz.prog 106 #[.pointer (some ⟨g, 0, none⟩), .slice a m c, .slice xa k xc] w fun e w' => e = .returned (.tuple #[.int .u32 (bitsVal B), .bool true]) ∧ Ch [] w w' := by
  have HB := simBits_is h (xa := xa) (ins := ins) k xc hk hI (by omega) m c hm hL hbd (by omega)
  rw [hR] at HB
  have HV := fun (W : World) (ba : Option Addr) (bc : Nat) (hS : Sb W ba B) => sValue_is (w := W) (x := ⟨a, l, c⟩) (by show l.length ≤ _; omega) bc (by omega) hS
  simp only [WV.val, hB, hm, h1, h16, and_self, if_true] at HV
  clear hI hL
  go_enter Tryz.func106, Tryz.ntmps106
  go_wp2_with fail
  refine HB.mono ?_
  rintro e w1 ⟨v, rfl, hrow, hown, hch⟩
  obtain ⟨ba, bc, rfl⟩ := hrow.parts (by show 0 < B.length; omega)
  have hS : Sb w1 (some ⟨ba, 0, none⟩) B := row.sv hrow rfl (by show B.length ≤ _; omega)
  simp only [hB]
  go_wp2_with fail
  refine (HV w1 _ bc hS).mono ?_
  rintro e w2 ⟨rfl, rfl⟩
  go_wp2_with fail
  go_ret2
  exact ⟨rfl, hch⟩
end
theorem givenA_snoc (n m a b k : Nat) (hk : k < n) : (givenL n m a b).take (k + 1) = (givenL n m a b).take k ++ [a.testBit k] := by
  rw [List.take_add_one]
  congr 1
  unfold givenL
  rw [List.getElem?_append_left (by simpa using hk), List.getElem?_map, List.getElem?_range hk]
  rfl
theorem givenB_snoc (n m a b k : Nat) (hk : k < m) : (givenL n m a b).take (n + k + 1) = (givenL n m a b).take (n + k) ++ [b.testBit k] := by
  rw [List.take_add_one]
  congr 1
  unfold givenL
  rw [List.getElem?_append_right (by simp), List.getElem?_map]
  simp only [List.length_map, List.length_range, Nat.add_sub_cancel_left]
  rw [List.getElem?_range hk]
  rfl
set_option maxRecDepth 100000 in
set_option maxHeartbeats 4000000 in
theorem Given_is {w : World} (n a b : Nat) (hn : n ≤ 60) (ha : a ≤ 1000000) (hb : b ≤ 1000000) :
    Calls Tryz.prog 107 #[.int .i64 n, .int .i64 a, .int .i64 b] w fun e w' => ∃ v, e = .returned v ∧ row w' 4 1 v (n + n) (bools (givenL n n a b)) ∧ (∀ q ∈ v.ownBlock.toList, w.heap.size ≤ q) ∧ Ch [] w w' := by
  have HS1 := Lib.hid (givenA_snoc n n a b)
  have HS2 := Lib.hid (givenB_snoc n n a b)
  have hlen := givenL_len n n a b
  obtain ⟨GL, hGL⟩ : ∃ GL, GL = givenL n n a b := ⟨_, rfl⟩
  rw [← hGL] at HS1 HS2 hlen ⊢
  clear hGL
  go_enter Tryz.func107, Tryz.ntmps107
  go_wp2_with fail
  go_loopw [7, 11] (fun o i wr => ∃ s : Nat, s ≤ n ∧ i = .int .i64 s ∧ Ch [] w wr ∧ row wr 4 1 o s (bools (GL.take s)) ∧ ∀ q ∈ o.ownBlock.toList, w.heap.size ≤ q) (fun _ i _ => n - (intOf i).toNat)
  case atStart => exact ⟨0, by omega, rfl, Ch.refl _ _, ⟨rfl, .inl ⟨rfl, rfl⟩⟩, by simp⟩
  case round =>
    obtain ⟨s, hs, rfl, hc, hrow, hlo⟩ := hrel
    obtain ⟨oa, oc, rfl⟩ := row.shape hrow
    have HROW := Lib.hid hrow; clear hrow
    by_cases hlt2 : s < n
    · have hsn := HS1.out s hlt2
      have hbit := bit_i64 a s (by omega)
      rw [← Nat.testBit_eq_decide_div_mod_eq] at hbit
      have HC2 := Lib.hid hc; clear hc
      have HLO := Lib.hid hlo; clear hlo
      generalize a.testBit s = tb' at hsn hbit
      have hcA : Ch [] wr (wr.alloc (.cells #[.bool tb'] 4)) := (Ch.refl _ _).alloc _
      have hrA := HROW.out.ch hcA (by simp)
      have hbA : blk (wr.alloc (.cells #[.bool tb'] 4)) wr.heap.size [.bool tb'] := blk.new' _ _ rfl
      have HSU := Lib.hid hsn; clear hsn
      have HRA := Lib.hid hrA; clear hrA
      have HBA := Lib.hid hbA; clear hbA
      have HCA := Lib.hid hcA; clear hcA
      go_wp2_with (at_builtin; go_loud (refine wpList_append_row slBools rfl _ _ rfl (v := .slice oa s oc) (n := s) (xs := bools (GL.take s)) rfl HRA.out (ad := ⟨wr.heap.size, 0, none⟩) (m := 1) (c := 1) (news := [.bool tb']) rfl rfl (news_blk HBA.out) (by simp [Value.oneCell']) (by omega) (by omega) ?_; intro v' w5 hown4 hC4 hf4; have HO4 := Lib.hid hown4; clear hown4; have HCC4 := Lib.hid hC4; clear hC4; have HF4 := Lib.hid hf4; clear hf4))
      go_roundw
      case rel =>
        obtain ⟨q1, q2⟩ := app_step HC2.out HCA.out HLO.out HCC4.out HF4.out
        refine ⟨s + 1, by omega, by go_num, q1, ?_, q2⟩
        rw [HSU.out, show bools (GL.take s ++ [tb']) = bools (GL.take s) ++ [.bool tb'] by simp [bools]]
        exact HO4.out
      case measure => simp [intOf]; omega
    · have hsn : s = n := by omega
      subst hsn
      have HC1 := Lib.hid hc; clear hc
      have HLO1 := Lib.hid hlo; clear hlo
      obtain ⟨wo, hwo⟩ : ∃ wo, wo = wr := ⟨_, rfl⟩
      subst hwo
      go_wp2_with fail
      go_loopw [7, 24] (fun o i wr => ∃ t : Nat, t ≤ s ∧ i = .int .i64 t ∧ Ch [] w wr ∧ row wr 4 1 o (s + t) (bools (GL.take (s + t))) ∧ ∀ q ∈ o.ownBlock.toList, w.heap.size ≤ q) (fun _ i _ => s - (intOf i).toNat)
      case atStart => exact ⟨0, by omega, rfl, HC1.out, HROW.out, HLO1.out⟩
      case round =>
        clear HROW HC1 HLO1
        obtain ⟨t, ht, rfl, hc, hrow, hlo⟩ := hrel
        obtain ⟨oa, oc, rfl⟩ := row.shape hrow
        have HROW := Lib.hid hrow; clear hrow
        by_cases hlt3 : t < s
        · have hsn := HS2.out t hlt3
          have hbit := bit_i64 b t (by omega)
          rw [← Nat.testBit_eq_decide_div_mod_eq] at hbit
          have HC2 := Lib.hid hc; clear hc
          have HLO := Lib.hid hlo; clear hlo
          generalize b.testBit t = tb' at hsn hbit
          have hcA : Ch [] wr (wr.alloc (.cells #[.bool tb'] 4)) := (Ch.refl _ _).alloc _
          have hrA := HROW.out.ch hcA (by simp)
          have hbA : blk (wr.alloc (.cells #[.bool tb'] 4)) wr.heap.size [.bool tb'] := blk.new' _ _ rfl
          have HSU := Lib.hid hsn; clear hsn
          have HRA := Lib.hid hrA; clear hrA
          have HBA := Lib.hid hbA; clear hbA
          have HCA := Lib.hid hcA; clear hcA
          go_wp2_with (at_builtin; go_loud (refine wpList_append_row slBools rfl _ _ rfl (v := .slice oa (s + t) oc) (n := s + t) (xs := bools (GL.take (s + t))) rfl HRA.out (ad := ⟨wr.heap.size, 0, none⟩) (m := 1) (c := 1) (news := [.bool tb']) rfl rfl (news_blk HBA.out) (by simp [Value.oneCell']) (by omega) (by omega) ?_; intro v' w5 hown4 hC4 hf4; have HO4 := Lib.hid hown4; clear hown4; have HCC4 := Lib.hid hC4; clear hC4; have HF4 := Lib.hid hf4; clear hf4))
          go_roundw
          case rel =>
            obtain ⟨q1, q2⟩ := app_step HC2.out HCA.out HLO.out HCC4.out HF4.out
            refine ⟨t + 1, by omega, by go_num, q1, ?_, q2⟩
            rw [show s + (t + 1) = s + t + 1 by omega, HSU.out, show bools (GL.take (s + t) ++ [tb']) = bools (GL.take (s + t)) ++ [.bool tb'] by simp [bools]]
            exact HO4.out
          case measure => simp [intOf]; omega
        · have htm : t = s := by omega
          subst htm
          have hrow := HROW.out
          rw [List.take_of_length_le (by omega)] at hrow
          have HR := Lib.hid hrow; clear hrow HROW
          have HC2 := Lib.hid hc; clear hc
          have HLO := Lib.hid hlo; clear hlo
          go_wp2_with fail
          go_ret
          exact ⟨_, rfl, HR.out, HLO.out, HC2.out⟩
end Go.Proofs.YtehljgigebhddaaGreat
