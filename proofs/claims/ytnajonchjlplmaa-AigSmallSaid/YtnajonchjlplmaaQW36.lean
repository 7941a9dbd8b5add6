/-
  A built graph in memory beside other blocks. Conditions: a built graph in memory.
-/
import Derived.Test.YtnajonchjlplmaaQSpec10
import Derived.Test.YtnajonchjlplmaaQW34
import Derived.ChangeKeysEq
namespace Go.Proofs.Ytnajonchjlplmaa
open Go.RowKit Go.Mem Go.Aig
/-- arrays of two references, compared -/
theorem arrEq (w : World) (a b c d : Int) : (Op.equalIn 10000 43 (pr a b) (pr c d)).run Try.prog w = .ok (a == c && b == d) w := by
  obtain ⟨i, hi, _⟩ := info_parts infoRef
  unfold pr
  rw [run_equalIn_array w 9999 (n := 2) (e := 33) (i := i) _ _ Try.underlying43 hi]
  have hC : Try.prog.cellsOf 33 = 1 := by kernel_rfl
  simp [hC, List.range, List.range.loop, Op.eqItems, go_sem]
  by_cases h1 : a = c <;> by_cases h2 : b = d <;> simp [h1, h2]
section
variable {K : List Nat} {w0 w w' : World} {tb g : Nat} {F : List Nat} {rv wv : Value} {b : Bd}
theorem BM.base {w1 : World} (h : BM w1 w g F rv wv b) (hc : Ch [] w0 w1) : BM w0 w g F rv wv b :=
  ⟨⟨h.own.gin, fun k hk => Nat.le_trans hc.size (h.own.own k hk), hc.trans h.own.ch (by simp)⟩, h.rr, h.ww, fun k hk => ⟨Nat.le_trans hc.size (h.ro k hk).1, (h.ro k hk).2⟩, fun k hk => ⟨Nat.le_trans hc.size (h.wo k hk).1, (h.wo k hk).2⟩⟩
theorem BM.box (h : BM w0 w g F rv wv b) : BB [] w0 (w.alloc (.cells #[.pointer (some ⟨g, 0, none⟩), rv, wv] 28)) w.heap.size g F rv wv b := by
  obtain ⟨hl1, hl2⟩ := h.lt
  exact ⟨h.same ((Ch.refl _ _).alloc _), blk.new' _ _ rfl, h.own.ch.size, fun hin => by have := h.own.gin.lt _ hin; omega, fun e => by have := hl1 _ e; omega, fun e => by have := hl2 _ e; omega, by simp⟩
/-- a block is turned that is kept apart -/
theorem BB.other {m : Nat} (h : BB K w0 w tb g F rv wv b) (hc : Ch [m] w w') (hm : m ∈ K) (h0 : w0.heap.size ≤ m) : BB K w0 w' tb g F rv wv b := by
  obtain ⟨k1, k2, k3, k4, k5⟩ := h.kp m hm
  refine ⟨⟨⟨h.bm.own.gin.same hc (fun k hk => by simp; rintro rfl; exact k2 hk), h.bm.own.own, h.bm.own.ch.trans hc (by simp; exact h0)⟩, h.bm.rr.ch hc (fun k hk => by simp; rintro rfl; exact k4 hk), h.bm.ww.ch hc (fun k hk => by simp; rintro rfl; exact k5 hk), h.bm.ro, h.bm.wo⟩, h.bk.ch hc (by simpa using k3.symm), h.lo, h.tF, h.tr, h.tw, fun k hk => ⟨Nat.lt_of_lt_of_le (h.kp k hk).1 hc.size, (h.kp k hk).2⟩⟩
/-- a row beside the graph grows -/
theorem BB.rowStep {w1 w2 : World} {o o' : Value} (h : BB o.ownBlock.toList w0 w1 tb g F rv wv b) (hlo : ∀ k ∈ o.ownBlock.toList, w0.heap.size ≤ k) (hc : Ch o.ownBlock.toList w1 w2) (hlt : ∀ k, o'.ownBlock = some k → k < w2.heap.size) (hf : ∀ k, o'.ownBlock = some k → o.ownBlock = some k ∨ w1.heap.size ≤ k) :
    BB o'.ownBlock.toList w0 w2 tb g F rv wv b ∧ ∀ k ∈ o'.ownBlock.toList, w0.heap.size ≤ k := by
  obtain ⟨hl1, hl2⟩ := h.bm.lt
  have hF := h.bm.own.gin.lt
  have hs := h.bm.own.ch.size
  have kk := fun k hk => h.kp k hk
  refine ⟨⟨⟨⟨h.bm.own.gin.same hc (fun k hk hin => (kk k hin).2.1 hk), h.bm.own.own, h.bm.own.ch.trans hc (fun k hk => .inr (hlo k hk))⟩, h.bm.rr.ch hc (fun k hk hin => (kk k hin).2.2.2.1 hk), h.bm.ww.ch hc (fun k hk hin => (kk k hin).2.2.2.2 hk), h.bm.ro, h.bm.wo⟩, h.bk.ch hc (fun hin => (kk tb hin).2.2.1 rfl), h.lo, h.tF, h.tr, h.tw, fun k hk => ?_⟩, fun k hk => ?_⟩
  · have hk' : o'.ownBlock = some k := by simpa using hk
    refine ⟨hlt k hk', ?_⟩
    rcases hf k hk' with e | e
    · exact (kk k (by simpa using e)).2
    · exact ⟨fun hin => by have := hF k hin; omega, fun e2 => by have := h.bk.lt; omega, fun e2 => by have := hl1 k e2; omega, fun e2 => by have := hl2 k e2; omega⟩
  · have hk' : o'.ownBlock = some k := by simpa using hk
    rcases hf k hk' with e | e
    · exact hlo k (by simpa using e)
    · omega
theorem _root_.Go.Mem.row.of_heap {w w' : World} {e : TypeId} {size : Nat} {v : Value} {n : Nat} {xs : List Value} (h : row w e size v n xs) (hk : ∀ k ∈ v.ownBlock.toList, w'.heap[k]? = w.heap[k]?) : row w' e size v n xs := by
  refine ⟨h.1, ?_⟩
  rcases h.2 with e1 | ⟨g2, c2, cur, e1, h0, hg, rest⟩
  · exact .inl e1
  · subst e1
    exact .inr ⟨g2, c2, cur, rfl, h0, (hk g2 (by simp)).trans hg, rest⟩
/-- a new block is turned -/
theorem BB.fresh {m : Nat} (h : BB K w0 w tb g F rv wv b) (hc : Ch [m] w w') (hw : w.heap.size ≤ m) : BB K w0 w' tb g F rv wv b := by
  have hc2 : Ch [] w w' := hc.mono (by simp; exact hw)
  exact h.same hc2
theorem setCell_ne {w : World} {nb i tb j : Nat} {v u : Value} (h : w.cell? ⟨tb, j, none⟩ = some u) (hne : tb ≠ nb) : (w.setCell ⟨nb, i, none⟩ v).cell? ⟨tb, j, none⟩ = some u := by
  have hc : Ch [nb] w (w.setCell ⟨nb, i, none⟩ v) := (Ch.refl _ _).setCell (by simp) _
  exact (hc.cell (cell_lt h) (by simpa using hne)).trans h
theorem cell_al {w : World} {p : Addr} {v : Value} (h : w.cell? p = some v) (o : Obj) : (w.alloc o).cell? p = some v := ((Ch.refl [] w).alloc o).cell (cell_lt h) (by simp) |>.trans h
/-- what step is told, over a part of the slices -/
theorem BB.toldTake {ra wa : Option Addr} {n m rc wc i : Nat} (h : BB K w0 w tb g F (.slice ra n rc) (.slice wa m wc) b) (hn : b.refs.length ≤ 1000000) (hm : b.want.length ≤ 1000000) (h0 : 0 < i) (hi : i ≤ b.refs.length) (hi2 : i ≤ b.want.length) (hw : ∀ x ∈ b.want, x < 65536) (hr : ∀ r ∈ b.refs.take i, r < 2 * b.G.nodes.length) : Told w g b.G F ra wa i (b.refs.take i) (b.want.take i) := by
  obtain ⟨hl1, hl2⟩ := h.bm.lt
  have s1 := (row.sv h.bm.rr rfl hn).take i
  have s2 := (row.sv h.bm.ww rfl hm).take i
  refine ⟨h.bm.own.gin, by simpa [refsCells, List.map_take] using s1, by simpa [u64s, List.map_take] using s2, by simp; omega, by simp; omega, h0, by omega, fun p hp => ?_, fun p hp => ?_, fun x hx => hw x (List.mem_of_mem_take hx), hr⟩
  · subst hp; exact ⟨hl1 _ rfl, (h.bm.ro _ rfl).2⟩
  · subst hp; exact ⟨hl2 _ rfl, (h.bm.wo _ rfl).2.1⟩
theorem BB.capR {ra : Option Addr} {n rc : Nat} (h : BB K w0 w tb g F (.slice ra n rc) wv b) (h0 : 0 < b.refs.length) : b.refs.length ≤ rc ∧ rc ≤ 9223372036854775807 ∧ ∃ rb, ra = some ⟨rb, 0, none⟩ := by
  rcases h.bm.rr.2 with ⟨_, e⟩ | ⟨g2, c2, cur, e, _, _, hle, hmx, _⟩
  · omega
  · cases e; unfold maxLen at hmx; exact ⟨hle, hmx, _, rfl⟩
theorem BB.capW {wa : Option Addr} {n wc : Nat} (h : BB K w0 w tb g F rv (.slice wa n wc) b) (h0 : 0 < b.want.length) : b.want.length ≤ wc ∧ wc ≤ 9223372036854775807 ∧ ∃ wb, wa = some ⟨wb, 0, none⟩ := by
  rcases h.bm.ww.2 with ⟨_, e⟩ | ⟨g2, c2, cur, e, _, _, hle, hmx, _⟩
  · omega
  · cases e; unfold maxLen at hmx; exact ⟨hle, hmx, _, rfl⟩
end
end Go.Proofs.Ytnajonchjlplmaa
