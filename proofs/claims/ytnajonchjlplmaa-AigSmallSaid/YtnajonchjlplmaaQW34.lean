/-
  A graph in memory with blocks that are kept; what is refused. Conditions: a graph in memory.
-/
import Derived.Test.YtnajonchjlplmaaQW33
namespace Go.Proofs.Ytnajonchjlplmaa
open Go.RowKit Go.Mem Go.Aig
/-- a graph that was made since a world w0, and blocks beside it -/
structure GK (K : List (Nat × List Value)) (w0 w : World) (g : Nat) (G : Gra) (F : List Nat) : Prop where
  own : Own w0 w g G F
  kp : ∀ q ∈ K, blk w q.1 q.2 ∧ q.1 ∉ F
section
variable {K : List (Nat × List Value)} {w0 w w' : World} {g : Nat} {G G' : Gra} {F : List Nat}
theorem GK.to (h : GK K w0 w g G F) (ht : GTo w g G' F w') : ∃ F', GK K w0 w' g G' F' := by
  obtain ⟨F', h1, h2, h3⟩ := ht
  refine ⟨F', ⟨h1, fun k hk => (h3 k hk).elim (h.own.own k) (fun e => Nat.le_trans h.own.ch.size e), h.own.ch.trans h2 (fun k hk => .inr (h.own.own k hk))⟩, fun q hq => ?_⟩
  obtain ⟨hb, hn⟩ := h.kp q hq
  exact ⟨hb.ch h2 hn, fun hin => (h3 _ hin).elim hn (by have := hb.lt; omega)⟩
theorem GK.same (h : GK K w0 w g G F) (hc : Ch [] w w') : GK K w0 w' g G F := ⟨h.own.same hc, fun q hq => ⟨(h.kp q hq).1.ch hc (by simp), (h.kp q hq).2⟩⟩
theorem GK.new (h : GK K w0 w g G F) (xs : List Value) (T : TypeId) : GK ((w.heap.size, xs) :: K) w0 (w.alloc (.cells xs.toArray T)) g G F := by
  have h2 := h.same ((Ch.refl [] w).alloc (.cells xs.toArray T))
  refine ⟨h2.own, fun q hq => ?_⟩
  rcases List.mem_cons.1 hq with rfl | hq
  · exact ⟨blk.new' _ _ rfl, fun hin => by have := h.own.gin.lt _ hin; simp at this⟩
  · exact h2.kp q hq
theorem GK.at (h : GK K w0 w g G F) {b : Nat} {xs : List Value} (hq : (b, xs) ∈ K) : blk w b xs := (h.kp _ hq).1
theorem GK.drop {q : Nat × List Value} (h : GK (q :: K) w0 w g G F) : GK K w0 w g G F := ⟨h.own, fun p hp => h.kp p (by simp [hp])⟩
theorem GK.of (h : Own w0 w g G F) : GK [] w0 w g G F := ⟨h, by simp⟩
/-- into a block that is kept -/
theorem GK.set (h : GK K w0 w g G F) {b : Nat} {xs : List Value} (hb : blk w b xs) (h0 : w0.heap.size ≤ b) (hn : b ∉ F) (hk : ∀ q ∈ K, q.1 ≠ b) (i : Nat) (v : Value) : GK K w0 (w.setCell ⟨b, i, none⟩ v) g G F := by
  have hc : Ch [b] w (w.setCell ⟨b, i, none⟩ v) := (Ch.refl _ _).setCell (by simp) _
  exact ⟨⟨h.own.gin.same hc (fun k hkF => by simp; rintro rfl; exact hn hkF), h.own.own, h.own.ch.trans hc (by simp; omega)⟩, fun q hq => ⟨(h.kp q hq).1.ch hc (by simpa using hk q hq), (h.kp q hq).2⟩⟩
end
theorem whole_no {G : Gra} {l : List Int} {f : Mk → Mk × Nat} {r : Int} (hr : r ∈ l) (h : right G.nodes r = false) : whole G l f = (G, 0, 200) := by
  unfold whole
  rw [if_pos]
  rw [List.any_eq_true]
  exact ⟨r, hr, by simp [h]⟩
theorem min_int (n k : Int) (ats : Array TypeId) (ty : TypeId) : Builtin.min_ ats ty #[.int .i64 n, .int .i64 k] = pure (.int .i64 (min n k)) := by
  have e : (if k < n then k else n) = min n k := by rw [Int.min_def]; split <;> split <;> omega
  rw [← e]
  simp [Builtin.min_, Builtin.min2]
theorem max_int (n k : Int) (ats : Array TypeId) (ty : TypeId) : Builtin.max_ ats ty #[.int .i64 n, .int .i64 k] = pure (.int .i64 (max n k)) := by
  have e : (if n < k then k else n) = max n k := by rw [Int.max_def]; split <;> split <;> omega
  rw [← e]
  simp [Builtin.max_, Builtin.max2]
section
variable {w : World} {g : Nat} {G : Gra} {F : List Nat}
theorem Cone_gno (h : GIn w g G F) {a : Option Addr} {l : List Int} (n cap : Nat) (hn : l.length = n) (hl : Sl w a l) (hlb : ∀ x ∈ l, x ≤ 9223372036854775807) (halt : ∀ p, a = some p → p.block < w.heap.size) {r : Int} (hr : r ∈ l) (hw : right G.nodes r = false) :
    Calls Try.prog 26 #[.pointer (some ⟨g, 0, none⟩), .slice a n cap] w fun e w' => e = .returned (.tuple #[.slice none 0 0, .int .i64 200]) ∧ Ch [] w w' := by
  subst hn
  obtain ⟨_, _, _, _, h, rfl⟩ := h
  refine Cone_no h cap hl hlb halt ?_
  rw [List.any_eq_true]
  exact ⟨r, hr, by simp [hw]⟩
theorem Depth_gno (h : GIn w g G F) (r : Int) (hr : r ≤ 9223372036854775807) (hw : right G.nodes r = false) : Calls Try.prog 27 #[.pointer (some ⟨g, 0, none⟩), .int .i64 r] w fun e w' => e = .returned (.tuple #[.int .i64 0, .int .i64 200]) ∧ w = w' := by
  obtain ⟨_, _, _, _, h, rfl⟩ := h; exact Depth_no h r hr hw
theorem Kind_gno (h : GIn w g G F) (r : Int) (hr : r ≤ 9223372036854775807) (hw : right G.nodes r = false) : Calls Try.prog 28 #[.pointer (some ⟨g, 0, none⟩), .int .i64 r] w fun e w' => e = .returned (.int .u8 0) ∧ w = w' := by
  obtain ⟨_, _, _, _, h, rfl⟩ := h; exact Kind_no h r hr hw
theorem And_gno (h : GIn w g G F) (a b : Int) (ba : a ≤ 9223372036854775807) (bb : b ≤ 9223372036854775807) (hw : right G.nodes a = false ∨ right G.nodes b = false) : Calls Try.prog 18 #[.pointer (some ⟨g, 0, none⟩), .int .i64 a, .int .i64 b] w fun e w' => e = .returned (.tuple #[.int .i64 0, .int .i64 200]) ∧ GTo w g G F w' := by
  have := And_g h a b ba bb
  unfold doAnd at this
  rcases hw with hw | hw
  · rw [whole_no (r := a) (by simp) hw] at this; exact this
  · rw [whole_no (r := b) (by simp) hw] at this; exact this
theorem Or_gno (h : GIn w g G F) (a b : Int) (ba : a ≤ 9223372036854775807) (bb : b ≤ 9223372036854775807) (hw : right G.nodes a = false ∨ right G.nodes b = false) : Calls Try.prog 22 #[.pointer (some ⟨g, 0, none⟩), .int .i64 a, .int .i64 b] w fun e w' => e = .returned (.tuple #[.int .i64 0, .int .i64 200]) ∧ GTo w g G F w' := by
  have := Or_g h a b ba bb
  unfold doOr at this
  rcases hw with hw | hw
  · rw [whole_no (r := a) (by simp) hw] at this; exact this
  · rw [whole_no (r := b) (by simp) hw] at this; exact this
theorem Xor_gno (h : GIn w g G F) (a b : Int) (ba : a ≤ 9223372036854775807) (bb : b ≤ 9223372036854775807) (hw : right G.nodes a = false ∨ right G.nodes b = false) : Calls Try.prog 23 #[.pointer (some ⟨g, 0, none⟩), .int .i64 a, .int .i64 b] w fun e w' => e = .returned (.tuple #[.int .i64 0, .int .i64 200]) ∧ GTo w g G F w' := by
  have := Xor_g h a b ba bb
  unfold doXor at this
  rcases hw with hw | hw
  · rw [whole_no (r := a) (by simp) hw] at this; exact this
  · rw [whole_no (r := b) (by simp) hw] at this; exact this
theorem Mux_gno (h : GIn w g G F) (c a b : Int) (bc : c ≤ 9223372036854775807) (ba : a ≤ 9223372036854775807) (bb : b ≤ 9223372036854775807) (hw : right G.nodes c = false ∨ right G.nodes a = false ∨ right G.nodes b = false) : Calls Try.prog 24 #[.pointer (some ⟨g, 0, none⟩), .int .i64 c, .int .i64 a, .int .i64 b] w fun e w' => e = .returned (.tuple #[.int .i64 0, .int .i64 200]) ∧ GTo w g G F w' := by
  have := Mux_g h c a b bc ba bb
  unfold doMux at this
  rcases hw with hw | hw | hw
  · rw [whole_no (r := c) (by simp) hw] at this; exact this
  · rw [whole_no (r := a) (by simp) hw] at this; exact this
  · rw [whole_no (r := b) (by simp) hw] at this; exact this
theorem All_gno (h : GIn w g G F) {a : Option Addr} {l : List Int} (n cap : Nat) (hn : l.length = n) (hS : Sl w a l) (hb : ∀ x ∈ l, x ≤ 9223372036854775807) (hap : ∀ p, a = some p → p.block < w.heap.size ∧ p.block ∉ F) {r : Int} (hr : r ∈ l) (hw : right G.nodes r = false) : Calls Try.prog 21 #[.pointer (some ⟨g, 0, none⟩), .slice a n cap] w fun e w' => e = .returned (.tuple #[.int .i64 0, .int .i64 200]) ∧ GTo w g G F w' := by
  have := All_g h n cap hn hS hb hap
  unfold doAll at this
  rw [whole_no hr hw] at this; exact this
theorem Any_gno (h : GIn w g G F) {a : Option Addr} {l : List Int} (n cap : Nat) (hn : l.length = n) (hS : Sl w a l) (hb : ∀ x ∈ l, x ≤ 9223372036854775807) (hap : ∀ p, a = some p → p.block < w.heap.size ∧ p.block ∉ F) {r : Int} (hr : r ∈ l) (hw : right G.nodes r = false) : Calls Try.prog 25 #[.pointer (some ⟨g, 0, none⟩), .slice a n cap] w fun e w' => e = .returned (.tuple #[.int .i64 0, .int .i64 200]) ∧ GTo w g G F w' := by
  have := Any_g h n cap hn hS hb hap
  unfold doAny at this
  rw [whole_no hr hw] at this; exact this
/-- a slice over a block of references -/
theorem _root_.Go.Mem.blk.slI {b : Nat} {xs : List Int} (h : blk w b (xs.map fun x => .int .i64 x)) (hn : xs.length ≤ 1000000) : Sl w (some ⟨b, 0, none⟩) xs :=
  ⟨fun i x hx => ⟨b, 0, rfl, by rw [Nat.zero_add]; exact h.cell (by simp [hx])⟩, by omega⟩
end
end Go.Proofs.Ytnajonchjlplmaa
