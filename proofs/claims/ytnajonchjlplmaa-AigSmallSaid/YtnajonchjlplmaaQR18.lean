/-
  Acts that a function makes itself, in a block of its own: what does asks of them. Conditions: the blocks that hold them.
-/
import Derived.Test.YtnajonchjlplmaaQR17
namespace Go.Proofs.Ytnajonchjlplmaa
open Go.RowKit Go.Mem Go.Aig
def actVal (x : ActD) : List Value := [.int .u8 x.k, .int .i64 x.a, .int .i64 x.b, .int .i64 x.c, .slice x.la x.n x.lc]
def actsCells : List ActD → List Value
  | [] => []
  | x :: l => actVal x ++ actsCells l
theorem actsCells_get : ∀ {l : List ActD} {i : Nat} {x : ActD} {j : Nat} {v : Value}, l[i]? = some x → (actVal x)[j]? = some v → (actsCells l)[i * 5 + j]? = some v
  | [], i, x, j, v, h, _ => by simp at h
  | y :: l, 0, x, j, v, h, hv => by
    simp at h; subst h
    have : j < 5 := by have := (List.getElem?_eq_some_iff.1 hv).1; simpa [actVal] using this
    simp only [actsCells]
    rw [List.getElem?_append_left (by simp [actVal]; omega)]
    simpa using hv
  | y :: l, i + 1, x, j, v, h, hv => by
    simp only [actsCells]
    rw [List.getElem?_append_right (by simp [actVal]; omega)]
    have := actsCells_get (l := l) (i := i) (x := x) (by simpa using h) hv
    rw [← this]
    congr 1
    simp [actVal]
    omega
/-- an act that is right, in a world -/
structure GA (w : World) (x : ActD) : Prop where
  k : x.k ≤ 255
  a : -9223372036854775808 ≤ x.a ∧ x.a ≤ 9223372036854775807
  b : -9223372036854775808 ≤ x.b ∧ x.b ≤ 9223372036854775807
  c : -9223372036854775808 ≤ x.c ∧ x.c ≤ 9223372036854775807
  bd : ∀ z ∈ x.L, -9223372036854775808 ≤ z ∧ z ≤ 9223372036854775807
  len : x.L.length = x.n
  few : x.n ≤ 1000
  sl : Sl w x.la x.L
  far : 0 < x.n → ∀ p, x.la = some p → p.block < w.heap.size
theorem ga0 (w : World) {k : Nat} {a b c : Int} (hk : k ≤ 255) (ha : -9223372036854775808 ≤ a ∧ a ≤ 9223372036854775807) (hb : -9223372036854775808 ≤ b ∧ b ≤ 9223372036854775807) (hc : -9223372036854775808 ≤ c ∧ c ≤ 9223372036854775807) : GA w ⟨k, a, b, c, none, 0, 0, []⟩ :=
  ⟨hk, ha, hb, hc, by simp, rfl, by simp, ⟨by simp, by simp⟩, by simp⟩
theorem ga1 {w : World} {q : Nat} {L : List Int} (h : blk w q (intCells L)) (hL : L.length ≤ 1000) (hz : ∀ z ∈ L, -9223372036854775808 ≤ z ∧ z ≤ 9223372036854775807) {k : Nat} {a b c : Int} (hk : k ≤ 255) (ha : -9223372036854775808 ≤ a ∧ a ≤ 9223372036854775807) (hb : -9223372036854775808 ≤ b ∧ b ≤ 9223372036854775807) (hc : -9223372036854775808 ≤ c ∧ c ≤ 9223372036854775807) {n : Nat} (hn : L.length = n) : GA w ⟨k, a, b, c, some ⟨q, 0, none⟩, n, n, L⟩ := by
  subst hn
  refine ⟨hk, ha, hb, hc, hz, rfl, hL, ⟨fun i x hx => ⟨q, 0, rfl, ?_⟩, by show L.length ≤ 9223372036854775807; omega⟩, fun _ p hp => by cases hp; exact h.lt⟩
  have := h.cell (i := i) (v := .int .i64 x) (by unfold intCells; rw [List.getElem?_map, hx]; rfl)
  rwa [Nat.zero_add]
theorem ActS.of_blk {w : World} {b : Nat} {l : List ActD} (h : blk w b (actsCells l)) (hg : ∀ x ∈ l, GA w x) (hl : l.length ≤ 1000) {n : Nat} (hn : l.length = n) : ActS w (some ⟨b, 0, none⟩) n n l := by
  subst hn
  refine ⟨rfl, Nat.le_refl _, by omega, fun i x hx => ⟨b, 0, rfl, ?_, ?_, ?_, ?_, ?_⟩, fun x hx => ⟨(hg x hx).k, (hg x hx).a, (hg x hx).b, (hg x hx).c, (hg x hx).bd, (hg x hx).len, by have := (hg x hx).few; omega⟩, fun x hx => (hg x hx).sl, fun x hx => (hg x hx).far⟩
  · rw [Nat.zero_add]; exact h.cell (actsCells_get (j := 0) hx rfl)
  · rw [Nat.zero_add]; exact h.cell (actsCells_get (j := 1) hx rfl)
  · rw [Nat.zero_add]; exact h.cell (actsCells_get (j := 2) hx rfl)
  · rw [Nat.zero_add]; exact h.cell (actsCells_get (j := 3) hx rfl)
  · rw [Nat.zero_add]; exact h.cell (actsCells_get (j := 4) hx rfl)
theorem does_blk {w : World} {b : Nat} {l : List ActD} (h : blk w b (actsCells l)) (hg : ∀ x ∈ l, GA w x) (hl : l.length ≤ 1000) {n : Nat} (hn : l.length = n) (most : Int) (hm0 : -9223372036854775808 ≤ most) (hm1 : most ≤ 9223372036854775807) :
    Calls Try.prog 31 #[.int .i64 most, .slice (some ⟨b, 0, none⟩) n n] w fun e w' => e = .returned (.bool true) ∧ Ch [] w w' :=
  does_is (ActS.of_blk h hg hl hn) (fun x hx => by have := (hg x hx).few; omega) most hm0 hm1
end Go.Proofs.Ytnajonchjlplmaa
