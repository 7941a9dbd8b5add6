/-
  What do leaves; an act. Conditions: none beyond the hypotheses.
-/
import Derived.Test.YtnajonchjlplmaaQR12
namespace Go.Proofs.Ytnajonchjlplmaa
open Go.RowKit Go.Mem Go.Aig
theorem heap_alloc_at {w : World} {b : Nat} (o : Obj) (hb : b = w.heap.size) : (w.alloc o).heap[b]? = some o := hb ▸ heap_alloc_new w o
theorem Sl.ch2 {F : List Nat} {w w' : World} {a : Option Addr} {xs : List Int} (h : Sl w a xs) (hc : Ch F w w') (hF : 0 < xs.length → ∀ p, a = some p → p.block ∉ F) : Sl w' a xs :=
  ⟨fun i x hx => by
    obtain ⟨b, o, rfl, hcell⟩ := h.cells i x hx
    have hlt := (List.getElem?_eq_some_iff.1 hx).1
    exact ⟨b, o, rfl, (hc.cell (p := ⟨b, o + i, none⟩) (cell_lt hcell) (hF (by omega) ⟨b, o, none⟩ rfl)).trans hcell⟩, h.bd⟩
/-- an act, as a value: its kind, its numbers, its list -/
structure ActV (w : World) (F : List Nat) (la : Option Addr) (n lcap kind : Nat) (A B C : Int) (L : List Int) : Prop where
  kb : kind ≤ 255
  a : -9223372036854775808 ≤ A ∧ A ≤ 9223372036854775807
  b : -9223372036854775808 ≤ B ∧ B ≤ 9223372036854775807
  c : -9223372036854775808 ≤ C ∧ C ≤ 9223372036854775807
  bd : ∀ x ∈ L, -9223372036854775808 ≤ x ∧ x ≤ 9223372036854775807
  sl : Sl w la L
  len : L.length = n
  most : n ≤ 1000000
  far : 0 < n → ∀ p, la = some p → p.block < w.heap.size ∧ p.block ∉ F
/-- what do leaves: both graphs, the same, apart -/
def DoTo (w : World) (g rb : Nat) (F : List Nat) (G' : Gra) (e : Ending) (w' : World) : Prop := ∃ rb' cap' F', e = .returned (.tuple #[.agg #[.int .i64 G'.most, .slice (some ⟨rb', 0, none⟩) G'.nodes.length cap'], .bool true]) ∧ GIn w' g G' F' ∧ RG w' rb' cap' G' ∧ rb' ∉ F' ∧ Ch F w w' ∧ (∀ k ∈ F', k ∈ F ∨ w.heap.size ≤ k) ∧ (rb' = rb ∨ w.heap.size ≤ rb')
end Go.Proofs.Ytnajonchjlplmaa
