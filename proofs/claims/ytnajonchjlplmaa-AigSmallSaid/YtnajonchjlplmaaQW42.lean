/-
  What Sides and Depth say of a node of the cone, plainly. No program in sight. Conditions: a well-formed graph.
-/
import Derived.Test.YtnajonchjlplmaaQC
import Derived.Test.YtnajonchjlplmaaQSpec12
namespace Go.Proofs.Ytnajonchjlplmaa
open Go.Mem Go.Aig
theorem nodeAt_even {ns : List Nd} {d : Nat} {x : Nd} (hx : ns[d]? = some x) : nodeAt ns (2 * (d : Int)) = some x := by
  unfold nodeAt
  rw [if_pos (by omega), show ((2 * (d : Int)).toNat / 2) = d from by omega, hx]
theorem nodeAt_odd {ns : List Nd} {d : Nat} {x : Nd} (hx : ns[d]? = some x) : nodeAt ns (2 * (d : Int) + 1) = some x := by
  unfold nodeAt
  rw [if_pos (by omega), show ((2 * (d : Int) + 1).toNat / 2) = d from by omega, hx]
structure NodeIs (ns : List Nd) (d : Nat) (x : Nd) : Prop where
  l : lOf ns (2 * (d : Int)) = if x.k = 3 then x.l else 0
  r : rOf ns (2 * (d : Int)) = if x.k = 3 then x.r else 0
  is : isAndAt ns (2 * (d : Int)) = (x.k == 3)
  dep : depthOf ns (2 * (d : Int) + 1) = x.d
  err : depthErr ns (2 * (d : Int) + 1) = 0
theorem node_is {ns : List Nd} {d : Nat} {x : Nd} (hx : ns[d]? = some x) : NodeIs ns d x := by
  refine ⟨?_, ?_, ?_, ?_, ?_⟩
  · unfold lOf; rw [nodeAt_even hx]
  · unfold rOf; rw [nodeAt_even hx]
  · unfold isAndAt kindOf; rw [nodeAt_even hx]
  · unfold depthOf; rw [nodeAt_odd hx]
  · unfold depthErr; rw [nodeAt_odd hx]
theorem dep_is {ns : List Nd} {r : Nat} (hr : r < 2 * ns.length) : depthOf ns (r : Int) = dep ns r ∧ depthErr ns (r : Int) = 0 := by
  have hx : ns[r / 2]? = some ns[r / 2] := List.getElem?_eq_getElem (by omega)
  have hn : nodeAt ns (r : Int) = some ns[r / 2] := by
    unfold nodeAt
    rw [if_pos (by omega), show ((r : Int).toNat / 2) = r / 2 from by omega, hx]
  unfold depthOf depthErr dep
  rw [hn, hx]
  exact ⟨rfl, rfl⟩
theorem leaf_d {ns : List Nd} (hw : WF ns) {d : Nat} {x : Nd} (hx : ns[d]? = some x) (hk : ¬ x.k = 3) : x.d = 0 := by
  rcases Nat.eq_zero_or_pos d with h0 | h0
  · subst h0
    rw [hw.const] at hx; cases hx; rfl
  · rcases hw.other d x hx h0 with h | h
    · rw [h]
    · exact absurd h.1 hk
theorem cone_at {ns : List Nd} {l : List Nat} {j d : Nat} (h : (cone ns l)[j]? = some d) : (coneDown ns l)[(cone ns l).length - (j + 1)]? = some d := by
  have hlt := (List.getElem?_eq_some_iff.1 h).1
  unfold cone at h hlt ⊢
  rw [List.length_reverse] at hlt ⊢
  rw [List.getElem?_reverse hlt] at h
  rw [← h]; congr 1; omega
theorem cone_lt' {ns : List Nd} {l : List Nat} {j p q : Nat} (h1 : (cone ns l)[j]? = some p) (h2 : (cone ns l)[j + 1]? = some q) : p < q := by
  obtain ⟨l1, e1⟩ := List.getElem?_eq_some_iff.1 h1
  obtain ⟨l2, e2⟩ := List.getElem?_eq_some_iff.1 h2
  have := List.pairwise_iff_getElem.1 (cone_asc ns l) j (j + 1) l1 l2 (by omega)
  rw [e1, e2] at this
  exact this
theorem nodup_le : ∀ (l m : List Nat), l.Nodup → (∀ x ∈ l, x ∈ m) → l.length ≤ m.length
  | [], _, _, _ => by simp
  | a :: l, m, h, hs => by
    have ha := hs a (List.mem_cons_self ..)
    obtain ⟨h1, h2⟩ := List.nodup_cons.1 h
    have := nodup_le l (m.erase a) h2 fun x hx => (List.mem_erase_of_ne (show x ≠ a from fun e => h1 (by rw [← e]; exact hx))).2 (hs x (List.mem_cons_of_mem _ hx))
    rw [List.length_erase_of_mem ha] at this
    have := List.length_pos_of_mem ha
    simp only [List.length_cons]
    omega
theorem cone_len_of {ns : List Nd} {l L : List Nat} {k n : Nat} {met : List Bool} (h : ConeAt ns (coneDown ns l) k n met) (hk : (coneDown ns l).length ≤ k) (hL : L.Nodup) (hm : ∀ q, q ∈ L ↔ met.getD q false = true) : L.length = (cone ns l).length := by
  have h2 : (coneDown ns l).Nodup := (coneFrom_desc _ _).imp fun h => by omega
  have h3 : ∀ q, q ∈ L ↔ q ∈ coneDown ns l := fun q => (hm q).trans (h.all hk q)
  have h4 : L.length ≤ (coneDown ns l).length := nodup_le _ _ hL fun q hq => (h3 q).1 hq
  have h5 : (coneDown ns l).length ≤ L.length := nodup_le _ _ h2 fun q hq => (h3 q).2 hq
  unfold cone
  rw [List.length_reverse]
  omega
end Go.Proofs.Ytnajonchjlplmaa
