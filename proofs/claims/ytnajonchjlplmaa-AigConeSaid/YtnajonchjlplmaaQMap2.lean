/-
  A map from numbers to numbers that holds 1 for some of them, one after the other. Conditions: the two facts on the types of map and key.
-/
import Derived.Test.YtnajonchjlplmaaQA
import Derived.MapKept
namespace Go.Mem
open Go.MapKept
/-- the map holds 1 for just these numbers -/
structure IMap (w : World) (mb : Nat) (L : List Nat) : Prop where
  ex : ∃ es clock, w.heap[mb]? = some (.map es clock) ∧ (es.toList.map fun e => (e.key, e.val)) = L.map fun (n : Nat) => (Value.int .i64 n, Value.int .i64 1)
  nd : L.Nodup
theorem IMap.of_heap {w w' : World} {mb : Nat} {L : List Nat} (h : IMap w mb L) (e : w'.heap[mb]? = w.heap[mb]?) : IMap w' mb L := by
  obtain ⟨es, clock, h1, h2⟩ := h.ex
  exact ⟨⟨es, clock, e.trans h1, h2⟩, h.nd⟩
theorem IMap.len {w : World} {mb : Nat} {L : List Nat} (h : IMap w mb L) : ∃ es clock, w.heap[mb]? = some (.map es clock) ∧ es.size = L.length := by
  obtain ⟨es, clock, h1, h2⟩ := h.ex
  refine ⟨es, clock, h1, ?_⟩
  have := congrArg List.length h2
  simpa using this
section
variable {P : Program} {w : World} {T K E : TypeId} {mb : Nat} {L : List Nat}
theorem IMap.find (h : IMap w mb L) (n : Nat) : ∃ es clock, w.heap[mb]? = some (.map es clock) ∧ (es.toList.map fun e => (e.key, e.val)) = (L.map fun (n : Nat) => (Value.int .i64 n, Value.int .i64 1)) ∧
    ((Instr.findNow (.int .i64) (.int .i64 n) es.toList 0 = some none ∧ n ∉ L) ∨ (∃ j e, Instr.findNow (.int .i64) (.int .i64 n) es.toList 0 = some (some (j, .int .i64 1)) ∧ es.toList[j]? = some e ∧ e.key = .int .i64 n ∧ n ∈ L)) := by
  obtain ⟨es, clock, h1, h2⟩ := h.ex
  have hk : IsKey (.int .i64) (.int .i64 (n : Int)) := by simp [IsKey]
  have hat : ∀ (j : Nat) (e : MapEntry), es.toList[j]? = some e → ∃ m, L[j]? = some m ∧ e.key = .int .i64 (m : Nat) ∧ e.val = .int .i64 1 := fun j e he => by
    have := congrArg (fun l => l[j]?) h2
    simp only [List.getElem?_map, he, Option.map_some] at this
    cases hL : L[j]? with
    | none => rw [hL] at this; cases this
    | some m => rw [hL] at this; simp at this; exact ⟨m, rfl, this.1, this.2⟩
  have hks : ∀ x ∈ es.toList, IsKey (.int .i64) x.key := fun x hx => by
    obtain ⟨j, hj⟩ := List.mem_iff_getElem?.1 hx
    obtain ⟨m, _, hm, _⟩ := hat j x hj
    rw [hm]; simp [IsKey]
  refine ⟨es, clock, h1, h2, ?_⟩
  rcases findNow_spec hk es.toList 0 hks with ⟨q1, q2⟩ | ⟨j, e, q1, q2, q3⟩
  · refine .inl ⟨q1, fun hn => ?_⟩
    obtain ⟨j, hj⟩ := List.mem_iff_getElem?.1 hn
    have hlt := (List.getElem?_eq_some_iff.1 hj).1
    have hsz : es.toList.length = L.length := by have := congrArg List.length h2; simpa using this
    obtain ⟨m, hm, hkm, _⟩ := hat j _ (List.getElem?_eq_getElem (by rw [hsz]; exact hlt))
    rw [hj] at hm; cases hm
    exact q2 _ (List.getElem_mem _) hkm
  · obtain ⟨m, hm, hkm, hv⟩ := hat j e q2
    rw [q3] at hkm
    simp at hkm
    obtain rfl : n = m := by omega
    rw [hv, Nat.zero_add] at q1
    exact .inr ⟨j, e, q1, q2, q3, List.mem_of_getElem? hm⟩
theorem IMap.lookup (hT : P.underlying T = some (.map K E)) (hK : P.underlying K = some (.int .i64)) (hz : ∀ w, (zeroValue E).run P w = .ok (.int .i64 0) w) (h : IMap w mb L) (n : Nat) :
    (Instr.lookup T (.map (some mb)) (.int .i64 n) false).run P w = .ok (.int .i64 (if n ∈ L then 1 else 0)) w := by
  have hk : IsKey (.int .i64) (.int .i64 (n : Int)) := by simp [IsKey]
  obtain ⟨es, clock, h1, _, ⟨q, hn⟩ | ⟨j, e, q, _, _, hn⟩⟩ := h.find n
  · unfold Instr.lookup
    simp [run_underlying hT, run_getMap h1, run_checkKey hK hk, run_findKey hK q, hz, hn]
  · unfold Instr.lookup
    simp [run_underlying hT, run_getMap h1, run_checkKey hK hk, run_findKey hK q, hn]
theorem IMap.set (hT : P.underlying T = some (.map K E)) (hK : P.underlying K = some (.int .i64)) (h : IMap w mb L) (n : Nat) :
    ∃ w', (Instr.mapUpdate T (.map (some mb)) (.int .i64 n) (.int .i64 1)).run P w = .ok () w' ∧ Ch [mb] w w' ∧ IMap w' mb (if n ∈ L then L else L ++ [n]) := by
  have hk : IsKey (.int .i64) (.int .i64 (n : Int)) := by simp [IsKey]
  have hch : ∀ (o : Obj), Ch [mb] w { w with heap := w.heap.setIfInBounds mb o } := fun o => ⟨rfl, rfl, rfl, by simp, fun j _ hj => Array.getElem?_setIfInBounds_ne (by simp at hj; omega)⟩
  obtain ⟨es, clock, h1, h2, ⟨q, hn⟩ | ⟨j, e, q, he, hek, hn⟩⟩ := h.find n
  · have hlt := (Array.getElem?_eq_some_iff.1 h1).1
    refine ⟨_, by simp [Instr.mapUpdate, run_underlying hT, run_getMap h1, run_checkKey hK hk, run_findKey hK q, run_setMap h1, Result.andThen]; rfl, hch _, ⟨⟨_, _, Array.getElem?_setIfInBounds_self_of_lt hlt, ?_⟩, ?_⟩⟩
    · rw [if_neg hn, Array.toList_push, List.map_append, h2]; simp
    · rw [if_neg hn]
      refine List.nodup_append.2 ⟨h.nd, by simp, fun a ha b hb e => ?_⟩
      simp at hb
      subst hb; subst e; exact hn ha
  · have hlt := (Array.getElem?_eq_some_iff.1 h1).1
    have hj : es[j]? = some e := by simpa using he
    refine ⟨_, by simp [Instr.mapUpdate, run_underlying hT, run_getMap h1, run_checkKey hK hk, run_findKey hK q, hj, hek, run_keyThatStays hk, run_setMap h1, Result.andThen]; rfl, hch _, ⟨⟨_, _, Array.getElem?_setIfInBounds_self_of_lt hlt, ?_⟩, ?_⟩⟩
    · rw [if_pos hn, ← h2]
      apply List.ext_getElem?
      intro i
      simp only [List.getElem?_map, Array.getElem?_toList, Array.getElem?_modify]
      by_cases e1 : j = i
      · subst e1
        have hv : e.val = .int .i64 1 := by
          have := congrArg (fun l => l[j]?) h2
          simp only [List.getElem?_map, he, Option.map_some] at this
          cases hL : L[j]? with
          | none => rw [hL] at this; cases this
          | some m => rw [hL] at this; simp at this; exact this.2
        simp [hj, hek, hv]
      · simp [e1]
    · rw [if_pos hn]; exact h.nd
end
end Go.Mem
