/-
  The cone that AigCone looks through, plainly: in which order, what is marked when, how many. No program in sight. Conditions: none beyond the hypotheses.
-/
import Derived.Test.YtnajonchjlplmaaQC
import Derived.Test.YtnajonchjlplmaaQSpec10
namespace Go.Proofs.Ytnajonchjlplmaa
open Go.Aig
theorem coneFrom_cons {ns : List Nd} : ∀ {n : Nat} {met : List Bool} {d : Nat} {rest : List Nat}, coneFrom ns n met = d :: rest → d < n ∧ met.getD d false = true ∧ (∀ m, d < m → m < n → met.getD m false = false) ∧ rest = coneFrom ns d (stepMet ns met d)
  | 0, met, d, rest, h => by cases h
  | n + 1, met, d, rest, h => by
    unfold coneFrom at h
    split at h
    · rename_i hm
      obtain ⟨rfl, rfl⟩ := List.cons.inj h
      exact ⟨by omega, hm, fun m h1 h2 => by omega, rfl⟩
    · rename_i hm
      obtain ⟨h1, h2, h3, h4⟩ := coneFrom_cons h
      refine ⟨by omega, h2, fun m q1 q2 => ?_, h4⟩
      by_cases e : m = n
      · subst e; simpa using hm
      · exact h3 m q1 (by omega)
theorem coneFrom_nil {ns : List Nd} : ∀ {n : Nat} {met : List Bool}, coneFrom ns n met = [] → ∀ m, m < n → met.getD m false = false
  | 0, _, _, m, hm => by omega
  | n + 1, met, h, m, hm => by
    unfold coneFrom at h
    split at h
    · cases h
    · rename_i hn
      by_cases e : m = n
      · subst e; simpa using hn
      · exact coneFrom_nil h m (by omega)
theorem getD_set {l : List Bool} {i j : Nat} : (l.set i true).getD j false = true ↔ (l.getD j false = true ∨ (j = i ∧ i < l.length)) := by
  rw [List.getD_eq_getElem?_getD, List.getD_eq_getElem?_getD, List.getElem?_set]
  by_cases e : i = j
  · subst e
    by_cases h : i < l.length
    · simp [h]
    · simp [h]
  · simp [e, Ne.symm e]
/-- one node of the cone after the other -/
structure ConeAt (ns : List Nd) (D : List Nat) (k n : Nat) (met : List Bool) : Prop where
  len : met.length = ns.length
  rest : D.drop k = coneFrom ns n met
  done : ∀ m, (met.getD m false = true ∧ n ≤ m) ↔ m ∈ D.take k
theorem ConeAt.start (ns : List Nd) (l : List Nat) : ConeAt ns (coneDown ns l) 0 ns.length (met0 ns.length l) := by
  refine ⟨met0_len _ _, by simp [coneDown], fun m => ⟨fun ⟨h1, h2⟩ => ?_, fun h => by simp at h⟩⟩
  rw [List.getD_eq_getElem?_getD, List.getElem?_eq_none (by rw [met0_len]; exact h2)] at h1
  cases h1
theorem stepMet_getD {ns : List Nd} {met : List Bool} (hw : WF ns) {d : Nat} (hl : met.length = ns.length) (m : Nat) : (stepMet ns met d).getD m false = true ↔ (met.getD m false = true ∨ ∃ x, ns[d]? = some x ∧ x.k = 3 ∧ (m = x.l / 2 ∨ m = x.r / 2)) := by
  unfold stepMet
  split
  · rename_i x hx
    have hd := (List.getElem?_eq_some_iff.1 hx).1
    by_cases h3 : x.k = 3
    · obtain ⟨s1, s2, s3, s4, s5⟩ := hw.sides hx h3
      rw [if_pos h3]
      unfold setMark
      rw [getD_set, getD_set]
      simp only [List.length_set]
      constructor
      · rintro ((h | ⟨rfl, _⟩) | ⟨rfl, _⟩)
        · exact .inl h
        · exact .inr ⟨x, hx, h3, .inl rfl⟩
        · exact .inr ⟨x, hx, h3, .inr rfl⟩
      · rintro (h | ⟨y, hy, _, hm⟩)
        · exact .inl (.inl h)
        · rw [hx] at hy; cases hy
          rcases hm with rfl | rfl
          · exact .inl (.inr ⟨rfl, by omega⟩)
          · exact .inr ⟨rfl, by omega⟩
    · rw [if_neg h3]
      constructor
      · exact .inl
      · rintro (h | ⟨y, hy, hk, _⟩)
        · exact h
        · rw [hx] at hy; cases hy; exact absurd hk h3
  · rename_i hx
    constructor
    · exact .inl
    · rintro (h | ⟨y, hy, _⟩)
      · exact h
      · rw [hx] at hy; cases hy
theorem ConeAt.next {ns : List Nd} {D : List Nat} {k n : Nat} {met : List Bool} (h : ConeAt ns D k n met) (hw : WF ns) {d : Nat} (hd : D[k]? = some d) : d < n ∧ met.getD d false = true ∧ ConeAt ns D (k + 1) d (stepMet ns met d) := by
  have hdrop : D.drop k = d :: D.drop (k + 1) := by
    have hlt := (List.getElem?_eq_some_iff.1 hd).1
    rw [List.drop_eq_getElem_cons hlt]
    rw [List.getElem?_eq_getElem hlt] at hd
    cases hd; rfl
  have hr := h.rest
  rw [hdrop] at hr
  obtain ⟨h1, h2, h3, h4⟩ := coneFrom_cons hr.symm
  refine ⟨h1, h2, by rw [stepMet_len, h.len], h4, fun m => ?_⟩
  rw [List.take_add_one, hd, stepMet_getD hw h.len m]
  simp only [Option.toList_some, List.mem_append, List.mem_singleton]
  rw [← h.done m]
  constructor
  · rintro ⟨hm | ⟨x, hx, h3', hm⟩, hle⟩
    · by_cases e : m = d
      · exact .inr e
      · exact .inl ⟨hm, by
          rcases Nat.lt_or_ge m n with q | q
          · have := h3 m (by omega) q; rw [this] at hm; cases hm
          · exact q⟩
    · obtain ⟨s1, s2, s3, s4, s5⟩ := hw.sides hx h3'
      omega
  · rintro (⟨hm, hle⟩ | rfl)
    · exact ⟨.inl hm, by omega⟩
    · exact ⟨.inl h2, Nat.le_refl _⟩
/-- at the end just the cone is marked -/
theorem ConeAt.all {ns : List Nd} {D : List Nat} {k n : Nat} {met : List Bool} (h : ConeAt ns D k n met) (hk : D.length ≤ k) (m : Nat) : met.getD m false = true ↔ m ∈ D := by
  have hr := h.rest
  rw [List.drop_eq_nil_of_le hk] at hr
  have hd := h.done m
  rw [List.take_of_length_le hk] at hd
  rw [← hd]
  constructor
  · intro hm
    refine ⟨hm, ?_⟩
    rcases Nat.lt_or_ge m n with q | q
    · have := coneFrom_nil hr.symm m q; rw [this] at hm; cases hm
    · exact q
  · exact fun h => h.1
theorem coneFrom_desc {ns : List Nd} : ∀ (n : Nat) (met : List Bool), (coneFrom ns n met).Pairwise (fun a b => b < a)
  | 0, _ => List.Pairwise.nil
  | n + 1, met => by
    unfold coneFrom
    split
    · exact List.Pairwise.cons (fun r hr => coneFrom_lt ns n _ r hr) (coneFrom_desc n _)
    · exact coneFrom_desc n met
theorem cone_asc (ns : List Nd) (l : List Nat) : (cone ns l).Pairwise (fun a b => a < b) := by
  unfold cone
  rw [List.pairwise_reverse]
  exact coneFrom_desc _ _
/-- it grows with what is marked -/
theorem coneFrom_mono {ns : List Nd} (hw : WF ns) : ∀ (n : Nat) (met met' : List Bool), met.length = ns.length → met'.length = ns.length → (∀ m, met.getD m false = true → met'.getD m false = true) → ∀ x ∈ coneFrom ns n met, x ∈ coneFrom ns n met'
  | 0, _, _, _, _, _, x, hx => by cases hx
  | n + 1, met, met', hl, hl', hle, x, hx => by
    unfold coneFrom at hx ⊢
    have hle2 : ∀ m, (stepMet ns met n).getD m false = true → (stepMet ns met' n).getD m false = true := fun m hm => by
      rw [stepMet_getD hw hl] at hm
      rw [stepMet_getD hw hl']
      exact hm.imp (hle m) id
    have hle3 : ∀ m, met.getD m false = true → (stepMet ns met' n).getD m false = true := fun m hm => by
      rw [stepMet_getD hw hl']
      exact .inl (hle m hm)
    split at hx
    · rename_i h1
      rw [if_pos (hle n h1)]
      rcases List.mem_cons.1 hx with rfl | hx
      · exact List.mem_cons_self ..
      · exact List.mem_cons_of_mem _ (coneFrom_mono hw n _ _ (by rw [stepMet_len, hl]) (by rw [stepMet_len, hl']) hle2 x hx)
    · split
      · exact List.mem_cons_of_mem _ (coneFrom_mono hw n _ _ hl (by rw [stepMet_len, hl']) hle3 x hx)
      · exact coneFrom_mono hw n _ _ hl hl' hle x hx
theorem foldl_mark_mono : ∀ (l : List Nat) (met : List Bool) (m : Nat), met.getD m false = true → (l.foldl setMark met).getD m false = true
  | [], _, _, h => h
  | r :: l, met, m, h => foldl_mark_mono l _ m (by unfold setMark; rw [getD_set]; exact .inl h)
/-- the cone of some of the references is in that of all -/
theorem cone_take {ns : List Nd} (hw : WF ns) (l : List Nat) (i : Nat) : ∀ x ∈ cone ns (l.take i), x ∈ cone ns l := by
  intro x hx
  unfold cone coneDown at hx ⊢
  rw [List.mem_reverse] at hx ⊢
  refine coneFrom_mono hw _ _ _ (met0_len _ _) (met0_len _ _) (fun m hm => ?_) x hx
  unfold met0 at hm ⊢
  conv => lhs; arg 1; rw [← List.take_append_drop i l, List.foldl_append]
  exact foldl_mark_mono _ _ _ hm
end Go.Proofs.Ytnajonchjlplmaa
