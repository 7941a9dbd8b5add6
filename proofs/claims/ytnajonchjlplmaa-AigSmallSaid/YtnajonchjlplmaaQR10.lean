/-
  Parts of the walk over told: the reference's Not of any number, what a graph tells of a number. Conditions: a graph in memory.
-/
import Derived.Test.YtnajonchjlplmaaQR9
namespace Go.Proofs.Ytnajonchjlplmaa
open Go.RowKit Go.Mem Go.Aig
section
set_option maxRecDepth 100000 in
set_option maxHeartbeats 400000 in
theorem rNotI (w : World) (r : Int) (h0 : -1000000 ≤ r) (h1 : r ≤ 1000000) : Calls Try.prog 86 #[.int .i64 r] w fun e w' => e = .returned (.int .i64 (negI r)) ∧ w = w' := by
  by_cases h : r % 2 = 0
  · have e : negI r = r + 1 := by unfold negI; rw [if_pos h]
    have q : (r.tmod 2 == 0) = true := by
      have : r.tmod 2 = 0 := Int.tmod_eq_zero_of_dvd (Int.dvd_of_emod_eq_zero h)
      simp [this]
    rw [e]
    clear e h
    go_enter Try.func86, Try.ntmps86
    go_wp2_with fail
    go_ret
    exact ⟨rfl, rfl⟩
  · have e : negI r = r - 1 := by unfold negI; rw [if_neg h]
    have q : (r.tmod 2 == 0) = false := by
      have : r.tmod 2 ≠ 0 := fun h2 => h (Int.emod_eq_zero_of_dvd (Int.dvd_of_tmod_eq_zero h2))
      simp [this]
    rw [e]
    clear e h
    go_enter Try.func86, Try.ntmps86
    go_wp2_with fail
    go_ret
    exact ⟨rfl, rfl⟩
end
theorem negI_negI (x : Int) : negI (negI x) = x := by unfold negI; (repeat' split) <;> omega
theorem negI_bd {x : Int} {a b : Int} (h0 : a ≤ x) (h1 : x ≤ b) : a - 1 ≤ negI x ∧ negI x ≤ b + 1 := by unfold negI; split <;> omega
theorem wf_leaf {ns : List Nd} (hw : WF ns) {n : Nat} {x : Nd} (hx : ns[n]? = some x) (hk : x.k ≠ 3) : x.l = 0 ∧ x.r = 0 ∧ x.d = 0 := by
  rcases Nat.eq_zero_or_pos n with h0 | h0
  · subst h0; rw [hw.const] at hx; cases hx; exact ⟨rfl, rfl, rfl⟩
  · rcases hw.other n x hx h0 with h | h
    · rw [h]; exact ⟨rfl, rfl, rfl⟩
    · exact absurd h.1 hk
theorem wf_kind {ns : List Nd} (hw : WF ns) {n : Nat} {x : Nd} (hx : ns[n]? = some x) : x.k ≤ 3 := by
  rcases Nat.eq_zero_or_pos n with h0 | h0
  · subst h0; rw [hw.const] at hx; cases hx; exact Nat.le_of_lt (by decide)
  · rcases hw.other n x hx h0 with h | h
    · rw [h]; exact Nat.le_of_lt (by decide)
    · omega
/-- what a graph tells of a reference of its node n -/
structure TellsOf (ns : List Nd) (q : Int) (x : Nd) : Prop where
  right : right ns q = true
  l : lOf ns q = x.l
  r : rOf ns q = x.r
  is : isAndAt ns q = (x.k == 3)
  kind : kindOf ns q = x.k
  dep : depthOf ns q = x.d
  err : depthErr ns q = 0
theorem tells_yes {ns : List Nd} (hw : WF ns) {n : Nat} {x : Nd} (hx : ns[n]? = some x) {r : Int} (h1 : 2 * (n : Int) ≤ r) (h2 : r ≤ 2 * n + 1) : TellsOf ns r x := by
  have hn : nodeAt ns r = some x := by
    unfold nodeAt
    rw [if_pos (by omega), show r.toNat / 2 = n by omega, hx]
  refine ⟨by rw [nodeAt_right, hn]; rfl, ?_, ?_, ?_, ?_, ?_, ?_⟩
  · unfold lOf; rw [hn]; show (if x.k = 3 then x.l else 0) = x.l
    split
    · rfl
    · rename_i hk; exact (wf_leaf hw hx hk).1.symm
  · unfold rOf; rw [hn]; show (if x.k = 3 then x.r else 0) = x.r
    split
    · rfl
    · rename_i hk; exact (wf_leaf hw hx hk).2.1.symm
  · unfold isAndAt kindOf; rw [hn]
  · unfold kindOf; rw [hn]
  · unfold depthOf; rw [hn]
  · unfold depthErr; rw [hn]
structure TellsNo (ns : List Nd) (q : Int) : Prop where
  right : right ns q = false
  l : lOf ns q = 0
  r : rOf ns q = 0
  is : isAndAt ns q = false
  kind : kindOf ns q = 0
  dep : depthOf ns q = 0
  err : depthErr ns q = 200
theorem tells_no {ns : List Nd} {r : Int} (h : r < 0 ∨ 2 * (ns.length : Int) ≤ r) : TellsNo ns r := by
  have hn : nodeAt ns r = none := by
    unfold nodeAt
    split
    · rw [List.getElem?_eq_none_iff]; omega
    · rfl
  refine ⟨by rw [nodeAt_right, hn]; rfl, ?_, ?_, ?_, ?_, ?_, ?_⟩
  · unfold lOf; rw [hn]
  · unfold rOf; rw [hn]
  · unfold isAndAt kindOf; rw [hn]; rfl
  · unfold kindOf; rw [hn]
  · unfold depthOf; rw [hn]
  · unfold depthErr; rw [hn]
theorem Sl.of_ints {w : World} {e : TypeId} {a : Option Addr} {n cap : Nat} {l : List Int} (h : row w e 1 (.slice a n cap) n (intCells l)) (hn : n ≤ 1000000) : Sl w a l := by
  have hlen : l.length = n := by have := h.1; simpa [intCells] using this
  refine ⟨fun i x hx => ?_, by omega⟩
  obtain ⟨gb, go, hge, gc⟩ := (row.sv h rfl hn).cells i (.int .i64 x) (by simp [intCells, hx])
  exact ⟨gb, go, hge, gc⟩
/-- what a graph tells, at a world that a world has become -/
theorem Room_i {w : World} {g : Nat} {G : Gra} {F : List Nat} (h : GIn w g G F) : Calls Try.prog 20 #[.pointer (some ⟨g, 0, none⟩)] w fun e w' => e = .returned (.int .i64 ((G.most : Int) - (G.nodes.length : Int))) ∧ Ch [] w w' := by
  have := h.ok.room
  have e : (G.most : Int) - (G.nodes.length : Int) = ((G.most - G.nodes.length : Nat) : Int) := by omega
  rw [e]
  exact Room_g h
theorem Eqref_same {w : World} {a b : Option Addr} {n : Nat} {l : List Int} (ca cb : Nat) (hn : l.length = n) (hx : Sl w a l) (hy : Sl w b l) : Calls Try.prog 83 #[.slice a n ca, .slice b n cb] w fun e w' => e = .returned (.bool true) ∧ Ch [] w w' := by
  subst hn
  have := Eqref_is ca cb hx hy
  rw [decide_eq_true rfl] at this
  exact this
theorem Eqint_same {w : World} {a b : Option Addr} {n : Nat} {l : List Int} (ca cb : Nat) (hn : l.length = n) (hx : Sl w a l) (hy : Sl w b l) : Calls Try.prog 40 #[.slice a n ca, .slice b n cb] w fun e w' => e = .returned (.bool true) ∧ Ch [] w w' := by
  subst hn
  have := Eqint_is ca cb hx hy
  rw [decide_eq_true rfl] at this
  exact this
end Go.Proofs.Ytnajonchjlplmaa
