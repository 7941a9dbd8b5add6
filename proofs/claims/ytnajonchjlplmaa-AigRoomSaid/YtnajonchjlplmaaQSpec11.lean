/-
  What is made with less room, plainly: the same, as long as it goes; else it is refused. No program in sight. Conditions: none beyond the hypotheses.
-/
import Derived.Test.YtnajonchjlplmaaQSpec10
namespace Go.Proofs.Ytnajonchjlplmaa
open Go.Aig
/-- the same nodes, other room -/
def less (G : Gra) (p : Nat) : Gra := ⟨p, G.nodes⟩
theorem and_less {G : Gra} {p a b : Nat} (h1 : (Aig.and G a b).2.2 = 0) (h2 : (Aig.and (less G p) a b).2.2 = 0) : Aig.and (less G p) a b = (less (Aig.and G a b).1 p, (Aig.and G a b).2.1, 0) := by
  unfold Aig.and at h1 h2 ⊢
  split
  · rfl
  · rename_i l r hi
    rw [hi] at h1 h2
    dsimp only [less] at h1 h2 ⊢
    split
    · rfl
    · rename_i hn
      rw [hn] at h1 h2
      dsimp only at h1 h2
      unfold put at h1 h2 ⊢
      split at h1
      · cases h1
      · rename_i q1
        split at h2
        · cases h2
        · rename_i q2
          rw [if_neg q1, if_neg q2]
theorem mand_less {s t : Mk} {p a b : Nat} (_ : s.2 = 0) (ht : t = (less s.1 p, 0)) (h1 : (mand s a b).1.2 = 0) (h2 : (mand t a b).1.2 = 0) : mand t a b = ((less (mand s a b).1.1 p, 0), (mand s a b).2) := by
  subst ht
  obtain ⟨_, e1, q1⟩ := mand_err0 h1
  obtain ⟨_, e2, q2⟩ := mand_err0 h2
  rw [e1, e2, and_less q1 q2]
theorem mor_less {s t : Mk} {p a b : Nat} (hs : s.2 = 0) (ht : t = (less s.1 p, 0)) (h1 : (mor s a b).1.2 = 0) (h2 : (mor t a b).1.2 = 0) : mor t a b = ((less (mor s a b).1.1 p, 0), (mor s a b).2) := by
  have := mand_less (a := neg a) (b := neg b) hs ht h1 h2
  unfold mor
  rw [this]
theorem mmux_less {s t : Mk} {p c a b : Nat} (hs : s.2 = 0) (ht : t = (less s.1 p, 0)) (h1 : (mmux s c a b).1.2 = 0) (h2 : (mmux t c a b).1.2 = 0) : mmux t c a b = ((less (mmux s c a b).1.1 p, 0), (mmux s c a b).2) := by
  have e3 : (mor (mand (mand s c a).1 (neg c) b).1 (mand s c a).2 (mand (mand s c a).1 (neg c) b).2).1.2 = 0 := h1
  have e2 := (mand_err0 (show (mand (mand (mand s c a).1 (neg c) b).1 (neg (mand s c a).2) (neg (mand (mand s c a).1 (neg c) b).2)).1.2 = 0 from e3)).1
  have e1 := (mand_err0 e2).1
  have g3 : (mor (mand (mand t c a).1 (neg c) b).1 (mand t c a).2 (mand (mand t c a).1 (neg c) b).2).1.2 = 0 := h2
  have g2 := (mand_err0 (show (mand (mand (mand t c a).1 (neg c) b).1 (neg (mand t c a).2) (neg (mand (mand t c a).1 (neg c) b).2)).1.2 = 0 from g3)).1
  have g1 := (mand_err0 g2).1
  have l1 := mand_less hs ht e1 g1
  have k1 : (mand t c a).1 = (less (mand s c a).1.1 p, 0) := by rw [l1]
  have l2 := mand_less (p := p) e1 k1 e2 g2
  have k2 : (mand (mand t c a).1 (neg c) b).1 = (less (mand (mand s c a).1 (neg c) b).1.1 p, 0) := by rw [l2]
  have r1 : (mand t c a).2 = (mand s c a).2 := by rw [l1]
  have r2 : (mand (mand t c a).1 (neg c) b).2 = (mand (mand s c a).1 (neg c) b).2 := by rw [l2]
  rw [r1, r2] at g3
  have l3 := mor_less (p := p) e2 k2 e3 g3
  show mor (mand (mand t c a).1 (neg c) b).1 (mand t c a).2 (mand (mand t c a).1 (neg c) b).2 = _
  rw [r1, r2, l3]; rfl
theorem mall_less {p : Nat} : ∀ (l : List Nat) {s t : Mk} {out : Nat}, s.2 = 0 → t = (less s.1 p, 0) → (mall s out l).1.2 = 0 → (mall t out l).1.2 = 0 → mall t out l = ((less (mall s out l).1.1 p, 0), (mall s out l).2)
  | [], s, t, out, _, ht, _, _ => by unfold mall; rw [ht]
  | r :: l, s, t, out, hs, ht, h1, h2 => by
    have e1 : (mand s out r).1.2 = 0 := mall_err0 l h1
    have g1 : (mand t out r).1.2 = 0 := mall_err0 l h2
    have l1 := mand_less hs ht e1 g1
    have k1 : (mand t out r).1 = (less (mand s out r).1.1 p, 0) := by rw [l1]
    have r1 : (mand t out r).2 = (mand s out r).2 := by rw [l1]
    have h2' : (mall (mand t out r).1 (mand t out r).2 l).1.2 = 0 := h2
    rw [r1] at h2'
    have l2 := mall_less l e1 k1 h1 h2'
    show mall (mand t out r).1 (mand t out r).2 l = _
    rw [r1, l2]; rfl
theorem stepMk_less {G : Gra} {p : Nat} {refs : List Nat} (x : Sm) (h1 : (stepMk refs x (G, 0)).1.2 = 0) (h2 : (stepMk refs x (less G p, 0)).1.2 = 0) : stepMk refs x (less G p, 0) = ((less (stepMk refs x (G, 0)).1.1 p, 0), (stepMk refs x (G, 0)).2) := by
  unfold stepMk at h1 h2 ⊢
  rcases (show x.k % 6 = 0 ∨ x.k % 6 = 1 ∨ x.k % 6 = 2 ∨ x.k % 6 = 3 ∨ x.k % 6 = 4 ∨ x.k % 6 = 5 by omega) with e | e | e | e | e | e <;> simp (decide := true) only [e, if_true, if_false] at h1 h2 ⊢
  · exact mand_less (s := (G, 0)) rfl rfl h1 h2
  · exact mor_less (s := (G, 0)) rfl rfl h1 h2
  · exact mmux_less (s := (G, 0)) rfl rfl h1 h2
  · exact mmux_less (s := (G, 0)) rfl rfl h1 h2
  · exact mall_less _ (s := (G, 0)) rfl rfl h1 h2
  · have := mall_less _ (s := (G, 0)) (p := p) rfl rfl (show (mall (G, 0) 1 ([pickR refs x.a, pickR refs x.b, pickR refs x.c].map neg)).1.2 = 0 from h1) (show (mall (less G p, 0) 1 ([pickR refs x.a, pickR refs x.b, pickR refs x.c].map neg)).1.2 = 0 from h2)
    unfold many
    rw [this]
/-- a step with less room -/
theorem stepRes_less {b : Bd} {p : Nat} (h : BOk b) (x : Sm) (hroom : b.G.nodes.length + 3 ≤ b.G.most) (hp : b.G.nodes.length ≤ p) (hp2 : p ≤ 65536) :
    stepRes (less b.G p) b.refs x = (less (stepB b x).G p, (stepRes b.G b.refs x).2.1, 0) ∧ (stepB b x).G.nodes.length ≤ p ∨ stepRes (less b.G p) b.refs x = (less b.G p, 0, 201) := by
  have hg := stepMk_good h.ok h.refs h.pos x
  have he := (hg.room hroom).1
  have ha := stepArgs_lt h.refs h.pos x
  have hok : Ok (less b.G p) := ⟨h.ok.wf, hp, hp2⟩
  have hg2 := stepMk_good hok h.refs h.pos x
  have hw : stepRes b.G b.refs x = ((stepMk b.refs x (b.G, 0)).1.1, (stepMk b.refs x (b.G, 0)).2, 0) := by rw [stepRes_eq]; exact whole_yes ha he
  by_cases h2 : (stepMk b.refs x (less b.G p, 0)).1.2 = 0
  · left
    have hw2 : stepRes (less b.G p) b.refs x = ((stepMk b.refs x (less b.G p, 0)).1.1, (stepMk b.refs x (less b.G p, 0)).2, 0) := by rw [stepRes_eq]; exact whole_yes ha h2
    have hl := stepMk_less x he h2
    have hrm := hg2.ok.ok.room
    rw [hl] at hrm
    unfold stepB
    rw [hw2, hw, hl]
    exact ⟨rfl, hrm⟩
  · right
    have he2 := hg2.ok.err.resolve_left h2
    rw [stepRes_eq]
    have hany : (((stepArgs b.refs x).map fun (r : Nat) => (r : Int)).any fun r => !right (less b.G p).nodes r) = false := by
      rw [List.any_eq_false]
      intro y hy
      obtain ⟨r, hr, rfl⟩ := List.mem_map.1 hy
      simp [right_of (ns := (less b.G p).nodes) (ha r hr)]
    unfold whole
    rw [hany]
    simp only [Bool.false_eq_true, if_false]
    rw [if_pos h2, he2]
/-- a reference, true and the reference again -/
theorem doAll_same {G : Gra} (h : Ok G) {r : Nat} (hr : r < 2 * G.nodes.length) : doAll G [(r : Int), 1, (r : Int)] = (G, r, 0) := by
  have hp := h.wf.pos
  have k1 : andIs 1 r = .known r := by
    unfold andIs
    by_cases h0 : r = 0
    · subst h0; rfl
    · have e1 : neg r ≠ 1 := by unfold neg; split <;> omega
      rw [if_neg (by omega), if_pos (by omega)]
      congr 1; omega
  have k2 : andIs r 1 = .known r := by
    unfold andIs
    by_cases h0 : r = 0
    · subst h0; rfl
    · have e1 : neg 1 = 0 := rfl
      rw [if_neg (by omega), if_pos (by omega)]
      congr 1; omega
  have k3 : andIs r r = .known r := by
    unfold andIs
    by_cases h0 : r = 0
    · subst h0; rfl
    · rw [if_neg (by have := neg_ne r; omega), if_pos (by omega)]
      congr 1; omega
  have m : ∀ a b, andIs a b = .known r → mand (G, 0) a b = ((G, 0), r) := fun a b hi => by
    unfold mand
    rw [if_neg (by simp)]
    have : Aig.and G a b = (G, r, 0) := by unfold Aig.and; rw [hi]
    rw [this]
  have hm : mall (G, 0) 1 [r, 1, r] = ((G, 0), r) := by
    unfold mall; rw [m _ _ k1]
    unfold mall; rw [m _ _ k2]
    unfold mall; rw [m _ _ k3]
    rfl
  have := whole_yes (G := G) (l := [r, 1, r]) (f := fun s => mall s 1 [r, 1, r]) (fun y hy => by simp at hy; omega) (by rw [hm])
  unfold doAll
  simp only [List.map_cons, List.map_nil, hm] at this
  simpa using this
end Go.Proofs.Ytnajonchjlplmaa
