/-
  What was made is made again, plainly: over a graph that was cut off the one that came of it. No program in sight. Conditions: none beyond the hypotheses.
-/
import Derived.Test.YtnajonchjlplmaaQE
namespace Go.Proofs.Ytnajonchjlplmaa
open Go.Aig
/-- the first p nodes of a graph -/
structure Pre (B : Gra) (p : Nat) (H : Gra) : Prop where
  most : H.most = B.most
  le : p ≤ B.nodes.length
  nodes : H.nodes = B.nodes.take p
theorem Pre.len {B H : Gra} {p : Nat} (h : Pre B p H) : H.nodes.length = p := by rw [h.nodes, List.length_take]; have := h.le; omega
theorem _root_.Go.Aig.Ext.take {G B : Gra} (h : Ext G B) : B.nodes.take G.nodes.length = G.nodes := by
  obtain ⟨_, more, e⟩ := h
  rw [e, List.take_left]
theorem _root_.Go.Aig.Ext.get {G B : Gra} (h : Ext G B) {n : Nat} {x : Nd} (hx : G.nodes[n]? = some x) : B.nodes[n]? = some x := by
  obtain ⟨_, more, e⟩ := h
  rw [e, List.getElem?_append_left (List.getElem?_eq_some_iff.1 hx).1]; exact hx
theorem and_again {B G H : Gra} {p a b : Nat} (hB : Ok B) (hG : Ok G) (hH : Pre B p H) (hp : G.nodes.length ≤ p) (he : (Aig.and G a b).2.2 = 0) (hx : Ext (Aig.and G a b).1 B) (_ha : a < 2 * G.nodes.length) (_hb : b < 2 * G.nodes.length) :
    (Aig.and H a b).2.2 = 0 ∧ (Aig.and H a b).2.1 = (Aig.and G a b).2.1 ∧ Pre B (max p (Aig.and G a b).1.nodes.length) (Aig.and H a b).1 := by
  have hpos := hG.wf.pos
  have hwH : WF H.nodes := by rw [hH.nodes]; exact hB.wf.take (by omega)
  unfold Aig.and at he hx ⊢
  split at he
  · rename_i r hi
    exact ⟨rfl, rfl, by show Pre B (max p G.nodes.length) H; rw [Nat.max_eq_left hp]; exact hH⟩
  · rename_i l r hi
    rw [hi] at hx
    dsimp only at hx
    split at he
    · rename_i n hn
      rw [hn] at hx
      obtain ⟨x, hxn, hk, hl, hr⟩ := findAnd_some hn
      have hxB := hx.get hxn
      have hxH : H.nodes[n]? = some x := by rw [hH.nodes, List.getElem?_take, if_pos (by have := (List.getElem?_eq_some_iff.1 hxn).1; omega)]; exact hxB
      have hf := findAnd_of hwH hxH hk
      rw [hl, hr] at hf
      rw [hf]
      exact ⟨rfl, rfl, by show Pre B (max p G.nodes.length) H; rw [Nat.max_eq_left hp]; exact hH⟩
    · rename_i hn
      rw [hn] at hx
      unfold put at he hx ⊢
      split at he
      · cases he
      · rename_i hm
        rw [if_neg hm] at hx
        rw [if_neg hm]
        dsimp only at hx ⊢
        have hxB : B.nodes[G.nodes.length]? = some ⟨3, l, r, 1 + max (dep G.nodes a) (dep G.nodes b)⟩ := hx.get (by simp)
        have hBl := (List.getElem?_eq_some_iff.1 hxB).1
        have hmB : B.most = G.most := hx.most
        by_cases hlt : G.nodes.length < p
        · have hxH : H.nodes[G.nodes.length]? = some ⟨3, l, r, 1 + max (dep G.nodes a) (dep G.nodes b)⟩ := by rw [hH.nodes, List.getElem?_take, if_pos hlt]; exact hxB
          have hf := findAnd_of hwH hxH rfl
          dsimp only at hf
          rw [hf]
          refine ⟨rfl, rfl, ?_⟩
          show Pre B (max p (G.nodes ++ [_]).length) H
          rw [Nat.max_eq_left (by simp; omega)]
          exact hH
        · have hpe : p = G.nodes.length := by omega
          subst hpe
          have hGB : Ext G B := ⟨hmB, by obtain ⟨_, more, e⟩ := hx; exact ⟨[⟨3, l, r, 1 + max (dep G.nodes a) (dep G.nodes b)⟩] ++ more, by rw [e]; simp⟩⟩
          have hHG : H.nodes = G.nodes := by rw [hH.nodes, hGB.take]
          rw [hHG, hn]
          dsimp only
          rw [if_neg (by rw [hH.most, hmB]; exact hm)]
          refine ⟨rfl, rfl, ⟨hH.most, by simp; omega, ?_⟩⟩
          have := hx.take
          simp only [List.length_append, List.length_singleton] at this
          have hm2 : max G.nodes.length (G.nodes ++ [(⟨3, l, r, 1 + max (dep G.nodes a) (dep G.nodes b)⟩ : Nd)]).length = G.nodes.length + 1 := by simp
          rw [hm2]
          exact this.symm
/-- a maker over a cut graph goes with the one that made it -/
theorem mand_again {B : Gra} {s t : Mk} {p a b : Nat} (hB : Ok B) (hs : MOk s) (ht : t.2 = 0) (hH : Pre B p t.1) (hp : s.1.nodes.length ≤ p) (he : (mand s a b).1.2 = 0) (hx : Ext (mand s a b).1.1 B) (ha : a < 2 * s.1.nodes.length) (hb : b < 2 * s.1.nodes.length) :
    (mand t a b).1.2 = 0 ∧ (mand t a b).2 = (mand s a b).2 ∧ Pre B (max p (mand s a b).1.1.nodes.length) (mand t a b).1.1 := by
  obtain ⟨h0, e, h1⟩ := mand_err0 he
  rw [e] at hx ⊢
  obtain ⟨q1, q2, q3⟩ := and_again hB hs.ok hH hp h1 hx ha hb
  unfold mand
  rw [if_neg (by omega)]
  exact ⟨q1, q2, q3⟩
theorem mor_again {B : Gra} {s t : Mk} {p a b : Nat} (hB : Ok B) (hs : MOk s) (ht : t.2 = 0) (hH : Pre B p t.1) (hp : s.1.nodes.length ≤ p) (he : (mor s a b).1.2 = 0) (hx : Ext (mor s a b).1.1 B) (ha : a < 2 * s.1.nodes.length) (hb : b < 2 * s.1.nodes.length) :
    (mor t a b).1.2 = 0 ∧ (mor t a b).2 = (mor s a b).2 ∧ Pre B (max p (mor s a b).1.1.nodes.length) (mor t a b).1.1 := by
  obtain ⟨q1, q2, q3⟩ := mand_again hB hs ht hH hp (a := neg a) (b := neg b) he hx (neg_lt ha) (neg_lt hb)
  exact ⟨q1, by show neg _ = neg _; rw [q2], q3⟩
theorem mmux_again {B : Gra} {s t : Mk} {p c a b : Nat} (hB : Ok B) (hs : MOk s) (ht : t.2 = 0) (hH : Pre B p t.1) (hp : s.1.nodes.length ≤ p) (he : (mmux s c a b).1.2 = 0) (hx : Ext (mmux s c a b).1.1 B) (hc : c < 2 * s.1.nodes.length) (ha : a < 2 * s.1.nodes.length) (hb : b < 2 * s.1.nodes.length) :
    (mmux t c a b).1.2 = 0 ∧ (mmux t c a b).2 = (mmux s c a b).2 ∧ Pre B (max p (mmux s c a b).1.1.nodes.length) (mmux t c a b).1.1 := by
  obtain ⟨h1, h2, h3⟩ := mand_ok hs hc ha
  obtain ⟨h4, h5, h6⟩ := mand_ok h1 (h2.lt (neg_lt hc)) (h2.lt hb)
  obtain ⟨h7, h8, h9⟩ := mor_ok h4 (h5.lt h3) h6
  have e3 : (mor (mand (mand s c a).1 (neg c) b).1 (mand s c a).2 (mand (mand s c a).1 (neg c) b).2).1.2 = 0 := he
  have e2 := (mand_err0 (show (mand (mand (mand s c a).1 (neg c) b).1 (neg (mand s c a).2) (neg (mand (mand s c a).1 (neg c) b).2)).1.2 = 0 from e3)).1
  have e1 := (mand_err0 e2).1
  have hx3 : Ext (mor (mand (mand s c a).1 (neg c) b).1 (mand s c a).2 (mand (mand s c a).1 (neg c) b).2).1.1 B := hx
  have l1 := h2.len
  have l2 := h5.len
  have l3 := h8.len
  obtain ⟨q1, q2, q3⟩ := mand_again hB hs ht hH hp e1 ((h5.trans h8).trans hx3) hc ha
  obtain ⟨q4, q5, q6⟩ := mand_again hB h1 q1 q3 (by omega) e2 (h8.trans hx3) (h2.lt (neg_lt hc)) (h2.lt hb)
  obtain ⟨q7, q8, q9⟩ := mor_again hB h4 q4 q6 (by omega) e3 hx3 (h5.lt h3) h6
  show (mor (mand (mand t c a).1 (neg c) b).1 (mand t c a).2 (mand (mand t c a).1 (neg c) b).2).1.2 = 0 ∧ (mor (mand (mand t c a).1 (neg c) b).1 (mand t c a).2 (mand (mand t c a).1 (neg c) b).2).2 = (mor (mand (mand s c a).1 (neg c) b).1 (mand s c a).2 (mand (mand s c a).1 (neg c) b).2).2 ∧ Pre B (max p (mor (mand (mand s c a).1 (neg c) b).1 (mand s c a).2 (mand (mand s c a).1 (neg c) b).2).1.1.nodes.length) (mor (mand (mand t c a).1 (neg c) b).1 (mand t c a).2 (mand (mand t c a).1 (neg c) b).2).1.1
  rw [q2, q5]
  refine ⟨q7, q8, ?_⟩
  have hm : max (max (max p (mand s c a).1.1.nodes.length) (mand (mand s c a).1 (neg c) b).1.1.nodes.length) (mor (mand (mand s c a).1 (neg c) b).1 (mand s c a).2 (mand (mand s c a).1 (neg c) b).2).1.1.nodes.length = max p (mor (mand (mand s c a).1 (neg c) b).1 (mand s c a).2 (mand (mand s c a).1 (neg c) b).2).1.1.nodes.length := by omega
  rw [← hm]
  exact q9
theorem mall_again {B : Gra} (hB : Ok B) : ∀ (l : List Nat) {s t : Mk} {p out : Nat}, MOk s → t.2 = 0 → Pre B p t.1 → s.1.nodes.length ≤ p → (mall s out l).1.2 = 0 → Ext (mall s out l).1.1 B → out < 2 * s.1.nodes.length → (∀ r ∈ l, r < 2 * s.1.nodes.length) →
    (mall t out l).1.2 = 0 ∧ (mall t out l).2 = (mall s out l).2 ∧ Pre B (max p (mall s out l).1.1.nodes.length) (mall t out l).1.1
  | [], s, t, p, out, _, ht, hH, hp, _, _, _, _ => ⟨ht, rfl, by show Pre B (max p s.1.nodes.length) t.1; rw [Nat.max_eq_left hp]; exact hH⟩
  | r :: l, s, t, p, out, hs, ht, hH, hp, he, hx, ho, hl => by
    obtain ⟨h1, h2, h3⟩ := mand_ok hs ho (hl r (by simp))
    have hr : ∀ x ∈ l, x < 2 * (mand s out r).1.1.nodes.length := fun x hx => h2.lt (hl x (by simp [hx]))
    obtain ⟨h4, h5, h6⟩ := mall_ok l h1 h3 hr
    have e1 : (mand s out r).1.2 = 0 := mall_err0 l he
    have hx1 : Ext (mall (mand s out r).1 (mand s out r).2 l).1.1 B := hx
    obtain ⟨q1, q2, q3⟩ := mand_again hB hs ht hH hp e1 (h5.trans hx1) ho (hl r (by simp))
    have l1 := h2.len
    have l2 := h5.len
    obtain ⟨q4, q5, q6⟩ := mall_again hB l h1 q1 q3 (by omega) he hx1 h3 hr
    show (mall (mand t out r).1 (mand t out r).2 l).1.2 = 0 ∧ (mall (mand t out r).1 (mand t out r).2 l).2 = (mall (mand s out r).1 (mand s out r).2 l).2 ∧ Pre B (max p (mall (mand s out r).1 (mand s out r).2 l).1.1.nodes.length) (mall (mand t out r).1 (mand t out r).2 l).1.1
    rw [q2]
    refine ⟨q4, q5, ?_⟩
    have hm : max (max p (mand s out r).1.1.nodes.length) (mall (mand s out r).1 (mand s out r).2 l).1.1.nodes.length = max p (mall (mand s out r).1 (mand s out r).2 l).1.1.nodes.length := by omega
    rw [← hm]
    exact q6
theorem stepMk_again {B G H : Gra} {p : Nat} {refs : List Nat} (hB : Ok B) (hG : Ok G) (hH : Pre B p H) (hp : G.nodes.length ≤ p) (hr : ∀ r ∈ refs, r < 2 * G.nodes.length) (h0 : 0 < refs.length) (x : Sm) (he : (stepMk refs x (G, 0)).1.2 = 0) (hx : Ext (stepMk refs x (G, 0)).1.1 B) :
    (stepMk refs x (H, 0)).1.2 = 0 ∧ (stepMk refs x (H, 0)).2 = (stepMk refs x (G, 0)).2 ∧ Pre B (max p (stepMk refs x (G, 0)).1.1.nodes.length) (stepMk refs x (H, 0)).1.1 := by
  have hpa := pickR_lt hr h0 x.a
  have hqa := pickR_lt hr h0 x.b
  have hza := pickR_lt hr h0 x.c
  have hpos := hG.wf.pos
  have hl : ∀ r ∈ [pickR refs x.a, pickR refs x.b, pickR refs x.c], r < 2 * G.nodes.length := fun r hr => by
    simp at hr; rcases hr with rfl | rfl | rfl <;> assumption
  have hln : ∀ r ∈ [pickR refs x.a, pickR refs x.b, pickR refs x.c].map neg, r < 2 * G.nodes.length := fun r hr => by
    obtain ⟨y, hy, rfl⟩ := List.mem_map.1 hr
    exact neg_lt (hl y hy)
  unfold stepMk at he hx ⊢
  rcases (show x.k % 6 = 0 ∨ x.k % 6 = 1 ∨ x.k % 6 = 2 ∨ x.k % 6 = 3 ∨ x.k % 6 = 4 ∨ x.k % 6 = 5 by omega) with e | e | e | e | e | e <;> simp (decide := true) only [e, if_true, if_false] at he hx ⊢
  · exact mand_again (s := (G, 0)) (t := (H, 0)) hB ⟨hG, .inl rfl⟩ rfl hH hp he hx hpa hqa
  · exact mor_again (s := (G, 0)) (t := (H, 0)) hB ⟨hG, .inl rfl⟩ rfl hH hp he hx hpa hqa
  · exact mmux_again (s := (G, 0)) (t := (H, 0)) hB ⟨hG, .inl rfl⟩ rfl hH hp he hx hpa (neg_lt hqa) hqa
  · exact mmux_again (s := (G, 0)) (t := (H, 0)) hB ⟨hG, .inl rfl⟩ rfl hH hp he hx hpa hqa hza
  · exact mall_again hB _ (s := (G, 0)) (t := (H, 0)) ⟨hG, .inl rfl⟩ rfl hH hp he hx (by show 1 < 2 * G.nodes.length; omega) hl
  · obtain ⟨q1, q2, q3⟩ := mall_again hB _ (s := (G, 0)) (t := (H, 0)) ⟨hG, .inl rfl⟩ rfl hH hp he hx (by show 1 < 2 * G.nodes.length; omega) hln
    exact ⟨q1, by show neg _ = neg _; rw [q2], q3⟩
theorem whole_yes {G : Gra} {l : List Nat} {f : Mk → Mk × Nat} (hl : ∀ r ∈ l, r < 2 * G.nodes.length) (he : (f (G, 0)).1.2 = 0) : whole G (l.map fun (r : Nat) => (r : Int)) f = ((f (G, 0)).1.1, (f (G, 0)).2, 0) := by
  have hany : ((l.map fun (r : Nat) => (r : Int)).any fun r => !right G.nodes r) = false := by
    rw [List.any_eq_false]
    intro x hx
    obtain ⟨r, hr, rfl⟩ := List.mem_map.1 hx
    simp [right_of (hl r hr)]
  unfold whole
  rw [hany]
  simp only [Bool.false_eq_true, if_false]
  rw [if_neg (by omega)]
theorem stepArgs_lt {refs : List Nat} {m : Nat} (hr : ∀ r ∈ refs, r < 2 * m) (h0 : 0 < refs.length) (x : Sm) : ∀ r ∈ stepArgs refs x, r < 2 * m := fun r h => by
  unfold stepArgs at h
  split at h <;> simp at h
  · rcases h with rfl | rfl <;> exact pickR_lt hr h0 _
  · rcases h with rfl | rfl | rfl <;> exact pickR_lt hr h0 _
/-- a step made again -/
theorem stepRes_again {B H : Gra} {b : Bd} {p : Nat} (hB : Ok B) (h : BOk b) (hH : Pre B p H) (hp : b.G.nodes.length ≤ p) (x : Sm) (hroom : b.G.nodes.length + 3 ≤ b.G.most) (hx : Ext (stepB b x).G B) :
    stepRes H b.refs x = ((stepRes H b.refs x).1, (stepRes b.G b.refs x).2.1, 0) ∧ Pre B (max p (stepB b x).G.nodes.length) (stepRes H b.refs x).1 := by
  have hg := stepMk_good h.ok h.refs h.pos x
  have he := (hg.room hroom).1
  have ha := stepArgs_lt h.refs h.pos x
  have hw : stepRes b.G b.refs x = ((stepMk b.refs x (b.G, 0)).1.1, (stepMk b.refs x (b.G, 0)).2, 0) := by rw [stepRes_eq]; exact whole_yes ha he
  have hx2 : Ext (stepMk b.refs x (b.G, 0)).1.1 B := by unfold stepB at hx; rw [hw] at hx; exact hx
  obtain ⟨q1, q2, q3⟩ := stepMk_again hB h.ok hH hp h.refs h.pos x he hx2
  have hHl := hH.len
  have hwH : stepRes H b.refs x = ((stepMk b.refs x (H, 0)).1.1, (stepMk b.refs x (H, 0)).2, 0) := by rw [stepRes_eq]; exact whole_yes (fun r hr => by have := ha r hr; omega) q1
  refine ⟨by rw [hwH, hw, q2], ?_⟩
  rw [hwH]
  unfold stepB
  rw [hw]
  exact q3
end Go.Proofs.Ytnajonchjlplmaa
