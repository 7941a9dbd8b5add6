/-
  What was made is made again, plainly: over a graph that was cut off the one that came of it. No program in sight. Conditions: none beyond the hypotheses.
  The steps of a built graph, plainly: what lies between them, and that each made again is the same. No program in sight. Conditions: none beyond the hypotheses.
  The cone that AigCone looks through, plainly: in which order, what is marked when, how many. No program in sight. Conditions: none beyond the hypotheses.
  What Sides and Depth say of a node of the cone, plainly. No program in sight. Conditions: a well-formed graph.
  Walks over slices.BinarySearch of ints, sim's Nodes and Support. Conditions: a rising slice; a graph in memory.
  Walks over few, index, ref and made of chapter 21's laws. Conditions: a slice of nodes of any integers.
  From a law's arguments to what the walks say: nodes, slices of words. Conditions: those of the given row.
  Walks over bitword: the table of the operations, what each does, Apply. Conditions: words in range, a width from 1 to 16.
  Walks over bitword: Name, what each operation does, Cut, Apply. Conditions: words in range, a width from 1 to 16.
  Of constants everything is a constant, plainly: what the operations of sums make of words of constants, and the numbers that these are. No program in sight. Conditions: none beyond the hypotheses.
  What made makes of two words of constants, plainly: constants, and the numbers that the operations say. No program in sight. Conditions: none beyond the hypotheses.
  What SumsIs asks, plainly: for words of one to five bits, all assignments at once, by evaluation. No program in sight. Conditions: none beyond the hypotheses.
  Reads of words for values of the inputs; the values of the inputs of chapter 23's law; slices.Clone of numbers. Conditions: a graph in memory, words of 1 to 16 bits.
  Walk over SumsIs: true, whatever comes in. Conditions: a byte, a slice of any numbers.
-/
import Derived.Test.YtnmfdiiehkkjcaaGreatQD
import Derived.Test.YtnmfdiiehkkjcaaGreatQB
import Derived.Test.YtnmfdiiehkkjcaaGreatQC
import Derived.Deep.WholeRow
namespace Go.Proofs.YtnmfdiiehkkjcaaGreat
open Go.Aig
/-- the first p nodes of a graph -/
structure Pre (B : Gra) (p : Nat) (H : Gra) : Prop where
  most : H.most = B.most
  le : p ≤ B.nodes.length
  nodes : H.nodes = B.nodes.take p
theorem Pre.len {B H : Gra} {p : Nat} (h : Pre B p H) : H.nodes.length = p := by rw [h.nodes, List.length_take]; have := h.le; omega
theorem _root_.Go.Aig.Ext.take {G B : Gra} (h : Ext G B) : B.nodes.take G.nodes.length = G.nodes := by
  obtain ⟨_, more, e⟩ := h
  rw [e, List.take_left]
theorem _root_.Go.Aig.Ext.get {G B : Gra} (h : Ext G B) {n : Nat} {x : Nd} (hx : G.nodes[n]? = some x) : B.nodes[n]? = some x := by
  obtain ⟨_, more, e⟩ := h
  rw [e, List.getElem?_append_left (List.getElem?_eq_some_iff.1 hx).1]; exact hx
theorem and_again {B G H : Gra} {p a b : Nat} (hB : Ok B) (hG : Ok G) (hH : Pre B p H) (hp : G.nodes.length ≤ p) (he : (Aig.and G a b).2.2 = 0) (hx : Ext (Aig.and G a b).1 B) (_ha : a < 2 * G.nodes.length) (_hb : b < 2 * G.nodes.length) :
    (Aig.and H a b).2.2 = 0 ∧ (Aig.and H a b).2.1 = (Aig.and G a b).2.1 ∧ Pre B (max p (Aig.and G a b).1.nodes.length) (Aig.and H a b).1 := by
  have hpos := hG.wf.pos
  have hwH : WF H.nodes := by rw [hH.nodes]; exact hB.wf.take (by omega)
  unfold Aig.and at he hx ⊢
  split at he
  · rename_i r hi
    exact ⟨rfl, rfl, by show Pre B (max p G.nodes.length) H; rw [Nat.max_eq_left hp]; exact hH⟩
  · rename_i l r hi
    rw [hi] at hx
    dsimp only at hx
    split at he
    · rename_i n hn
      rw [hn] at hx
      obtain ⟨x, hxn, hk, hl, hr⟩ := findAnd_some hn
      have hxB := hx.get hxn
      have hxH : H.nodes[n]? = some x := by rw [hH.nodes, List.getElem?_take, if_pos (by have := (List.getElem?_eq_some_iff.1 hxn).1; omega)]; exact hxB
      have hf := findAnd_of hwH hxH hk
      rw [hl, hr] at hf
      rw [hf]
      exact ⟨rfl, rfl, by show Pre B (max p G.nodes.length) H; rw [Nat.max_eq_left hp]; exact hH⟩
    · rename_i hn
      rw [hn] at hx
      unfold put at he hx ⊢
      split at he
      · cases he
      · rename_i hm
        rw [if_neg hm] at hx
        rw [if_neg hm]
        dsimp only at hx ⊢
        have hxB : B.nodes[G.nodes.length]? = some ⟨3, l, r, 1 + max (dep G.nodes a) (dep G.nodes b)⟩ := hx.get (by simp)
        have hBl := (List.getElem?_eq_some_iff.1 hxB).1
        have hmB : B.most = G.most := hx.most
        by_cases hlt : G.nodes.length < p
        · have hxH : H.nodes[G.nodes.length]? = some ⟨3, l, r, 1 + max (dep G.nodes a) (dep G.nodes b)⟩ := by rw [hH.nodes, List.getElem?_take, if_pos hlt]; exact hxB
          have hf := findAnd_of hwH hxH rfl
          dsimp only at hf
          rw [hf]
          refine ⟨rfl, rfl, ?_⟩
          show Pre B (max p (G.nodes ++ [_]).length) H
          rw [Nat.max_eq_left (by simp; omega)]
          exact hH
        · have hpe : p = G.nodes.length := by omega
          subst hpe
          have hGB : Ext G B := ⟨hmB, by obtain ⟨_, more, e⟩ := hx; exact ⟨[⟨3, l, r, 1 + max (dep G.nodes a) (dep G.nodes b)⟩] ++ more, by rw [e]; simp⟩⟩
          have hHG : H.nodes = G.nodes := by rw [hH.nodes, hGB.take]
          rw [hHG, hn]
          dsimp only
          rw [if_neg (by rw [hH.most, hmB]; exact hm)]
          refine ⟨rfl, rfl, ⟨hH.most, by simp; omega, ?_⟩⟩
          have := hx.take
          simp only [List.length_append, List.length_singleton] at this
          have hm2 : max G.nodes.length (G.nodes ++ [(⟨3, l, r, 1 + max (dep G.nodes a) (dep G.nodes b)⟩ : Nd)]).length = G.nodes.length + 1 := by simp
          rw [hm2]
          exact this.symm
/-- a maker over a cut graph goes with the one that made it -/
theorem mand_again {B : Gra} {s t : Mk} {p a b : Nat} (hB : Ok B) (hs : MOk s) (ht : t.2 = 0) (hH : Pre B p t.1) (hp : s.1.nodes.length ≤ p) (he : (mand s a b).1.2 = 0) (hx : Ext (mand s a b).1.1 B) (ha : a < 2 * s.1.nodes.length) (hb : b < 2 * s.1.nodes.length) :
    (mand t a b).1.2 = 0 ∧ (mand t a b).2 = (mand s a b).2 ∧ Pre B (max p (mand s a b).1.1.nodes.length) (mand t a b).1.1 := by
  obtain ⟨h0, e, h1⟩ := mand_err0 he
  rw [e] at hx ⊢
  obtain ⟨q1, q2, q3⟩ := and_again hB hs.ok hH hp h1 hx ha hb
  unfold mand
  rw [if_neg (by omega)]
  exact ⟨q1, q2, q3⟩
theorem mor_again {B : Gra} {s t : Mk} {p a b : Nat} (hB : Ok B) (hs : MOk s) (ht : t.2 = 0) (hH : Pre B p t.1) (hp : s.1.nodes.length ≤ p) (he : (mor s a b).1.2 = 0) (hx : Ext (mor s a b).1.1 B) (ha : a < 2 * s.1.nodes.length) (hb : b < 2 * s.1.nodes.length) :
    (mor t a b).1.2 = 0 ∧ (mor t a b).2 = (mor s a b).2 ∧ Pre B (max p (mor s a b).1.1.nodes.length) (mor t a b).1.1 := by
  obtain ⟨q1, q2, q3⟩ := mand_again hB hs ht hH hp (a := neg a) (b := neg b) he hx (neg_lt ha) (neg_lt hb)
  exact ⟨q1, by show neg _ = neg _; rw [q2], q3⟩
theorem mmux_again {B : Gra} {s t : Mk} {p c a b : Nat} (hB : Ok B) (hs : MOk s) (ht : t.2 = 0) (hH : Pre B p t.1) (hp : s.1.nodes.length ≤ p) (he : (mmux s c a b).1.2 = 0) (hx : Ext (mmux s c a b).1.1 B) (hc : c < 2 * s.1.nodes.length) (ha : a < 2 * s.1.nodes.length) (hb : b < 2 * s.1.nodes.length) :
    (mmux t c a b).1.2 = 0 ∧ (mmux t c a b).2 = (mmux s c a b).2 ∧ Pre B (max p (mmux s c a b).1.1.nodes.length) (mmux t c a b).1.1 := by
  obtain ⟨h1, h2, h3⟩ := mand_ok hs hc ha
  obtain ⟨h4, h5, h6⟩ := mand_ok h1 (h2.lt (neg_lt hc)) (h2.lt hb)
  obtain ⟨h7, h8, h9⟩ := mor_ok h4 (h5.lt h3) h6
  have e3 : (mor (mand (mand s c a).1 (neg c) b).1 (mand s c a).2 (mand (mand s c a).1 (neg c) b).2).1.2 = 0 := he
  have e2 := (mand_err0 (show (mand (mand (mand s c a).1 (neg c) b).1 (neg (mand s c a).2) (neg (mand (mand s c a).1 (neg c) b).2)).1.2 = 0 from e3)).1
  have e1 := (mand_err0 e2).1
  have hx3 : Ext (mor (mand (mand s c a).1 (neg c) b).1 (mand s c a).2 (mand (mand s c a).1 (neg c) b).2).1.1 B := hx
  have l1 := h2.len
  have l2 := h5.len
  have l3 := h8.len
  obtain ⟨q1, q2, q3⟩ := mand_again hB hs ht hH hp e1 ((h5.trans h8).trans hx3) hc ha
  obtain ⟨q4, q5, q6⟩ := mand_again hB h1 q1 q3 (by omega) e2 (h8.trans hx3) (h2.lt (neg_lt hc)) (h2.lt hb)
  obtain ⟨q7, q8, q9⟩ := mor_again hB h4 q4 q6 (by omega) e3 hx3 (h5.lt h3) h6
  show (mor (mand (mand t c a).1 (neg c) b).1 (mand t c a).2 (mand (mand t c a).1 (neg c) b).2).1.2 = 0 ∧ (mor (mand (mand t c a).1 (neg c) b).1 (mand t c a).2 (mand (mand t c a).1 (neg c) b).2).2 = (mor (mand (mand s c a).1 (neg c) b).1 (mand s c a).2 (mand (mand s c a).1 (neg c) b).2).2 ∧ Pre B (max p (mor (mand (mand s c a).1 (neg c) b).1 (mand s c a).2 (mand (mand s c a).1 (neg c) b).2).1.1.nodes.length) (mor (mand (mand t c a).1 (neg c) b).1 (mand t c a).2 (mand (mand t c a).1 (neg c) b).2).1.1
  rw [q2, q5]
  refine ⟨q7, q8, ?_⟩
  have hm : max (max (max p (mand s c a).1.1.nodes.length) (mand (mand s c a).1 (neg c) b).1.1.nodes.length) (mor (mand (mand s c a).1 (neg c) b).1 (mand s c a).2 (mand (mand s c a).1 (neg c) b).2).1.1.nodes.length = max p (mor (mand (mand s c a).1 (neg c) b).1 (mand s c a).2 (mand (mand s c a).1 (neg c) b).2).1.1.nodes.length := by omega
  rw [← hm]
  exact q9
theorem mall_again {B : Gra} (hB : Ok B) : ∀ (l : List Nat) {s t : Mk} {p out : Nat}, MOk s → t.2 = 0 → Pre B p t.1 → s.1.nodes.length ≤ p → (mall s out l).1.2 = 0 → Ext (mall s out l).1.1 B → out < 2 * s.1.nodes.length → (∀ r ∈ l, r < 2 * s.1.nodes.length) →
    (mall t out l).1.2 = 0 ∧ (mall t out l).2 = (mall s out l).2 ∧ Pre B (max p (mall s out l).1.1.nodes.length) (mall t out l).1.1
  | [], s, t, p, out, _, ht, hH, hp, _, _, _, _ => ⟨ht, rfl, by show Pre B (max p s.1.nodes.length) t.1; rw [Nat.max_eq_left hp]; exact hH⟩
  | r :: l, s, t, p, out, hs, ht, hH, hp, he, hx, ho, hl => by
    obtain ⟨h1, h2, h3⟩ := mand_ok hs ho (hl r (by simp))
    have hr : ∀ x ∈ l, x < 2 * (mand s out r).1.1.nodes.length := fun x hx => h2.lt (hl x (by simp [hx]))
    obtain ⟨h4, h5, h6⟩ := mall_ok l h1 h3 hr
    have e1 : (mand s out r).1.2 = 0 := mall_err0 l he
    have hx1 : Ext (mall (mand s out r).1 (mand s out r).2 l).1.1 B := hx
    obtain ⟨q1, q2, q3⟩ := mand_again hB hs ht hH hp e1 (h5.trans hx1) ho (hl r (by simp))
    have l1 := h2.len
    have l2 := h5.len
    obtain ⟨q4, q5, q6⟩ := mall_again hB l h1 q1 q3 (by omega) he hx1 h3 hr
    show (mall (mand t out r).1 (mand t out r).2 l).1.2 = 0 ∧ (mall (mand t out r).1 (mand t out r).2 l).2 = (mall (mand s out r).1 (mand s out r).2 l).2 ∧ Pre B (max p (mall (mand s out r).1 (mand s out r).2 l).1.1.nodes.length) (mall (mand t out r).1 (mand t out r).2 l).1.1
    rw [q2]
    refine ⟨q4, q5, ?_⟩
    have hm : max (max p (mand s out r).1.1.nodes.length) (mall (mand s out r).1 (mand s out r).2 l).1.1.nodes.length = max p (mall (mand s out r).1 (mand s out r).2 l).1.1.nodes.length := by omega
    rw [← hm]
    exact q6
theorem stepMk_again {B G H : Gra} {p : Nat} {refs : List Nat} (hB : Ok B) (hG : Ok G) (hH : Pre B p H) (hp : G.nodes.length ≤ p) (hr : ∀ r ∈ refs, r < 2 * G.nodes.length) (h0 : 0 < refs.length) (x : Sm) (he : (stepMk refs x (G, 0)).1.2 = 0) (hx : Ext (stepMk refs x (G, 0)).1.1 B) :
    (stepMk refs x (H, 0)).1.2 = 0 ∧ (stepMk refs x (H, 0)).2 = (stepMk refs x (G, 0)).2 ∧ Pre B (max p (stepMk refs x (G, 0)).1.1.nodes.length) (stepMk refs x (H, 0)).1.1 := by
  have hpa := pickR_lt hr h0 x.a
  have hqa := pickR_lt hr h0 x.b
  have hza := pickR_lt hr h0 x.c
  have hpos := hG.wf.pos
  have hl : ∀ r ∈ [pickR refs x.a, pickR refs x.b, pickR refs x.c], r < 2 * G.nodes.length := fun r hr => by
    simp at hr; rcases hr with rfl | rfl | rfl <;> assumption
  have hln : ∀ r ∈ [pickR refs x.a, pickR refs x.b, pickR refs x.c].map neg, r < 2 * G.nodes.length := fun r hr => by
    obtain ⟨y, hy, rfl⟩ := List.mem_map.1 hr
    exact neg_lt (hl y hy)
  unfold stepMk at he hx ⊢
  rcases (show x.k % 6 = 0 ∨ x.k % 6 = 1 ∨ x.k % 6 = 2 ∨ x.k % 6 = 3 ∨ x.k % 6 = 4 ∨ x.k % 6 = 5 by omega) with e | e | e | e | e | e <;> simp (decide := true) only [e, if_true, if_false] at he hx ⊢
  · exact mand_again (s := (G, 0)) (t := (H, 0)) hB ⟨hG, .inl rfl⟩ rfl hH hp he hx hpa hqa
  · exact mor_again (s := (G, 0)) (t := (H, 0)) hB ⟨hG, .inl rfl⟩ rfl hH hp he hx hpa hqa
  · exact mmux_again (s := (G, 0)) (t := (H, 0)) hB ⟨hG, .inl rfl⟩ rfl hH hp he hx hpa (neg_lt hqa) hqa
  · exact mmux_again (s := (G, 0)) (t := (H, 0)) hB ⟨hG, .inl rfl⟩ rfl hH hp he hx hpa hqa hza
  · exact mall_again hB _ (s := (G, 0)) (t := (H, 0)) ⟨hG, .inl rfl⟩ rfl hH hp he hx (by show 1 < 2 * G.nodes.length; omega) hl
  · obtain ⟨q1, q2, q3⟩ := mall_again hB _ (s := (G, 0)) (t := (H, 0)) ⟨hG, .inl rfl⟩ rfl hH hp he hx (by show 1 < 2 * G.nodes.length; omega) hln
    exact ⟨q1, by show neg _ = neg _; rw [q2], q3⟩
theorem whole_yes {G : Gra} {l : List Nat} {f : Mk → Mk × Nat} (hl : ∀ r ∈ l, r < 2 * G.nodes.length) (he : (f (G, 0)).1.2 = 0) : whole G (l.map fun (r : Nat) => (r : Int)) f = ((f (G, 0)).1.1, (f (G, 0)).2, 0) := by
  have hany : ((l.map fun (r : Nat) => (r : Int)).any fun r => !right G.nodes r) = false := by
    rw [List.any_eq_false]
    intro x hx
    obtain ⟨r, hr, rfl⟩ := List.mem_map.1 hx
    simp [right_of (hl r hr)]
  unfold whole
  rw [hany]
  simp only [Bool.false_eq_true, if_false]
  rw [if_neg (by omega)]
theorem stepArgs_lt {refs : List Nat} {m : Nat} (hr : ∀ r ∈ refs, r < 2 * m) (h0 : 0 < refs.length) (x : Sm) : ∀ r ∈ stepArgs refs x, r < 2 * m := fun r h => by
  unfold stepArgs at h
  split at h <;> simp at h
  · rcases h with rfl | rfl <;> exact pickR_lt hr h0 _
  · rcases h with rfl | rfl | rfl <;> exact pickR_lt hr h0 _
/-- a step made again -/
theorem stepRes_again {B H : Gra} {b : Bd} {p : Nat} (hB : Ok B) (h : BOk b) (hH : Pre B p H) (hp : b.G.nodes.length ≤ p) (x : Sm) (hroom : b.G.nodes.length + 3 ≤ b.G.most) (hx : Ext (stepB b x).G B) :
    stepRes H b.refs x = ((stepRes H b.refs x).1, (stepRes b.G b.refs x).2.1, 0) ∧ Pre B (max p (stepB b x).G.nodes.length) (stepRes H b.refs x).1 := by
  have hg := stepMk_good h.ok h.refs h.pos x
  have he := (hg.room hroom).1
  have ha := stepArgs_lt h.refs h.pos x
  have hw : stepRes b.G b.refs x = ((stepMk b.refs x (b.G, 0)).1.1, (stepMk b.refs x (b.G, 0)).2, 0) := by rw [stepRes_eq]; exact whole_yes ha he
  have hx2 : Ext (stepMk b.refs x (b.G, 0)).1.1 B := by unfold stepB at hx; rw [hw] at hx; exact hx
  obtain ⟨q1, q2, q3⟩ := stepMk_again hB h.ok hH hp h.refs h.pos x he hx2
  have hHl := hH.len
  have hwH : stepRes H b.refs x = ((stepMk b.refs x (H, 0)).1.1, (stepMk b.refs x (H, 0)).2, 0) := by rw [stepRes_eq]; exact whole_yes (fun r hr => by have := ha r hr; omega) q1
  refine ⟨by rw [hwH, hw, q2], ?_⟩
  rw [hwH]
  unfold stepB
  rw [hw]
  exact q3
end Go.Proofs.YtnmfdiiehkkjcaaGreat
namespace Go.Proofs.YtnmfdiiehkkjcaaGreat
open Go.Aig
theorem run_prefix : ∀ (l : List Sm) (b : Bd), (∃ m, (l.foldl stepB b).refs = b.refs ++ m) ∧ ∃ m, (l.foldl stepB b).want = b.want ++ m
  | [], b => ⟨⟨[], by simp⟩, ⟨[], by simp⟩⟩
  | x :: l, b => by
    obtain ⟨⟨m, h⟩, ⟨m', h'⟩⟩ := run_prefix l (stepB b x)
    exact ⟨⟨_, by rw [List.foldl_cons, h]; unfold stepB; rw [List.append_assoc]⟩, ⟨_, by rw [List.foldl_cons, h']; unfold stepB; rw [List.append_assoc]⟩⟩
/-- the graph behind i steps -/
def runTo (l : List Sm) (i : Nat) : Bd := ((l.take 60).take i).foldl stepB (bd0 4000 4)
structure AtStep (l : List Sm) (B : Bd) (i : Nat) (x : Sm) : Prop where
  ok : BOk (runTo l i)
  len : (runTo l i).G.nodes.length + 3 ≤ (runTo l i).G.most
  refs : (runTo l i).refs = B.refs.take (5 + i)
  want : (runTo l i).want = B.want.take (5 + i)
  next : runTo l (i + 1) = stepB (runTo l i) x
  ext : Ext (stepB (runTo l i) x).G B.G
  got : B.refs[5 + i]? = some (stepRes (runTo l i).G (runTo l i).refs x).2.1
  le : (runTo l i).G.nodes.length ≤ B.G.nodes.length
theorem runTo_all (l : List Sm) : runTo l (l.take 60).length = builtB 4000 (l.take 60) := by unfold runTo builtB; rw [List.take_length]
theorem runTo_zero (l : List Sm) : runTo l 0 = bd0 4000 4 := by unfold runTo; simp
theorem at_step {l : List Sm} {i : Nat} {x : Sm} (hx : (l.take 60)[i]? = some x) : AtStep l (builtB 4000 (l.take 60)) i x := by
  have hi := (List.getElem?_eq_some_iff.1 hx).1
  have hm : (l.take 60).length ≤ 60 := by rw [List.length_take]; omega
  have hn0 : (bd0 4000 4).G.nodes.length = 5 := rfl
  have hr0 : (bd0 4000 4).refs.length = 5 := rfl
  have hli : ((l.take 60).take i).length = i := by rw [List.length_take]; omega
  have hrun := run_ok ((l.take 60).take i) (bd0_ok (most := 4000) (by omega) (by omega)) (by rw [hli, hn0]; show 5 + 3 * i ≤ 4000; omega)
  rw [show ((l.take 60).take i).foldl stepB (bd0 4000 4) = runTo l i from rfl] at hrun
  obtain ⟨r1, r2, r3, r4⟩ := hrun
  rw [hli] at r3 r4
  rw [hn0] at r3
  rw [hr0] at r4
  have hmost : (runTo l i).G.most = 4000 := r2.most
  have hsplit : builtB 4000 (l.take 60) = ((l.take 60).drop i).foldl stepB (runTo l i) := by
    unfold builtB runTo
    rw [← List.foldl_append, List.take_append_drop]
  have hd : (l.take 60).drop i = x :: (l.take 60).drop (i + 1) := by
    rw [List.drop_eq_getElem_cons hi]
    rw [List.getElem?_eq_getElem hi] at hx
    cases hx; rfl
  obtain ⟨s1, s2, s3, s4⟩ := stepB_ok r1 x (by show (runTo l i).G.nodes.length + 3 ≤ (runTo l i).G.most; rw [hmost]; have : (runTo l i).G.nodes.length ≤ 5 + 3 * i := r3; omega)
  have hsplit2 : builtB 4000 (l.take 60) = ((l.take 60).drop (i + 1)).foldl stepB (stepB (runTo l i) x) := by rw [hsplit, hd]; rfl
  have hdl : ((l.take 60).drop (i + 1)).length ≤ 60 - (i + 1) := by rw [List.length_drop]; omega
  have hnl : (runTo l i).G.nodes.length ≤ 5 + 3 * i := r3
  have hsm : (stepB (runTo l i) x).G.most = 4000 := s3.most.trans hmost
  have hs4 : (stepB (runTo l i) x).G.nodes.length ≤ (runTo l i).G.nodes.length + 3 := s4
  obtain ⟨t1, t2, t3, t4⟩ := run_ok ((l.take 60).drop (i + 1)) s2 (by show (stepB (runTo l i) x).G.nodes.length + _ ≤ (stepB (runTo l i) x).G.most; omega)
  rw [← hsplit2] at t2
  obtain ⟨⟨m1, p1⟩, ⟨m2, p2⟩⟩ := run_prefix ((l.take 60).drop i) (runTo l i)
  rw [← hsplit] at p1 p2
  have hrl : (runTo l i).refs.length = 5 + i := r4
  have hwl : (runTo l i).want.length = 5 + i := by have := r1.len; show (runTo l i).want.length = _; have h2 : (runTo l i).refs.length = (runTo l i).want.length := this; omega
  obtain ⟨⟨m3, p3⟩, _⟩ := run_prefix ((l.take 60).drop (i + 1)) (stepB (runTo l i) x)
  rw [← hsplit2] at p3
  refine ⟨r1, by omega, by rw [p1, ← hrl, List.take_left], by rw [p2, ← hwl, List.take_left], ?_, t2, ?_, ?_⟩
  · unfold runTo
    rw [List.take_add_one, hx, List.foldl_append]; rfl
  · rw [p3]
    unfold stepB
    dsimp only
    rw [List.append_assoc, List.getElem?_append_right (by omega), hrl]
    simp
  · have := s3.len
    have h2 := t2.len
    have h3 : (runTo l i).G.nodes.length ≤ (stepB (runTo l i) x).G.nodes.length := this
    omega
/-- the and of a node's sides is that node -/
theorem doAnd_node {G : Gra} (h : Ok G) {i : Nat} {x : Nd} (hx : G.nodes[i]? = some x) (hk : x.k = 3) : doAnd G x.l x.r = (G, 2 * i, 0) ∧ doAnd G x.r x.l = (G, 2 * i, 0) := by
  obtain ⟨s1, s2, s3, s4, s5⟩ := h.wf.sides hx hk
  have hi := (List.getElem?_eq_some_iff.1 hx).1
  have hf := findAnd_of h.wf hx hk
  have hn : ∀ a b, (a = x.l ∧ b = x.r ∨ a = x.r ∧ b = x.l) → andIs a b = .node x.l x.r := by
    intro a b hab
    unfold andIs
    have e1 : min a b = x.l := by omega
    have e2 : max a b = x.r := by omega
    rw [e1, e2, if_neg, if_neg]
    · omega
    · intro hc
      rcases hc with hc | hc
      · omega
      · unfold neg at hc
        split at hc <;> omega
  have go : ∀ a b : Nat, (a = x.l ∧ b = x.r ∨ a = x.r ∧ b = x.l) → doAnd G a b = (G, 2 * i, 0) := by
    intro a b hab
    have hand : Aig.and G a b = (G, 2 * i, 0) := by unfold Aig.and; rw [hn a b hab]; dsimp only; rw [hf]
    have hm : mand (G, 0) a b = ((G, 0), 2 * i) := by unfold mand; rw [if_neg (by simp), hand]
    have := whole_yes (G := G) (l := [a, b]) (f := fun s => mand s a b) (fun r hr => by simp at hr; omega) (by rw [hm])
    unfold doAnd
    simp only [List.map_cons, List.map_nil, hm] at this
    simpa using this
  exact ⟨go _ _ (.inl ⟨rfl, rfl⟩), go _ _ (.inr ⟨rfl, rfl⟩)⟩
end Go.Proofs.YtnmfdiiehkkjcaaGreat
namespace Go.Proofs.YtnmfdiiehkkjcaaGreat
open Go.Aig
theorem coneFrom_cons {ns : List Nd} : ∀ {n : Nat} {met : List Bool} {d : Nat} {rest : List Nat}, coneFrom ns n met = d :: rest → d < n ∧ met.getD d false = true ∧ (∀ m, d < m → m < n → met.getD m false = false) ∧ rest = coneFrom ns d (stepMet ns met d)
  | 0, met, d, rest, h => by cases h
  | n + 1, met, d, rest, h => by
    unfold coneFrom at h
    split at h
    · rename_i hm
      obtain ⟨rfl, rfl⟩ := List.cons.inj h
      exact ⟨by omega, hm, fun m h1 h2 => by omega, rfl⟩
    · rename_i hm
      obtain ⟨h1, h2, h3, h4⟩ := coneFrom_cons h
      refine ⟨by omega, h2, fun m q1 q2 => ?_, h4⟩
      by_cases e : m = n
      · subst e; simpa using hm
      · exact h3 m q1 (by omega)
theorem coneFrom_nil {ns : List Nd} : ∀ {n : Nat} {met : List Bool}, coneFrom ns n met = [] → ∀ m, m < n → met.getD m false = false
  | 0, _, _, m, hm => by omega
  | n + 1, met, h, m, hm => by
    unfold coneFrom at h
    split at h
    · cases h
    · rename_i hn
      by_cases e : m = n
      · subst e; simpa using hn
      · exact coneFrom_nil h m (by omega)
theorem getD_set {l : List Bool} {i j : Nat} : (l.set i true).getD j false = true ↔ (l.getD j false = true ∨ (j = i ∧ i < l.length)) := by
  rw [List.getD_eq_getElem?_getD, List.getD_eq_getElem?_getD, List.getElem?_set]
  by_cases e : i = j
  · subst e
    by_cases h : i < l.length
    · simp [h]
    · simp [h]
  · simp [e, Ne.symm e]
/-- one node of the cone after the other -/
structure ConeAt (ns : List Nd) (D : List Nat) (k n : Nat) (met : List Bool) : Prop where
  len : met.length = ns.length
  rest : D.drop k = coneFrom ns n met
  done : ∀ m, (met.getD m false = true ∧ n ≤ m) ↔ m ∈ D.take k
theorem ConeAt.start (ns : List Nd) (l : List Nat) : ConeAt ns (coneDown ns l) 0 ns.length (met0 ns.length l) := by
  refine ⟨met0_len _ _, by simp [coneDown], fun m => ⟨fun ⟨h1, h2⟩ => ?_, fun h => by simp at h⟩⟩
  rw [List.getD_eq_getElem?_getD, List.getElem?_eq_none (by rw [met0_len]; exact h2)] at h1
  cases h1
theorem stepMet_getD {ns : List Nd} {met : List Bool} (hw : WF ns) {d : Nat} (hl : met.length = ns.length) (m : Nat) : (stepMet ns met d).getD m false = true ↔ (met.getD m false = true ∨ ∃ x, ns[d]? = some x ∧ x.k = 3 ∧ (m = x.l / 2 ∨ m = x.r / 2)) := by
  unfold stepMet
  split
  · rename_i x hx
    have hd := (List.getElem?_eq_some_iff.1 hx).1
    by_cases h3 : x.k = 3
    · obtain ⟨s1, s2, s3, s4, s5⟩ := hw.sides hx h3
      rw [if_pos h3]
      unfold setMark
      rw [getD_set, getD_set]
      simp only [List.length_set]
      constructor
      · rintro ((h | ⟨rfl, _⟩) | ⟨rfl, _⟩)
        · exact .inl h
        · exact .inr ⟨x, hx, h3, .inl rfl⟩
        · exact .inr ⟨x, hx, h3, .inr rfl⟩
      · rintro (h | ⟨y, hy, _, hm⟩)
        · exact .inl (.inl h)
        · rw [hx] at hy; cases hy
          rcases hm with rfl | rfl
          · exact .inl (.inr ⟨rfl, by omega⟩)
          · exact .inr ⟨rfl, by omega⟩
    · rw [if_neg h3]
      constructor
      · exact .inl
      · rintro (h | ⟨y, hy, hk, _⟩)
        · exact h
        · rw [hx] at hy; cases hy; exact absurd hk h3
  · rename_i hx
    constructor
    · exact .inl
    · rintro (h | ⟨y, hy, _⟩)
      · exact h
      · rw [hx] at hy; cases hy
theorem ConeAt.next {ns : List Nd} {D : List Nat} {k n : Nat} {met : List Bool} (h : ConeAt ns D k n met) (hw : WF ns) {d : Nat} (hd : D[k]? = some d) : d < n ∧ met.getD d false = true ∧ ConeAt ns D (k + 1) d (stepMet ns met d) := by
  have hdrop : D.drop k = d :: D.drop (k + 1) := by
    have hlt := (List.getElem?_eq_some_iff.1 hd).1
    rw [List.drop_eq_getElem_cons hlt]
    rw [List.getElem?_eq_getElem hlt] at hd
    cases hd; rfl
  have hr := h.rest
  rw [hdrop] at hr
  obtain ⟨h1, h2, h3, h4⟩ := coneFrom_cons hr.symm
  refine ⟨h1, h2, by rw [stepMet_len, h.len], h4, fun m => ?_⟩
  rw [List.take_add_one, hd, stepMet_getD hw h.len m]
  simp only [Option.toList_some, List.mem_append, List.mem_singleton]
  rw [← h.done m]
  constructor
  · rintro ⟨hm | ⟨x, hx, h3', hm⟩, hle⟩
    · by_cases e : m = d
      · exact .inr e
      · exact .inl ⟨hm, by
          rcases Nat.lt_or_ge m n with q | q
          · have := h3 m (by omega) q; rw [this] at hm; cases hm
          · exact q⟩
    · obtain ⟨s1, s2, s3, s4, s5⟩ := hw.sides hx h3'
      omega
  · rintro (⟨hm, hle⟩ | rfl)
    · exact ⟨.inl hm, by omega⟩
    · exact ⟨.inl h2, Nat.le_refl _⟩
/-- at the end just the cone is marked -/
theorem ConeAt.all {ns : List Nd} {D : List Nat} {k n : Nat} {met : List Bool} (h : ConeAt ns D k n met) (hk : D.length ≤ k) (m : Nat) : met.getD m false = true ↔ m ∈ D := by
  have hr := h.rest
  rw [List.drop_eq_nil_of_le hk] at hr
  have hd := h.done m
  rw [List.take_of_length_le hk] at hd
  rw [← hd]
  constructor
  · intro hm
    refine ⟨hm, ?_⟩
    rcases Nat.lt_or_ge m n with q | q
    · have := coneFrom_nil hr.symm m q; rw [this] at hm; cases hm
    · exact q
  · exact fun h => h.1
theorem coneFrom_desc {ns : List Nd} : ∀ (n : Nat) (met : List Bool), (coneFrom ns n met).Pairwise (fun a b => b < a)
  | 0, _ => List.Pairwise.nil
  | n + 1, met => by
    unfold coneFrom
    split
    · exact List.Pairwise.cons (fun r hr => coneFrom_lt ns n _ r hr) (coneFrom_desc n _)
    · exact coneFrom_desc n met
theorem cone_asc (ns : List Nd) (l : List Nat) : (cone ns l).Pairwise (fun a b => a < b) := by
  unfold cone
  rw [List.pairwise_reverse]
  exact coneFrom_desc _ _
/-- it grows with what is marked -/
theorem coneFrom_mono {ns : List Nd} (hw : WF ns) : ∀ (n : Nat) (met met' : List Bool), met.length = ns.length → met'.length = ns.length → (∀ m, met.getD m false = true → met'.getD m false = true) → ∀ x ∈ coneFrom ns n met, x ∈ coneFrom ns n met'
  | 0, _, _, _, _, _, x, hx => by cases hx
  | n + 1, met, met', hl, hl', hle, x, hx => by
    unfold coneFrom at hx ⊢
    have hle2 : ∀ m, (stepMet ns met n).getD m false = true → (stepMet ns met' n).getD m false = true := fun m hm => by
      rw [stepMet_getD hw hl] at hm
      rw [stepMet_getD hw hl']
      exact hm.imp (hle m) id
    have hle3 : ∀ m, met.getD m false = true → (stepMet ns met' n).getD m false = true := fun m hm => by
      rw [stepMet_getD hw hl']
      exact .inl (hle m hm)
    split at hx
    · rename_i h1
      rw [if_pos (hle n h1)]
      rcases List.mem_cons.1 hx with rfl | hx
      · exact List.mem_cons_self ..
      · exact List.mem_cons_of_mem _ (coneFrom_mono hw n _ _ (by rw [stepMet_len, hl]) (by rw [stepMet_len, hl']) hle2 x hx)
    · split
      · exact List.mem_cons_of_mem _ (coneFrom_mono hw n _ _ hl (by rw [stepMet_len, hl']) hle3 x hx)
      · exact coneFrom_mono hw n _ _ hl hl' hle x hx
theorem foldl_mark_mono : ∀ (l : List Nat) (met : List Bool) (m : Nat), met.getD m false = true → (l.foldl setMark met).getD m false = true
  | [], _, _, h => h
  | r :: l, met, m, h => foldl_mark_mono l _ m (by unfold setMark; rw [getD_set]; exact .inl h)
/-- the cone of some of the references is in that of all -/
theorem cone_take {ns : List Nd} (hw : WF ns) (l : List Nat) (i : Nat) : ∀ x ∈ cone ns (l.take i), x ∈ cone ns l := by
  intro x hx
  unfold cone coneDown at hx ⊢
  rw [List.mem_reverse] at hx ⊢
  refine coneFrom_mono hw _ _ _ (met0_len _ _) (met0_len _ _) (fun m hm => ?_) x hx
  unfold met0 at hm ⊢
  conv => lhs; arg 1; rw [← List.take_append_drop i l, List.foldl_append]
  exact foldl_mark_mono _ _ _ hm
end Go.Proofs.YtnmfdiiehkkjcaaGreat
namespace Go.Proofs.YtnmfdiiehkkjcaaGreat
open Go.Mem Go.Aig
theorem nodeAt_even {ns : List Nd} {d : Nat} {x : Nd} (hx : ns[d]? = some x) : nodeAt ns (2 * (d : Int)) = some x := by
  unfold nodeAt
  rw [if_pos (by omega), show ((2 * (d : Int)).toNat / 2) = d from by omega, hx]
theorem nodeAt_odd {ns : List Nd} {d : Nat} {x : Nd} (hx : ns[d]? = some x) : nodeAt ns (2 * (d : Int) + 1) = some x := by
  unfold nodeAt
  rw [if_pos (by omega), show ((2 * (d : Int) + 1).toNat / 2) = d from by omega, hx]
structure NodeIs (ns : List Nd) (d : Nat) (x : Nd) : Prop where
  l : lOf ns (2 * (d : Int)) = if x.k = 3 then x.l else 0
  r : rOf ns (2 * (d : Int)) = if x.k = 3 then x.r else 0
  is : isAndAt ns (2 * (d : Int)) = (x.k == 3)
  dep : depthOf ns (2 * (d : Int) + 1) = x.d
  err : depthErr ns (2 * (d : Int) + 1) = 0
theorem node_is {ns : List Nd} {d : Nat} {x : Nd} (hx : ns[d]? = some x) : NodeIs ns d x := by
  refine ⟨?_, ?_, ?_, ?_, ?_⟩
  · unfold lOf; rw [nodeAt_even hx]
  · unfold rOf; rw [nodeAt_even hx]
  · unfold isAndAt kindOf; rw [nodeAt_even hx]
  · unfold depthOf; rw [nodeAt_odd hx]
  · unfold depthErr; rw [nodeAt_odd hx]
theorem dep_is {ns : List Nd} {r : Nat} (hr : r < 2 * ns.length) : depthOf ns (r : Int) = dep ns r ∧ depthErr ns (r : Int) = 0 := by
  have hx : ns[r / 2]? = some ns[r / 2] := List.getElem?_eq_getElem (by omega)
  have hn : nodeAt ns (r : Int) = some ns[r / 2] := by
    unfold nodeAt
    rw [if_pos (by omega), show ((r : Int).toNat / 2) = r / 2 from by omega, hx]
  unfold depthOf depthErr dep
  rw [hn, hx]
  exact ⟨rfl, rfl⟩
theorem leaf_d {ns : List Nd} (hw : WF ns) {d : Nat} {x : Nd} (hx : ns[d]? = some x) (hk : ¬ x.k = 3) : x.d = 0 := by
  rcases Nat.eq_zero_or_pos d with h0 | h0
  · subst h0
    rw [hw.const] at hx; cases hx; rfl
  · rcases hw.other d x hx h0 with h | h
    · rw [h]
    · exact absurd h.1 hk
theorem cone_at {ns : List Nd} {l : List Nat} {j d : Nat} (h : (cone ns l)[j]? = some d) : (coneDown ns l)[(cone ns l).length - (j + 1)]? = some d := by
  have hlt := (List.getElem?_eq_some_iff.1 h).1
  unfold cone at h hlt ⊢
  rw [List.length_reverse] at hlt ⊢
  rw [List.getElem?_reverse hlt] at h
  rw [← h]; congr 1; omega
theorem cone_lt' {ns : List Nd} {l : List Nat} {j p q : Nat} (h1 : (cone ns l)[j]? = some p) (h2 : (cone ns l)[j + 1]? = some q) : p < q := by
  obtain ⟨l1, e1⟩ := List.getElem?_eq_some_iff.1 h1
  obtain ⟨l2, e2⟩ := List.getElem?_eq_some_iff.1 h2
  have := List.pairwise_iff_getElem.1 (cone_asc ns l) j (j + 1) l1 l2 (by omega)
  rw [e1, e2] at this
  exact this
theorem nodup_le : ∀ (l m : List Nat), l.Nodup → (∀ x ∈ l, x ∈ m) → l.length ≤ m.length
  | [], _, _, _ => by simp
  | a :: l, m, h, hs => by
    have ha := hs a (List.mem_cons_self ..)
    obtain ⟨h1, h2⟩ := List.nodup_cons.1 h
    have := nodup_le l (m.erase a) h2 fun x hx => (List.mem_erase_of_ne (show x ≠ a from fun e => h1 (by rw [← e]; exact hx))).2 (hs x (List.mem_cons_of_mem _ hx))
    rw [List.length_erase_of_mem ha] at this
    have := List.length_pos_of_mem ha
    simp only [List.length_cons]
    omega
theorem cone_len_of {ns : List Nd} {l L : List Nat} {k n : Nat} {met : List Bool} (h : ConeAt ns (coneDown ns l) k n met) (hk : (coneDown ns l).length ≤ k) (hL : L.Nodup) (hm : ∀ q, q ∈ L ↔ met.getD q false = true) : L.length = (cone ns l).length := by
  have h2 : (coneDown ns l).Nodup := (coneFrom_desc _ _).imp fun h => by omega
  have h3 : ∀ q, q ∈ L ↔ q ∈ coneDown ns l := fun q => (hm q).trans (h.all hk q)
  have h4 : L.length ≤ (coneDown ns l).length := nodup_le _ _ hL fun q hq => (h3 q).1 hq
  have h5 : (coneDown ns l).length ≤ L.length := nodup_le _ _ h2 fun q hq => (h3 q).2 hq
  unfold cone
  rw [List.length_reverse]
  omega
end Go.Proofs.YtnmfdiiehkkjcaaGreat
namespace Go.Proofs.YtnmfdiiehkkjcaaGreat
open Go.RowKit Go.Mem Go.Aig
theorem rising_lt {l : List Nat} (h : l.Pairwise (· < ·)) {i j a b : Nat} (hi : l[i]? = some a) (hj : l[j]? = some b) (hij : i < j) : a < b := by
  obtain ⟨h1, h2⟩ := List.getElem?_eq_some_iff.1 hi
  obtain ⟨h3, h4⟩ := List.getElem?_eq_some_iff.1 hj
  rw [← h2, ← h4]
  exact List.pairwise_iff_getElem.1 h i j h1 h3 hij
/-- what Nodes returns -/
def nodesR (G : Gra) (ins : List Nat) : List Nat × Nat := if ins.length ≠ (inputs G.nodes).length then ([], 210) else ((wvF U64 ins G.nodes).1, 0)
section
variable {w : World} {g : Nat} {G : Gra} {F : List Nat}
/-- the inputs in the cone -/
def suppL (ns : List Nd) (l : List Nat) (k : Nat) : List Nat := (List.range k).filter fun i => decide ((inputs ns).getD i 0 / 2 ∈ cone ns l)
def suppR (G : Gra) (l : List Int) : List Nat × Nat := if badIn G l then ([], 200) else (suppL G.nodes (nats l) (inputs G.nodes).length, 0)
theorem suppL_succ (ns : List Nd) (l : List Nat) (k : Nat) : suppL ns l (k + 1) = suppL ns l k ++ (if (inputs ns).getD k 0 / 2 ∈ cone ns l then [k] else []) := by
  unfold suppL
  rw [List.range_succ, List.filter_append]
  congr 1
  by_cases h : (inputs ns).getD k 0 / 2 ∈ cone ns l
  · rw [if_pos h, List.filter_cons, if_pos (by simpa using h)]; rfl
  · rw [if_neg h, List.filter_cons, if_neg (by simpa using h)]; rfl
theorem suppL_len (ns : List Nd) (l : List Nat) (k : Nat) : (suppL ns l k).length ≤ k := by
  unfold suppL
  exact Nat.le_trans (List.length_filter_le _ _) (by simp)
/-- a new slice of ints -/
def INew (w : World) (v : Value) (l : List Nat) (w' : World) : Prop := row w' 3 1 v l.length (refsCells l) ∧ (∀ q ∈ v.ownBlock.toList, w.heap.size ≤ q) ∧ Ch [] w w'
end
end Go.Proofs.YtnmfdiiehkkjcaaGreat
namespace Go.Aig
/-- a node that is wanted -/
structure N21 where
  inp : Bool
  l : Int
  r : Int
deriving Inhabited
def fewS (q : List N21 × Nat) (x : N21) : List N21 × Nat := (if q.2 + x.inp.toNat ≤ 8 ∨ x.inp = false then q.1 ++ [x] else q.1, q.2 + x.inp.toNat)
def fewL (l : List N21) : List N21 := ((l.take 40).foldl fewS ([], 0)).1
def cntI (l : List N21) : Nat := (l.filter fun x => x.inp).length
theorem cntI_snoc (l : List N21) (x : N21) : cntI (l ++ [x]) = cntI l + x.inp.toNat := by
  unfold cntI
  rw [List.filter_append, List.length_append]
  cases h : x.inp <;> simp [h]
theorem few_inv : ∀ l : List N21, (l.foldl fewS ([], 0)).1.length ≤ l.length ∧ cntI (l.foldl fewS ([], 0)).1 ≤ 8 ∧ cntI (l.foldl fewS ([], 0)).1 ≤ (l.foldl fewS ([], 0)).2 ∧ (l.foldl fewS ([], 0)).2 ≤ l.length := by
  intro l
  induction l using List.snocRec with
  | nil => exact ⟨Nat.le_refl _, by simp [cntI], by simp [cntI], Nat.le_refl _⟩
  | snoc l x ih =>
    obtain ⟨h1, h2, h3, h4⟩ := ih
    rw [List.foldl_append]
    generalize l.foldl fewS ([], 0) = q at *
    have hx : x.inp.toNat ≤ 1 := by cases x.inp <;> simp
    show (fewS q x).1.length ≤ _ ∧ cntI (fewS q x).1 ≤ 8 ∧ cntI (fewS q x).1 ≤ (fewS q x).2 ∧ (fewS q x).2 ≤ _
    unfold fewS
    simp only
    split
    · rename_i h
      rw [List.length_append, List.length_append, cntI_snoc]
      refine ⟨by simp; omega, ?_, by omega, by simp; omega⟩
      rcases h with h | h
      · omega
      · rw [h]; simpa using h2
    · rw [List.length_append]
      exact ⟨by omega, h2, by omega, by simp; omega⟩
theorem fewS_sub : ∀ (l : List N21) (q : List N21 × Nat), ∀ x ∈ (l.foldl fewS q).1, x ∈ q.1 ∨ x ∈ l := by
  intro l
  induction l with
  | nil => intro q x hx; exact .inl hx
  | cons y l ih =>
    intro q x hx
    rcases ih _ x hx with h | h
    · unfold fewS at h
      simp only at h
      split at h
      · rcases List.mem_append.1 h with h | h
        · exact .inl h
        · rw [List.mem_singleton.1 h]; exact .inr (List.mem_cons_self ..)
      · exact .inl h
    · exact .inr (List.mem_cons_of_mem _ h)
theorem fewL_sub {l : List N21} {x : N21} (h : x ∈ fewL l) : x ∈ l := by
  rcases fewS_sub (l.take 40) ([], 0) x h with h | h
  · simp at h
  · exact List.mem_of_mem_take h
theorem fewL_len (l : List N21) : (fewL l).length ≤ 40 ∧ cntI (fewL l) ≤ 8 := by
  have := few_inv (l.take 40)
  unfold fewL
  rw [List.length_take] at this
  omega
end Go.Aig
namespace Go.Proofs.YtnmfdiiehkkjcaaGreat
open Go.RowKit Go.Mem Go.Aig
theorem and_room21 {G : Gra} (a b : Nat) (h : G.nodes.length < G.most) : (Aig.and G a b).2.2 = 0 ∧ (Aig.and G a b).1.most = G.most ∧ (Aig.and G a b).1.nodes.length ≤ G.nodes.length + 1 ∧ inputs (Aig.and G a b).1.nodes = inputs G.nodes := by
  unfold Aig.and
  split
  · exact ⟨rfl, rfl, by simp, rfl⟩
  · split
    · exact ⟨rfl, rfl, by simp, rfl⟩
    · unfold put
      rw [if_neg (by omega)]
      refine ⟨rfl, rfl, by simp, ?_⟩
      exact inputs_append (by simp)
theorem input_room {G : Gra} (h : G.nodes.length < G.most) : (doInput G).2.2 = 0 ∧ (doInput G).1.most = G.most ∧ (doInput G).1.nodes.length = G.nodes.length + 1 ∧ (inputs (doInput G).1.nodes).length = (inputs G.nodes).length + 1 := by
  unfold doInput put
  rw [if_neg (by omega)]
  refine ⟨rfl, rfl, by simp, ?_⟩
  show (inputs (G.nodes ++ [_])).length = _
  rw [inputs_input rfl]
  simp
/-- a slice of nodes -/
structure NodeS (w : World) (a : Option Addr) (n cap : Nat) (l : List N21) : Prop where
  len : l.length = n
  le : n ≤ cap
  max : cap ≤ 9223372036854775807
  cells : ∀ (i : Nat) (x : N21), l[i]? = some x → ∃ b o, a = some ⟨b, o, none⟩ ∧ w.cell? ⟨b, o + i * 3, none⟩ = some (.bool x.inp) ∧ w.cell? ⟨b, o + i * 3 + 1, none⟩ = some (.int .i64 x.l) ∧ w.cell? ⟨b, o + i * 3 + 2, none⟩ = some (.int .i64 x.r)
  bd : ∀ x ∈ l, (-9223372036854775808 ≤ x.l ∧ x.l ≤ 9223372036854775807) ∧ (-9223372036854775808 ≤ x.r ∧ x.r ≤ 9223372036854775807)
theorem NodeS.ch {w w' : World} {a : Option Addr} {n cap : Nat} {l : List N21} (h : NodeS w a n cap l) (hc : Ch [] w w') : NodeS w' a n cap l :=
  ⟨h.len, h.le, h.max, fun i x hx => by
    obtain ⟨b, o, e, h1, h2, h3⟩ := h.cells i x hx
    exact ⟨b, o, e, (hc.cell (cell_lt h1) (by simp)).trans h1, (hc.cell (cell_lt h2) (by simp)).trans h2, (hc.cell (cell_lt h3) (by simp)).trans h3⟩, h.bd⟩
def n21Cells (l : List N21) : List Value := l.flatMap fun x => [.bool x.inp, .int .i64 x.l, .int .i64 x.r]
theorem n21Cells_snoc (l : List N21) (x : N21) : n21Cells (l ++ [x]) = n21Cells l ++ [.bool x.inp, .int .i64 x.l, .int .i64 x.r] := by simp [n21Cells]
theorem n21_at : ∀ {L : List N21} {k : Nat} {x : N21}, L[k]? = some x → (n21Cells L)[k * 3]? = some (.bool x.inp) ∧ (n21Cells L)[k * 3 + 1]? = some (.int .i64 x.l) ∧ (n21Cells L)[k * 3 + 2]? = some (.int .i64 x.r)
  | [], k, x, h => by simp at h
  | y :: L, 0, x, h => by
    have e : y = x := by simpa using h
    subst e
    exact ⟨rfl, rfl, rfl⟩
  | y :: L, k + 1, x, h => by
    have ih := n21_at (L := L) (k := k) (x := x) (by simpa using h)
    have e : n21Cells (y :: L) = [.bool y.inp, .int .i64 y.l, .int .i64 y.r] ++ n21Cells L := by simp [n21Cells]
    rw [e, show (k + 1) * 3 = k * 3 + 3 by omega]
    refine ⟨?_, ?_, ?_⟩
    · rw [List.getElem?_append_right (by simp)]; simpa using ih.1
    · rw [List.getElem?_append_right (by simp)]; simpa using ih.2.1
    · rw [List.getElem?_append_right (by simp)]; simpa using ih.2.2
theorem row_cell {w : World} {e : TypeId} {size b n c m : Nat} {vs : List Value} (h : row w e size (.slice (some ⟨b, 0, none⟩) n c) m vs) {k : Nat} {v : Value} (hk : vs[k]? = some v) : w.cell? ⟨b, k, none⟩ = some v := by
  have := h.cells (g := b) rfl k v hk
  rw [Addr.add_lit] at this
  simpa using this
end Go.Proofs.YtnmfdiiehkkjcaaGreat
namespace Go.Proofs.YtnmfdiiehkkjcaaGreat
open Go.ChangeShapes Go.WideShapes Go.ChangeAt Go.RowKit Go.Mem Go.Aig Go.Deep
theorem wf_u64 {n : Int} (h : (Lit.int .u64 n).wf = true) : ∃ m : Nat, n = m ∧ m < 2 ^ 64 := by
  have : 0 ≤ n ∧ n ≤ 18446744073709551615 := by simpa [Lit.wf, IntKind.min, IntKind.max, IntKind.signed, IntKind.bits] using h
  exact ⟨n.toNat, by omega, by omega⟩
theorem wf_u16 {n : Int} (h : (Lit.int .u16 n).wf = true) : ∃ m : Nat, n = m ∧ m < 2 ^ 16 := by
  have : 0 ≤ n ∧ n ≤ 65535 := by simpa [Lit.wf, IntKind.min, IntKind.max, IntKind.signed, IntKind.bits] using h
  exact ⟨n.toNat, by omega, by omega⟩
theorem wf_u8' {n : Int} (h : (Lit.int .u8 n).wf = true) : ∃ m : Nat, n = m ∧ m < 2 ^ 8 := by
  have : 0 ≤ n ∧ n ≤ 255 := by simpa [Lit.wf, IntKind.min, IntKind.max, IntKind.signed, IntKind.bits] using h
  exact ⟨n.toNat, by omega, by omega⟩
/-- a slice of numbers of one kind that came in -/
structure NumS (k : IntKind) (bits : Nat) (w : World) (a : Option Addr) (n cap : Nat) (l : List Nat) : Prop where
  sv : Sv w a (l.map fun (x : Nat) => .int k x)
  len : l.length = n
  bd : ∀ x ∈ l, x < 2 ^ bits
  le : n ≤ cap
  max : cap ≤ 9223372036854775807
section
variable {H : Type} {enc : TypeId × Value → H} {W : World}
set_option maxRecDepth 100000 in
theorem u64s_open6 {a : Option Addr} {len cap : Nat} {d : DataW H} {p : List MemPlace} (h : DataW.Trod enc Tryz.prog W 0 (fun _ => true) true 103 (.slice a len cap) d p) : ∃ l, NumS .u64 64 W a len cap l := by
  obtain ⟨fuel, hf⟩ := h
  rcases open_slice Tryz.underlying103 hf with ⟨hcs, _⟩ | ⟨y, l, cp, m, n, D, Pl, hcs, _, hl, hm, hmm, _, hi⟩
  · simp [Value.cells] at hcs
    obtain ⟨rfl, rfl, rfl⟩ := hcs
    exact ⟨[], ⟨by simp, by simp⟩, rfl, by simp, by omega, by omega⟩
  · simp [Value.cells] at hcs
    obtain ⟨rfl, rfl, rfl⟩ := hcs
    have hm' : cap ≤ 9223372036854775807 := by unfold maxLen at hm; exact hm
    have hC : Tryz.prog.cellsOf 104 = 1 := by kernel_rfl
    have hspot : 0 < len → y.spot = none := fun h0 => by
      obtain ⟨cs', hc, _⟩ := hi 0 (by rw [hmm]; simp; omega)
      rw [hC] at hc
      obtain ⟨_, hcl, hat⟩ := World.cells?_some hc
      have e0 := hat 0 (by omega)
      rw [List.getElem?_eq_getElem (by omega)] at e0
      simpa [Addr.add] using World.cell?_spot e0
    have key : ∀ i, i < len → ∃ z : Nat, (∃ b o, (some y : Option Addr) = some ⟨b, o, none⟩ ∧ W.cell? ⟨b, o + i, none⟩ = some (.int .u64 z)) ∧ z < 2 ^ 64 := by
      intro i hlt
      obtain ⟨cs', hc, ht⟩ := hi i (by rw [hmm]; simp; omega)
      rw [hC] at hc
      obtain ⟨_, hcl, hat⟩ := World.cells?_some hc
      match cs', hcl with
      | [c0], _ =>
        obtain ⟨z, hz, _, hw⟩ := DataW.trod_int Tryz.underlying104 ht
        obtain ⟨m, rfl, hb⟩ := wf_u64 hw
        simp at hz
        subst hz
        have e0 := hat 0 (by omega)
        simp at e0
        obtain ⟨b, o, spot⟩ := y
        have hsp : spot = none := hspot (by omega)
        subst hsp
        simp only [Addr.add_lit] at e0
        exact ⟨m, ⟨b, o, rfl, by simpa using e0⟩, hb⟩
    obtain ⟨ll, hll, hp⟩ := list_of _ len key
    refine ⟨ll, ⟨fun i s hs => ?_, by rw [List.length_map]; omega⟩, hll, fun s hs => ?_, hl, hm'⟩
    · rw [List.getElem?_map, Option.map_eq_some_iff] at hs
      obtain ⟨q, hq, rfl⟩ := hs
      exact (hp i q hq).1
    · obtain ⟨i, hi2⟩ := List.mem_iff_getElem?.1 hs
      exact (hp i s hi2).2
set_option maxRecDepth 100000 in
theorem u16s_open6 {a : Option Addr} {len cap : Nat} {d : DataW H} {p : List MemPlace} (h : DataW.Trod enc Tryz.prog W 0 (fun _ => true) true 22 (.slice a len cap) d p) : ∃ l, NumS .u16 16 W a len cap l := by
  obtain ⟨fuel, hf⟩ := h
  rcases open_slice Tryz.underlying22 hf with ⟨hcs, _⟩ | ⟨y, l, cp, m, n, D, Pl, hcs, _, hl, hm, hmm, _, hi⟩
  · simp [Value.cells] at hcs
    obtain ⟨rfl, rfl, rfl⟩ := hcs
    exact ⟨[], ⟨by simp, by simp⟩, rfl, by simp, by omega, by omega⟩
  · simp [Value.cells] at hcs
    obtain ⟨rfl, rfl, rfl⟩ := hcs
    have hm' : cap ≤ 9223372036854775807 := by unfold maxLen at hm; exact hm
    have hC : Tryz.prog.cellsOf 33 = 1 := by kernel_rfl
    have hspot : 0 < len → y.spot = none := fun h0 => by
      obtain ⟨cs', hc, _⟩ := hi 0 (by rw [hmm]; simp; omega)
      rw [hC] at hc
      obtain ⟨_, hcl, hat⟩ := World.cells?_some hc
      have e0 := hat 0 (by omega)
      rw [List.getElem?_eq_getElem (by omega)] at e0
      simpa [Addr.add] using World.cell?_spot e0
    have key : ∀ i, i < len → ∃ z : Nat, (∃ b o, (some y : Option Addr) = some ⟨b, o, none⟩ ∧ W.cell? ⟨b, o + i, none⟩ = some (.int .u16 z)) ∧ z < 2 ^ 16 := by
      intro i hlt
      obtain ⟨cs', hc, ht⟩ := hi i (by rw [hmm]; simp; omega)
      rw [hC] at hc
      obtain ⟨_, hcl, hat⟩ := World.cells?_some hc
      match cs', hcl with
      | [c0], _ =>
        obtain ⟨z, hz, _, hw⟩ := DataW.trod_int Tryz.underlying33 ht
        obtain ⟨m, rfl, hb⟩ := wf_u16 hw
        simp at hz
        subst hz
        have e0 := hat 0 (by omega)
        simp at e0
        obtain ⟨b, o, spot⟩ := y
        have hsp : spot = none := hspot (by omega)
        subst hsp
        simp only [Addr.add_lit] at e0
        exact ⟨m, ⟨b, o, rfl, by simpa using e0⟩, hb⟩
    obtain ⟨ll, hll, hp⟩ := list_of _ len key
    refine ⟨ll, ⟨fun i s hs => ?_, by rw [List.length_map]; omega⟩, hll, fun s hs => ?_, hl, hm'⟩
    · rw [List.getElem?_map, Option.map_eq_some_iff] at hs
      obtain ⟨q, hq, rfl⟩ := hs
      exact (hp i q hq).1
    · obtain ⟨i, hi2⟩ := List.mem_iff_getElem?.1 hs
      exact (hp i s hi2).2
end
end Go.Proofs.YtnmfdiiehkkjcaaGreat
namespace Go.Aig
def neg32 (x : Nat) : Nat := (4294967296 - x) % 4294967296
def add32 (x y : Nat) : Nat := (x + y) % 4294967296
def sub32 (x y : Nat) : Nat := (x + 4294967296 - y) % 4294967296
/-- what an operation does of two words below a greatest one, before it is cut (three of its arms are handed in: the kernel must not open them) -/
def opW (f2 : Nat → Nat) (f3 f4 : Nat → Nat → Nat) (op x y m : Nat) : Nat := match op with
  | 1 => m - x
  | 2 => f2 x
  | 3 => f3 x y
  | 4 => f4 x y
  | 8 => x &&& y
  | 9 => x ||| y
  | 10 => x ^^^ y
  | 13 => (x == y).toNat
  | 14 => (!(x == y)).toNat
  | 15 => (decide (x < y)).toNat
  | 16 => (decide (x ≤ y)).toNat
  | _ => 0
def opV (op x y m : Nat) : Nat := opW neg32 add32 sub32 op x y m
theorem opW_1 (f2 : Nat → Nat) (f3 f4 : Nat → Nat → Nat) (x y m : Nat) : opW f2 f3 f4 1 x y m = m - x := rfl
theorem opW_2 (f2 : Nat → Nat) (f3 f4 : Nat → Nat → Nat) (x y m : Nat) : opW f2 f3 f4 2 x y m = f2 x := rfl
theorem opW_3 (f2 : Nat → Nat) (f3 f4 : Nat → Nat → Nat) (x y m : Nat) : opW f2 f3 f4 3 x y m = f3 x y := rfl
theorem opW_4 (f2 : Nat → Nat) (f3 f4 : Nat → Nat → Nat) (x y m : Nat) : opW f2 f3 f4 4 x y m = f4 x y := rfl
theorem opW_8 (f2 : Nat → Nat) (f3 f4 : Nat → Nat → Nat) (x y m : Nat) : opW f2 f3 f4 8 x y m = x &&& y := rfl
theorem opW_9 (f2 : Nat → Nat) (f3 f4 : Nat → Nat → Nat) (x y m : Nat) : opW f2 f3 f4 9 x y m = x ||| y := rfl
theorem opW_10 (f2 : Nat → Nat) (f3 f4 : Nat → Nat → Nat) (x y m : Nat) : opW f2 f3 f4 10 x y m = x ^^^ y := rfl
theorem opW_13 (f2 : Nat → Nat) (f3 f4 : Nat → Nat → Nat) (x y m : Nat) : opW f2 f3 f4 13 x y m = (x == y).toNat := rfl
theorem opW_14 (f2 : Nat → Nat) (f3 f4 : Nat → Nat → Nat) (x y m : Nat) : opW f2 f3 f4 14 x y m = (!(x == y)).toNat := rfl
theorem opW_15 (f2 : Nat → Nat) (f3 f4 : Nat → Nat → Nat) (x y m : Nat) : opW f2 f3 f4 15 x y m = (decide (x < y)).toNat := rfl
theorem opW_16 (f2 : Nat → Nat) (f3 f4 : Nat → Nat → Nat) (x y m : Nat) : opW f2 f3 f4 16 x y m = (decide (x ≤ y)).toNat := rfl
theorem opV_1 (x y m : Nat) : opV 1 x y m = m - x := opW_1 neg32 add32 sub32 x y m
theorem opV_2 (x y m : Nat) : opV 2 x y m = neg32 x := opW_2 neg32 add32 sub32 x y m
theorem opV_3 (x y m : Nat) : opV 3 x y m = add32 x y := opW_3 neg32 add32 sub32 x y m
theorem opV_4 (x y m : Nat) : opV 4 x y m = sub32 x y := opW_4 neg32 add32 sub32 x y m
theorem opV_8 (x y m : Nat) : opV 8 x y m = x &&& y := opW_8 neg32 add32 sub32 x y m
theorem opV_9 (x y m : Nat) : opV 9 x y m = x ||| y := opW_9 neg32 add32 sub32 x y m
theorem opV_10 (x y m : Nat) : opV 10 x y m = x ^^^ y := opW_10 neg32 add32 sub32 x y m
theorem opV_13 (x y m : Nat) : opV 13 x y m = (x == y).toNat := opW_13 neg32 add32 sub32 x y m
theorem opV_14 (x y m : Nat) : opV 14 x y m = (!(x == y)).toNat := opW_14 neg32 add32 sub32 x y m
theorem opV_15 (x y m : Nat) : opV 15 x y m = (decide (x < y)).toNat := opW_15 neg32 add32 sub32 x y m
theorem opV_16 (x y m : Nat) : opV 16 x y m = (decide (x ≤ y)).toNat := opW_16 neg32 add32 sub32 x y m
/-- what Apply returns -/
def applyV (op w x y : Nat) : Nat := opV op (x &&& (2 ^ w - 1)) (y &&& (2 ^ w - 1)) (2 ^ w - 1) &&& (2 ^ w - 1)
end Go.Aig
namespace Go.Proofs.YtnmfdiiehkkjcaaGreat
open Go.RowKit Go.Mem Go.Aig
def Stop (p : Prop) : Prop := p
theorem wpList_store_one {P : Program} {ops : Array Oper} {o : Oper} {a : Act} {w w' : World} {Q : Exit → Act → World → Prop} (t : TypeId) (p v : Operand) (vp vv : Value) (hg : o.guard = none) (ho : o.op = .store t p v)
    (h : (Instr.storeAt t vp vv).run P w = .ok () w') (hp : Stop (a.eval p = vp)) (hv : Stop (a.eval v = vv)) (hn : Stop (wpList P ops Q [] (a.put o.dst undef) w')) : wpList P ops Q [o] a w :=
  wpList_plain hg fun _ hK => by
    unfold Stop at hp hv hn
    unfold Oper.wp execOp
    simp only [ho, Sem.run_bind, Sem.run_pure, Result.andThen_ok, hp, hv, h]
    exact hK _ _ hn
section
variable {w : World}
set_option maxRecDepth 100000 in
set_option maxHeartbeats 4000000 in
theorem table_is : Calls Tryz.prog 35 #[] w fun e w' => e = .returned (.agg #[.string ⟨#[]⟩, .int .i64 0, .bool false, .nilFunc, .string ⟨#[126]⟩, .int .i64 0, .bool false, .func (.func 63) #[] #[], .string ⟨#[45]⟩, .int .i64 0, .bool false, .func (.func 64) #[] #[], .string ⟨#[43]⟩, .int .i64 5, .bool false, .func (.func 65) #[] #[], .string ⟨#[45]⟩, .int .i64 5, .bool false, .func (.func 66) #[] #[], .string ⟨#[42]⟩, .int .i64 6, .bool false, .func (.func 67) #[] #[], .string ⟨#[47]⟩, .int .i64 6, .bool false, .func (.func 68) #[] #[], .string ⟨#[37]⟩, .int .i64 6, .bool false, .func (.func 69) #[] #[], .string ⟨#[38]⟩, .int .i64 2, .bool false, .func (.func 70) #[] #[], .string ⟨#[124]⟩, .int .i64 1, .bool false, .func (.func 71) #[] #[], .string ⟨#[94]⟩, .int .i64 1, .bool false, .func (.func 72) #[] #[], .string ⟨#[60, 60]⟩, .int .i64 4, .bool false, .func (.func 73) #[] #[], .string ⟨#[62, 62]⟩, .int .i64 4, .bool false, .func (.func 74) #[] #[], .string ⟨#[61, 61]⟩, .int .i64 3, .bool true, .func (.func 75) #[] #[], .string ⟨#[33, 61]⟩, .int .i64 3, .bool true, .func (.func 77) #[] #[], .string ⟨#[60]⟩, .int .i64 3, .bool true, .func (.func 78) #[] #[], .string ⟨#[60, 61]⟩, .int .i64 3, .bool true, .func (.func 79) #[] #[]]) ∧ Ch [] w w' := by
  have hs1 := run_storeAt_new (P := Tryz.prog) w 69 Tryz.zeroCells69 #[.string ⟨#[]⟩, .int .i64 0, .bool false, .nilFunc, .string ⟨#[126]⟩, .int .i64 0, .bool false, .func (.func 63) #[] #[], .string ⟨#[45]⟩, .int .i64 0, .bool false, .func (.func 64) #[] #[], .string ⟨#[43]⟩, .int .i64 5, .bool false, .func (.func 65) #[] #[], .string ⟨#[45]⟩, .int .i64 5, .bool false, .func (.func 66) #[] #[], .string ⟨#[42]⟩, .int .i64 6, .bool false, .func (.func 67) #[] #[], .string ⟨#[47]⟩, .int .i64 6, .bool false, .func (.func 68) #[] #[], .string ⟨#[37]⟩, .int .i64 6, .bool false, .func (.func 69) #[] #[], .string ⟨#[38]⟩, .int .i64 2, .bool false, .func (.func 70) #[] #[], .string ⟨#[124]⟩, .int .i64 1, .bool false, .func (.func 71) #[] #[], .string ⟨#[94]⟩, .int .i64 1, .bool false, .func (.func 72) #[] #[], .string ⟨#[60, 60]⟩, .int .i64 4, .bool false, .func (.func 73) #[] #[], .string ⟨#[62, 62]⟩, .int .i64 4, .bool false, .func (.func 74) #[] #[], .string ⟨#[61, 61]⟩, .int .i64 3, .bool true, .func (.func 75) #[] #[], .string ⟨#[33, 61]⟩, .int .i64 3, .bool true, .func (.func 77) #[] #[], .string ⟨#[60]⟩, .int .i64 3, .bool true, .func (.func 78) #[] #[], .string ⟨#[60, 61]⟩, .int .i64 3, .bool true, .func (.func 79) #[] #[]] (by kernel_rfl) (by kernel_rfl) (by kernel_rfl)
  go_enter Tryz.func35, Tryz.ntmps35
  go_wp2_with (refine wpList_store_one 69 (.tmp 0) (.tmp 18) _ _ rfl rfl hs1 ?_ ?_ ?_)
  · unfold Stop
    exact trivial
  · unfold Stop
    kernel_rfl
  · unfold Stop
    go_wp2_with fail
    exact bodyPost_ret (results_cell_row (d := .array 17 68) rfl _ _ w.heap.size 69 #[.string ⟨#[]⟩, .int .i64 0, .bool false, .nilFunc, .string ⟨#[126]⟩, .int .i64 0, .bool false, .func (.func 63) #[] #[], .string ⟨#[45]⟩, .int .i64 0, .bool false, .func (.func 64) #[] #[], .string ⟨#[43]⟩, .int .i64 5, .bool false, .func (.func 65) #[] #[], .string ⟨#[45]⟩, .int .i64 5, .bool false, .func (.func 66) #[] #[], .string ⟨#[42]⟩, .int .i64 6, .bool false, .func (.func 67) #[] #[], .string ⟨#[47]⟩, .int .i64 6, .bool false, .func (.func 68) #[] #[], .string ⟨#[37]⟩, .int .i64 6, .bool false, .func (.func 69) #[] #[], .string ⟨#[38]⟩, .int .i64 2, .bool false, .func (.func 70) #[] #[], .string ⟨#[124]⟩, .int .i64 1, .bool false, .func (.func 71) #[] #[], .string ⟨#[94]⟩, .int .i64 1, .bool false, .func (.func 72) #[] #[], .string ⟨#[60, 60]⟩, .int .i64 4, .bool false, .func (.func 73) #[] #[], .string ⟨#[62, 62]⟩, .int .i64 4, .bool false, .func (.func 74) #[] #[], .string ⟨#[61, 61]⟩, .int .i64 3, .bool true, .func (.func 75) #[] #[], .string ⟨#[33, 61]⟩, .int .i64 3, .bool true, .func (.func 77) #[] #[], .string ⟨#[60]⟩, .int .i64 3, .bool true, .func (.func 78) #[] #[], .string ⟨#[60, 61]⟩, .int .i64 3, .bool true, .func (.func 79) #[] #[]] (0, 0) (by kernel_rfl) (heap_alloc_last w _) (by kernel_rfl) rfl (by kernel_rfl)) rfl ⟨rfl, (Ch.refl _ w).alloc _⟩
end
end Go.Proofs.YtnmfdiiehkkjcaaGreat
namespace Go.Proofs.YtnmfdiiehkkjcaaGreat
open Go.RowKit Go.Mem Go.Aig
section
variable {w : World}
def TabC : Array Value := #[.string ⟨#[]⟩, .int .i64 0, .bool false, .nilFunc, .string ⟨#[126]⟩, .int .i64 0, .bool false, .func (.func 63) #[] #[], .string ⟨#[45]⟩, .int .i64 0, .bool false, .func (.func 64) #[] #[], .string ⟨#[43]⟩, .int .i64 5, .bool false, .func (.func 65) #[] #[], .string ⟨#[45]⟩, .int .i64 5, .bool false, .func (.func 66) #[] #[], .string ⟨#[42]⟩, .int .i64 6, .bool false, .func (.func 67) #[] #[], .string ⟨#[47]⟩, .int .i64 6, .bool false, .func (.func 68) #[] #[], .string ⟨#[37]⟩, .int .i64 6, .bool false, .func (.func 69) #[] #[], .string ⟨#[38]⟩, .int .i64 2, .bool false, .func (.func 70) #[] #[], .string ⟨#[124]⟩, .int .i64 1, .bool false, .func (.func 71) #[] #[], .string ⟨#[94]⟩, .int .i64 1, .bool false, .func (.func 72) #[] #[], .string ⟨#[60, 60]⟩, .int .i64 4, .bool false, .func (.func 73) #[] #[], .string ⟨#[62, 62]⟩, .int .i64 4, .bool false, .func (.func 74) #[] #[], .string ⟨#[61, 61]⟩, .int .i64 3, .bool true, .func (.func 75) #[] #[], .string ⟨#[33, 61]⟩, .int .i64 3, .bool true, .func (.func 77) #[] #[], .string ⟨#[60]⟩, .int .i64 3, .bool true, .func (.func 78) #[] #[], .string ⟨#[60, 61]⟩, .int .i64 3, .bool true, .func (.func 79) #[] #[]]
theorem frozen_alloc (w : World) (c : Array Value) (t : TypeId) (j : Nat) : (w.alloc (.cells c t)).frozen? ⟨w.heap.size, j, none⟩ = false := by
  simp only [World.frozen?]
  rw [heap_alloc_last]
  simp
set_option maxRecDepth 100000 in
set_option maxHeartbeats 4000000 in
theorem bName_is (k : Nat) (v : Value) (hk : k < 17) (hx : TabC[k * 4]? = some v) : Calls Tryz.prog 33 #[.int .u8 k] w fun e w' => e = .returned v ∧ Ch [] w w' := by
  have hk1 : ¬ ((17 : Int) ≤ (k : Int)) := by omega
  have hk2 : ¬ (17 ≤ k) := by omega
  have hk3 : ((k : Int)) < 17 := by omega
  go_enter Tryz.func33, Tryz.ntmps33
  go_wp2_with fail
  refine table_is.mono ?_
  rintro e w1 ⟨rfl, h1⟩
  have hs1 := run_storeAt_new (P := Tryz.prog) w1 69 Tryz.zeroCells69 #[.string ⟨#[]⟩, .int .i64 0, .bool false, .nilFunc, .string ⟨#[126]⟩, .int .i64 0, .bool false, .func (.func 63) #[] #[], .string ⟨#[45]⟩, .int .i64 0, .bool false, .func (.func 64) #[] #[], .string ⟨#[43]⟩, .int .i64 5, .bool false, .func (.func 65) #[] #[], .string ⟨#[45]⟩, .int .i64 5, .bool false, .func (.func 66) #[] #[], .string ⟨#[42]⟩, .int .i64 6, .bool false, .func (.func 67) #[] #[], .string ⟨#[47]⟩, .int .i64 6, .bool false, .func (.func 68) #[] #[], .string ⟨#[37]⟩, .int .i64 6, .bool false, .func (.func 69) #[] #[], .string ⟨#[38]⟩, .int .i64 2, .bool false, .func (.func 70) #[] #[], .string ⟨#[124]⟩, .int .i64 1, .bool false, .func (.func 71) #[] #[], .string ⟨#[94]⟩, .int .i64 1, .bool false, .func (.func 72) #[] #[], .string ⟨#[60, 60]⟩, .int .i64 4, .bool false, .func (.func 73) #[] #[], .string ⟨#[62, 62]⟩, .int .i64 4, .bool false, .func (.func 74) #[] #[], .string ⟨#[61, 61]⟩, .int .i64 3, .bool true, .func (.func 75) #[] #[], .string ⟨#[33, 61]⟩, .int .i64 3, .bool true, .func (.func 77) #[] #[], .string ⟨#[60]⟩, .int .i64 3, .bool true, .func (.func 78) #[] #[], .string ⟨#[60, 61]⟩, .int .i64 3, .bool true, .func (.func 79) #[] #[]] (by kernel_rfl) (by kernel_rfl) (by kernel_rfl)
  go_wp2_with (refine wpList_store_one 69 (.tmp 3) (.tmp 4) _ _ rfl rfl hs1 ?_ ?_ ?_)
  · unfold Stop
    rfl
  · unfold Stop
    rfl
  · unfold Stop
    have hf : (w1.alloc (.cells #[.string ⟨#[]⟩, .int .i64 0, .bool false, .nilFunc, .string ⟨#[126]⟩, .int .i64 0, .bool false, .func (.func 63) #[] #[], .string ⟨#[45]⟩, .int .i64 0, .bool false, .func (.func 64) #[] #[], .string ⟨#[43]⟩, .int .i64 5, .bool false, .func (.func 65) #[] #[], .string ⟨#[45]⟩, .int .i64 5, .bool false, .func (.func 66) #[] #[], .string ⟨#[42]⟩, .int .i64 6, .bool false, .func (.func 67) #[] #[], .string ⟨#[47]⟩, .int .i64 6, .bool false, .func (.func 68) #[] #[], .string ⟨#[37]⟩, .int .i64 6, .bool false, .func (.func 69) #[] #[], .string ⟨#[38]⟩, .int .i64 2, .bool false, .func (.func 70) #[] #[], .string ⟨#[124]⟩, .int .i64 1, .bool false, .func (.func 71) #[] #[], .string ⟨#[94]⟩, .int .i64 1, .bool false, .func (.func 72) #[] #[], .string ⟨#[60, 60]⟩, .int .i64 4, .bool false, .func (.func 73) #[] #[], .string ⟨#[62, 62]⟩, .int .i64 4, .bool false, .func (.func 74) #[] #[], .string ⟨#[61, 61]⟩, .int .i64 3, .bool true, .func (.func 75) #[] #[], .string ⟨#[33, 61]⟩, .int .i64 3, .bool true, .func (.func 77) #[] #[], .string ⟨#[60]⟩, .int .i64 3, .bool true, .func (.func 78) #[] #[], .string ⟨#[60, 61]⟩, .int .i64 3, .bool true, .func (.func 79) #[] #[]] 69)).frozen? ⟨w1.heap.size, k * 4, none⟩ = false := frozen_alloc _ _ _ _
    have hc : (w1.alloc (.cells #[.string ⟨#[]⟩, .int .i64 0, .bool false, .nilFunc, .string ⟨#[126]⟩, .int .i64 0, .bool false, .func (.func 63) #[] #[], .string ⟨#[45]⟩, .int .i64 0, .bool false, .func (.func 64) #[] #[], .string ⟨#[43]⟩, .int .i64 5, .bool false, .func (.func 65) #[] #[], .string ⟨#[45]⟩, .int .i64 5, .bool false, .func (.func 66) #[] #[], .string ⟨#[42]⟩, .int .i64 6, .bool false, .func (.func 67) #[] #[], .string ⟨#[47]⟩, .int .i64 6, .bool false, .func (.func 68) #[] #[], .string ⟨#[37]⟩, .int .i64 6, .bool false, .func (.func 69) #[] #[], .string ⟨#[38]⟩, .int .i64 2, .bool false, .func (.func 70) #[] #[], .string ⟨#[124]⟩, .int .i64 1, .bool false, .func (.func 71) #[] #[], .string ⟨#[94]⟩, .int .i64 1, .bool false, .func (.func 72) #[] #[], .string ⟨#[60, 60]⟩, .int .i64 4, .bool false, .func (.func 73) #[] #[], .string ⟨#[62, 62]⟩, .int .i64 4, .bool false, .func (.func 74) #[] #[], .string ⟨#[61, 61]⟩, .int .i64 3, .bool true, .func (.func 75) #[] #[], .string ⟨#[33, 61]⟩, .int .i64 3, .bool true, .func (.func 77) #[] #[], .string ⟨#[60]⟩, .int .i64 3, .bool true, .func (.func 78) #[] #[], .string ⟨#[60, 61]⟩, .int .i64 3, .bool true, .func (.func 79) #[] #[]] 69)).cell? ⟨w1.heap.size, k * 4, none⟩ = some v := (cell_of_row _ _ (k * 4) _ 69 (0, 0) (heap_alloc_last w1 (.cells TabC 69))).trans hx
    go_wp2_with fail
    go_ret
    exact ⟨rfl, h1.alloc _⟩
theorem bt1_is (x y m : Nat) (hx : x ≤ m) (_hy : y ≤ m) (hm : m < 65536) : Calls Tryz.prog 63 #[.int .u32 x, .int .u32 y, .int .u32 m] w fun e w' => e = .returned (.int .u32 (opV 1 x y m : Nat)) ∧ w = w' := by
  go_enter Tryz.func63, Tryz.ntmps63
  go_wp2_with fail
  go_ret
  refine ⟨?_, rfl⟩
  have e : ((m : Int) - (x : Int)) = ((opV 1 x y m : Nat) : Int) := by
    rw [opV_1]; omega
  show Ending.returned (.int .u32 ((m : Int) - (x : Int))) = _
  rw [e]
theorem bt2_is (x y m : Nat) (hx : x ≤ m) (_hy : y ≤ m) (hm : m < 65536) : Calls Tryz.prog 64 #[.int .u32 x, .int .u32 y, .int .u32 m] w fun e w' => e = .returned (.int .u32 (opV 2 x y m : Nat)) ∧ w = w' := by
  go_enter Tryz.func64, Tryz.ntmps64
  go_wp2_with fail
  go_ret
  refine ⟨?_, rfl⟩
  have e : (-(x : Int) % 4294967296) = ((opV 2 x y m : Nat) : Int) := by
    rw [opV_2]; unfold neg32; omega
  show Ending.returned (.int .u32 (-(x : Int) % 4294967296)) = _
  rw [e]
theorem bt3_is (x y m : Nat) (hx : x ≤ m) (hy : y ≤ m) (hm : m < 65536) : Calls Tryz.prog 65 #[.int .u32 x, .int .u32 y, .int .u32 m] w fun e w' => e = .returned (.int .u32 (opV 3 x y m : Nat)) ∧ w = w' := by
  go_enter Tryz.func65, Tryz.ntmps65
  go_wp2_with fail
  go_ret
  refine ⟨?_, rfl⟩
  have e : ((x : Int) + (y : Int)) = ((opV 3 x y m : Nat) : Int) := by
    rw [opV_3]; unfold add32; omega
  show Ending.returned (.int .u32 ((x : Int) + (y : Int))) = _
  rw [e]
theorem bt4_is (x y m : Nat) (hx : x ≤ m) (hy : y ≤ m) (hm : m < 65536) : Calls Tryz.prog 66 #[.int .u32 x, .int .u32 y, .int .u32 m] w fun e w' => e = .returned (.int .u32 (opV 4 x y m : Nat)) ∧ w = w' := by
  go_enter Tryz.func66, Tryz.ntmps66
  go_wp2_with fail
  go_ret
  refine ⟨?_, rfl⟩
  have e : (((x : Int) - (y : Int)) % 4294967296) = ((opV 4 x y m : Nat) : Int) := by
    rw [opV_4]; unfold sub32; omega
  show Ending.returned (.int .u32 (((x : Int) - (y : Int)) % 4294967296)) = _
  rw [e]
theorem bt8_is (x y m : Nat) (hx : x ≤ m) (hy : y ≤ m) (hm : m < 65536) : Calls Tryz.prog 70 #[.int .u32 x, .int .u32 y, .int .u32 m] w fun e w' => e = .returned (.int .u32 (opV 8 x y m : Nat)) ∧ w = w' := by
  go_enter Tryz.func70, Tryz.ntmps70
  go_wp2_with fail
  go_ret
  refine ⟨?_, rfl⟩
  have e : (bits BinOp.and IntKind.u32 (x : Int) (y : Int)) = ((opV 8 x y m : Nat) : Int) := by
    exact u32_and_nat x y (by omega) (by omega)
  show Ending.returned (.int .u32 (bits BinOp.and IntKind.u32 (x : Int) (y : Int))) = _
  rw [e]
theorem bt9_is (x y m : Nat) (hx : x ≤ m) (hy : y ≤ m) (hm : m < 65536) : Calls Tryz.prog 71 #[.int .u32 x, .int .u32 y, .int .u32 m] w fun e w' => e = .returned (.int .u32 (opV 9 x y m : Nat)) ∧ w = w' := by
  go_enter Tryz.func71, Tryz.ntmps71
  go_wp2_with fail
  go_ret
  refine ⟨?_, rfl⟩
  have e : (bits BinOp.or IntKind.u32 (x : Int) (y : Int)) = ((opV 9 x y m : Nat) : Int) := by
    exact u32_or_nat x y (by omega) (by omega)
  show Ending.returned (.int .u32 (bits BinOp.or IntKind.u32 (x : Int) (y : Int))) = _
  rw [e]
theorem bt10_is (x y m : Nat) (hx : x ≤ m) (hy : y ≤ m) (hm : m < 65536) : Calls Tryz.prog 72 #[.int .u32 x, .int .u32 y, .int .u32 m] w fun e w' => e = .returned (.int .u32 (opV 10 x y m : Nat)) ∧ w = w' := by
  go_enter Tryz.func72, Tryz.ntmps72
  go_wp2_with fail
  go_ret
  refine ⟨?_, rfl⟩
  have e : (bits BinOp.xor IntKind.u32 (x : Int) (y : Int)) = ((opV 10 x y m : Nat) : Int) := by
    exact u32_xor_nat x y (by omega) (by omega)
  show Ending.returned (.int .u32 (bits BinOp.xor IntKind.u32 (x : Int) (y : Int))) = _
  rw [e]
theorem bt13_is (x y m : Nat) (_hx : x ≤ m) (_hy : y ≤ m) (_hm : m < 65536) : Calls Tryz.prog 75 #[.int .u32 x, .int .u32 y, .int .u32 m] w fun e w' => e = .returned (.int .u32 (opV 13 x y m : Nat)) ∧ w = w' := by
  have HT := btruth_is (w := w) (x == y)
  have HT2 := btruth_is (w := w) ((x : Int) == (y : Int))
  have heq : ((x : Int) == (y : Int)) = (x == y) := by rw [Bool.eq_iff_iff]; simp <;> omega
  go_enter Tryz.func75, Tryz.ntmps75
  go_wp2_with fail
  first | refine HT.mono ?_ | refine HT2.mono ?_
  rintro e w' ⟨rfl, rfl⟩
  go_wp2_with fail
  go_ret
  refine ⟨?_, rfl⟩
  first | rfl | (rw [← heq]; rfl)
theorem bt14_is (x y m : Nat) (_hx : x ≤ m) (_hy : y ≤ m) (_hm : m < 65536) : Calls Tryz.prog 77 #[.int .u32 x, .int .u32 y, .int .u32 m] w fun e w' => e = .returned (.int .u32 (opV 14 x y m : Nat)) ∧ w = w' := by
  have HT := btruth_is (w := w) (!(x == y))
  have HT2 := btruth_is (w := w) ((x : Int) != (y : Int))
  have heq : ((x : Int) != (y : Int)) = (!(x == y)) := by rw [Bool.eq_iff_iff]; simp <;> omega
  go_enter Tryz.func77, Tryz.ntmps77
  go_wp2_with fail
  first | refine HT.mono ?_ | refine HT2.mono ?_
  rintro e w' ⟨rfl, rfl⟩
  go_wp2_with fail
  go_ret
  refine ⟨?_, rfl⟩
  first | rfl | (rw [← heq]; rfl)
theorem bt15_is (x y m : Nat) (_hx : x ≤ m) (_hy : y ≤ m) (_hm : m < 65536) : Calls Tryz.prog 78 #[.int .u32 x, .int .u32 y, .int .u32 m] w fun e w' => e = .returned (.int .u32 (opV 15 x y m : Nat)) ∧ w = w' := by
  have HT := btruth_is (w := w) (decide (x < y))
  have HT2 := btruth_is (w := w) (decide ((x : Int) < (y : Int)))
  have heq : (decide ((x : Int) < (y : Int))) = (decide (x < y)) := by rw [Bool.eq_iff_iff]; simp <;> omega
  go_enter Tryz.func78, Tryz.ntmps78
  go_wp2_with fail
  first | refine HT.mono ?_ | refine HT2.mono ?_
  rintro e w' ⟨rfl, rfl⟩
  go_wp2_with fail
  go_ret
  refine ⟨?_, rfl⟩
  first | rfl | (rw [← heq]; rfl)
theorem bt16_is (x y m : Nat) (_hx : x ≤ m) (_hy : y ≤ m) (_hm : m < 65536) : Calls Tryz.prog 79 #[.int .u32 x, .int .u32 y, .int .u32 m] w fun e w' => e = .returned (.int .u32 (opV 16 x y m : Nat)) ∧ w = w' := by
  have HT := btruth_is (w := w) (decide (x ≤ y))
  have HT2 := btruth_is (w := w) (decide ((x : Int) ≤ (y : Int)))
  have heq : (decide ((x : Int) ≤ (y : Int))) = (decide (x ≤ y)) := by rw [Bool.eq_iff_iff]; simp <;> omega
  go_enter Tryz.func79, Tryz.ntmps79
  go_wp2_with fail
  first | refine HT.mono ?_ | refine HT2.mono ?_
  rintro e w' ⟨rfl, rfl⟩
  go_wp2_with fail
  go_ret
  refine ⟨?_, rfl⟩
  first | rfl | (rw [← heq]; rfl)
set_option maxRecDepth 100000 in
set_option maxHeartbeats 4000000 in
theorem bApply1_is (x y n : Nat) (hx : x < 4294967296) (hy : y < 4294967296) (h1 : 1 ≤ n) (h16 : n ≤ 16) : Calls Tryz.prog 10 #[.int .u8 1, .int .i64 n, .int .u32 x, .int .u32 y] w fun e w' => e = .returned (.tuple #[.int .u32 (applyV 1 n x y : Nat), .int .i64 0]) ∧ Ch [] w w' := by
  have h3 : 2 ^ n ≤ 2 ^ 16 := Nat.pow_le_pow_right (by omega) h16
  have HN := bName_is (w := w) 1 (.string ⟨#[126]⟩) (by omega) rfl
  have HM := fun w => Most_is (w := w) n h1 h16
  unfold applyV
  generalize hm : 2 ^ n - 1 = m at *
  have hm16 : m < 65536 := by omega
  have hux := u32_and_nat x m hx (by omega)
  have huy := u32_and_nat y m hy (by omega)
  have hXm : x &&& m ≤ m := Nat.and_le_right
  have hYm : y &&& m ≤ m := Nat.and_le_right
  generalize hX : x &&& m = X at *
  generalize hY : y &&& m = Y at *
  have HB := fun w => bt1_is (w := w) X Y m hXm hYm hm16
  have hv : opV 1 X Y m < 4294967296 := by rw [opV_1]; omega
  have huv := u32_and_nat (opV 1 X Y m) m hv (by omega)
  generalize opV 1 X Y m = v at *
  go_enter Tryz.func10, Tryz.ntmps10
  go_wp2_with fail
  refine HN.mono ?_
  rintro e w1 ⟨rfl, hw1⟩
  go_wp2_with fail
  refine (HM w1).mono ?_
  rintro e w2 ⟨rfl, rfl⟩
  go_wp2_with fail
  refine table_is.mono ?_
  rintro e w3 ⟨rfl, hw3⟩
  have hix : ∀ w, (Instr.index 69 (.agg #[.string ⟨#[]⟩, .int .i64 0, .bool false, .nilFunc, .string ⟨#[126]⟩, .int .i64 0, .bool false, .func (.func 63) #[] #[], .string ⟨#[45]⟩, .int .i64 0, .bool false, .func (.func 64) #[] #[], .string ⟨#[43]⟩, .int .i64 5, .bool false, .func (.func 65) #[] #[], .string ⟨#[45]⟩, .int .i64 5, .bool false, .func (.func 66) #[] #[], .string ⟨#[42]⟩, .int .i64 6, .bool false, .func (.func 67) #[] #[], .string ⟨#[47]⟩, .int .i64 6, .bool false, .func (.func 68) #[] #[], .string ⟨#[37]⟩, .int .i64 6, .bool false, .func (.func 69) #[] #[], .string ⟨#[38]⟩, .int .i64 2, .bool false, .func (.func 70) #[] #[], .string ⟨#[124]⟩, .int .i64 1, .bool false, .func (.func 71) #[] #[], .string ⟨#[94]⟩, .int .i64 1, .bool false, .func (.func 72) #[] #[], .string ⟨#[60, 60]⟩, .int .i64 4, .bool false, .func (.func 73) #[] #[], .string ⟨#[62, 62]⟩, .int .i64 4, .bool false, .func (.func 74) #[] #[], .string ⟨#[61, 61]⟩, .int .i64 3, .bool true, .func (.func 75) #[] #[], .string ⟨#[33, 61]⟩, .int .i64 3, .bool true, .func (.func 77) #[] #[], .string ⟨#[60]⟩, .int .i64 3, .bool true, .func (.func 78) #[] #[], .string ⟨#[60, 61]⟩, .int .i64 3, .bool true, .func (.func 79) #[] #[]]) (.int .u8 1)).run Tryz.prog w = .ok (.agg #[.string ⟨#[126]⟩, .int .i64 0, .bool false, .func (.func 63) #[] #[]]) w := fun w => by first | kernel_rfl | rfl
  have hfl : ∀ w, (Instr.field 68 (.agg #[.string ⟨#[126]⟩, .int .i64 0, .bool false, .func (.func 63) #[] #[]]) 3).run Tryz.prog w = .ok (.func (.func 63) #[] #[]) w := fun w => by first | kernel_rfl | rfl
  go_wp2_with fail
  refine (HB w3).mono ?_
  rintro e w4 ⟨rfl, rfl⟩
  go_wp2_with fail
  go_ret2
  exact ⟨rfl, hw1.trans hw3 (by simp)⟩
set_option maxRecDepth 100000 in
set_option maxHeartbeats 4000000 in
theorem bApply2_is (x y n : Nat) (hx : x < 4294967296) (hy : y < 4294967296) (h1 : 1 ≤ n) (h16 : n ≤ 16) : Calls Tryz.prog 10 #[.int .u8 2, .int .i64 n, .int .u32 x, .int .u32 y] w fun e w' => e = .returned (.tuple #[.int .u32 (applyV 2 n x y : Nat), .int .i64 0]) ∧ Ch [] w w' := by
  have h3 : 2 ^ n ≤ 2 ^ 16 := Nat.pow_le_pow_right (by omega) h16
  have HN := bName_is (w := w) 2 (.string ⟨#[45]⟩) (by omega) rfl
  have HM := fun w => Most_is (w := w) n h1 h16
  unfold applyV
  generalize hm : 2 ^ n - 1 = m at *
  have hm16 : m < 65536 := by omega
  have hux := u32_and_nat x m hx (by omega)
  have huy := u32_and_nat y m hy (by omega)
  have hXm : x &&& m ≤ m := Nat.and_le_right
  have hYm : y &&& m ≤ m := Nat.and_le_right
  generalize hX : x &&& m = X at *
  generalize hY : y &&& m = Y at *
  have HB := fun w => bt2_is (w := w) X Y m hXm hYm hm16
  have hv : opV 2 X Y m < 4294967296 := by rw [opV_2]; unfold neg32; omega
  have huv := u32_and_nat (opV 2 X Y m) m hv (by omega)
  generalize opV 2 X Y m = v at *
  go_enter Tryz.func10, Tryz.ntmps10
  go_wp2_with fail
  refine HN.mono ?_
  rintro e w1 ⟨rfl, hw1⟩
  go_wp2_with fail
  refine (HM w1).mono ?_
  rintro e w2 ⟨rfl, rfl⟩
  go_wp2_with fail
  refine table_is.mono ?_
  rintro e w3 ⟨rfl, hw3⟩
  have hix : ∀ w, (Instr.index 69 (.agg #[.string ⟨#[]⟩, .int .i64 0, .bool false, .nilFunc, .string ⟨#[126]⟩, .int .i64 0, .bool false, .func (.func 63) #[] #[], .string ⟨#[45]⟩, .int .i64 0, .bool false, .func (.func 64) #[] #[], .string ⟨#[43]⟩, .int .i64 5, .bool false, .func (.func 65) #[] #[], .string ⟨#[45]⟩, .int .i64 5, .bool false, .func (.func 66) #[] #[], .string ⟨#[42]⟩, .int .i64 6, .bool false, .func (.func 67) #[] #[], .string ⟨#[47]⟩, .int .i64 6, .bool false, .func (.func 68) #[] #[], .string ⟨#[37]⟩, .int .i64 6, .bool false, .func (.func 69) #[] #[], .string ⟨#[38]⟩, .int .i64 2, .bool false, .func (.func 70) #[] #[], .string ⟨#[124]⟩, .int .i64 1, .bool false, .func (.func 71) #[] #[], .string ⟨#[94]⟩, .int .i64 1, .bool false, .func (.func 72) #[] #[], .string ⟨#[60, 60]⟩, .int .i64 4, .bool false, .func (.func 73) #[] #[], .string ⟨#[62, 62]⟩, .int .i64 4, .bool false, .func (.func 74) #[] #[], .string ⟨#[61, 61]⟩, .int .i64 3, .bool true, .func (.func 75) #[] #[], .string ⟨#[33, 61]⟩, .int .i64 3, .bool true, .func (.func 77) #[] #[], .string ⟨#[60]⟩, .int .i64 3, .bool true, .func (.func 78) #[] #[], .string ⟨#[60, 61]⟩, .int .i64 3, .bool true, .func (.func 79) #[] #[]]) (.int .u8 2)).run Tryz.prog w = .ok (.agg #[.string ⟨#[45]⟩, .int .i64 0, .bool false, .func (.func 64) #[] #[]]) w := fun w => by first | kernel_rfl | rfl
  have hfl : ∀ w, (Instr.field 68 (.agg #[.string ⟨#[45]⟩, .int .i64 0, .bool false, .func (.func 64) #[] #[]]) 3).run Tryz.prog w = .ok (.func (.func 64) #[] #[]) w := fun w => by first | kernel_rfl | rfl
  go_wp2_with fail
  refine (HB w3).mono ?_
  rintro e w4 ⟨rfl, rfl⟩
  go_wp2_with fail
  go_ret2
  exact ⟨rfl, hw1.trans hw3 (by simp)⟩
set_option maxRecDepth 100000 in
set_option maxHeartbeats 4000000 in
theorem bApply3_is (x y n : Nat) (hx : x < 4294967296) (hy : y < 4294967296) (h1 : 1 ≤ n) (h16 : n ≤ 16) : Calls Tryz.prog 10 #[.int .u8 3, .int .i64 n, .int .u32 x, .int .u32 y] w fun e w' => e = .returned (.tuple #[.int .u32 (applyV 3 n x y : Nat), .int .i64 0]) ∧ Ch [] w w' := by
  have h3 : 2 ^ n ≤ 2 ^ 16 := Nat.pow_le_pow_right (by omega) h16
  have HN := bName_is (w := w) 3 (.string ⟨#[43]⟩) (by omega) rfl
  have HM := fun w => Most_is (w := w) n h1 h16
  unfold applyV
  generalize hm : 2 ^ n - 1 = m at *
  have hm16 : m < 65536 := by omega
  have hux := u32_and_nat x m hx (by omega)
  have huy := u32_and_nat y m hy (by omega)
  have hXm : x &&& m ≤ m := Nat.and_le_right
  have hYm : y &&& m ≤ m := Nat.and_le_right
  generalize hX : x &&& m = X at *
  generalize hY : y &&& m = Y at *
  have HB := fun w => bt3_is (w := w) X Y m hXm hYm hm16
  have hv : opV 3 X Y m < 4294967296 := by rw [opV_3]; unfold add32; omega
  have huv := u32_and_nat (opV 3 X Y m) m hv (by omega)
  generalize opV 3 X Y m = v at *
  go_enter Tryz.func10, Tryz.ntmps10
  go_wp2_with fail
  refine HN.mono ?_
  rintro e w1 ⟨rfl, hw1⟩
  go_wp2_with fail
  refine (HM w1).mono ?_
  rintro e w2 ⟨rfl, rfl⟩
  go_wp2_with fail
  refine table_is.mono ?_
  rintro e w3 ⟨rfl, hw3⟩
  have hix : ∀ w, (Instr.index 69 (.agg #[.string ⟨#[]⟩, .int .i64 0, .bool false, .nilFunc, .string ⟨#[126]⟩, .int .i64 0, .bool false, .func (.func 63) #[] #[], .string ⟨#[45]⟩, .int .i64 0, .bool false, .func (.func 64) #[] #[], .string ⟨#[43]⟩, .int .i64 5, .bool false, .func (.func 65) #[] #[], .string ⟨#[45]⟩, .int .i64 5, .bool false, .func (.func 66) #[] #[], .string ⟨#[42]⟩, .int .i64 6, .bool false, .func (.func 67) #[] #[], .string ⟨#[47]⟩, .int .i64 6, .bool false, .func (.func 68) #[] #[], .string ⟨#[37]⟩, .int .i64 6, .bool false, .func (.func 69) #[] #[], .string ⟨#[38]⟩, .int .i64 2, .bool false, .func (.func 70) #[] #[], .string ⟨#[124]⟩, .int .i64 1, .bool false, .func (.func 71) #[] #[], .string ⟨#[94]⟩, .int .i64 1, .bool false, .func (.func 72) #[] #[], .string ⟨#[60, 60]⟩, .int .i64 4, .bool false, .func (.func 73) #[] #[], .string ⟨#[62, 62]⟩, .int .i64 4, .bool false, .func (.func 74) #[] #[], .string ⟨#[61, 61]⟩, .int .i64 3, .bool true, .func (.func 75) #[] #[], .string ⟨#[33, 61]⟩, .int .i64 3, .bool true, .func (.func 77) #[] #[], .string ⟨#[60]⟩, .int .i64 3, .bool true, .func (.func 78) #[] #[], .string ⟨#[60, 61]⟩, .int .i64 3, .bool true, .func (.func 79) #[] #[]]) (.int .u8 3)).run Tryz.prog w = .ok (.agg #[.string ⟨#[43]⟩, .int .i64 5, .bool false, .func (.func 65) #[] #[]]) w := fun w => by first | kernel_rfl | rfl
  have hfl : ∀ w, (Instr.field 68 (.agg #[.string ⟨#[43]⟩, .int .i64 5, .bool false, .func (.func 65) #[] #[]]) 3).run Tryz.prog w = .ok (.func (.func 65) #[] #[]) w := fun w => by first | kernel_rfl | rfl
  go_wp2_with fail
  refine (HB w3).mono ?_
  rintro e w4 ⟨rfl, rfl⟩
  go_wp2_with fail
  go_ret2
  exact ⟨rfl, hw1.trans hw3 (by simp)⟩
set_option maxRecDepth 100000 in
set_option maxHeartbeats 4000000 in
theorem bApply4_is (x y n : Nat) (hx : x < 4294967296) (hy : y < 4294967296) (h1 : 1 ≤ n) (h16 : n ≤ 16) : Calls Tryz.prog 10 #[.int .u8 4, .int .i64 n, .int .u32 x, .int .u32 y] w fun e w' => e = .returned (.tuple #[.int .u32 (applyV 4 n x y : Nat), .int .i64 0]) ∧ Ch [] w w' := by
  have h3 : 2 ^ n ≤ 2 ^ 16 := Nat.pow_le_pow_right (by omega) h16
  have HN := bName_is (w := w) 4 (.string ⟨#[45]⟩) (by omega) rfl
  have HM := fun w => Most_is (w := w) n h1 h16
  unfold applyV
  generalize hm : 2 ^ n - 1 = m at *
  have hm16 : m < 65536 := by omega
  have hux := u32_and_nat x m hx (by omega)
  have huy := u32_and_nat y m hy (by omega)
  have hXm : x &&& m ≤ m := Nat.and_le_right
  have hYm : y &&& m ≤ m := Nat.and_le_right
  generalize hX : x &&& m = X at *
  generalize hY : y &&& m = Y at *
  have HB := fun w => bt4_is (w := w) X Y m hXm hYm hm16
  have hv : opV 4 X Y m < 4294967296 := by rw [opV_4]; unfold sub32; omega
  have huv := u32_and_nat (opV 4 X Y m) m hv (by omega)
  generalize opV 4 X Y m = v at *
  go_enter Tryz.func10, Tryz.ntmps10
  go_wp2_with fail
  refine HN.mono ?_
  rintro e w1 ⟨rfl, hw1⟩
  go_wp2_with fail
  refine (HM w1).mono ?_
  rintro e w2 ⟨rfl, rfl⟩
  go_wp2_with fail
  refine table_is.mono ?_
  rintro e w3 ⟨rfl, hw3⟩
  have hix : ∀ w, (Instr.index 69 (.agg #[.string ⟨#[]⟩, .int .i64 0, .bool false, .nilFunc, .string ⟨#[126]⟩, .int .i64 0, .bool false, .func (.func 63) #[] #[], .string ⟨#[45]⟩, .int .i64 0, .bool false, .func (.func 64) #[] #[], .string ⟨#[43]⟩, .int .i64 5, .bool false, .func (.func 65) #[] #[], .string ⟨#[45]⟩, .int .i64 5, .bool false, .func (.func 66) #[] #[], .string ⟨#[42]⟩, .int .i64 6, .bool false, .func (.func 67) #[] #[], .string ⟨#[47]⟩, .int .i64 6, .bool false, .func (.func 68) #[] #[], .string ⟨#[37]⟩, .int .i64 6, .bool false, .func (.func 69) #[] #[], .string ⟨#[38]⟩, .int .i64 2, .bool false, .func (.func 70) #[] #[], .string ⟨#[124]⟩, .int .i64 1, .bool false, .func (.func 71) #[] #[], .string ⟨#[94]⟩, .int .i64 1, .bool false, .func (.func 72) #[] #[], .string ⟨#[60, 60]⟩, .int .i64 4, .bool false, .func (.func 73) #[] #[], .string ⟨#[62, 62]⟩, .int .i64 4, .bool false, .func (.func 74) #[] #[], .string ⟨#[61, 61]⟩, .int .i64 3, .bool true, .func (.func 75) #[] #[], .string ⟨#[33, 61]⟩, .int .i64 3, .bool true, .func (.func 77) #[] #[], .string ⟨#[60]⟩, .int .i64 3, .bool true, .func (.func 78) #[] #[], .string ⟨#[60, 61]⟩, .int .i64 3, .bool true, .func (.func 79) #[] #[]]) (.int .u8 4)).run Tryz.prog w = .ok (.agg #[.string ⟨#[45]⟩, .int .i64 5, .bool false, .func (.func 66) #[] #[]]) w := fun w => by first | kernel_rfl | rfl
  have hfl : ∀ w, (Instr.field 68 (.agg #[.string ⟨#[45]⟩, .int .i64 5, .bool false, .func (.func 66) #[] #[]]) 3).run Tryz.prog w = .ok (.func (.func 66) #[] #[]) w := fun w => by first | kernel_rfl | rfl
  go_wp2_with fail
  refine (HB w3).mono ?_
  rintro e w4 ⟨rfl, rfl⟩
  go_wp2_with fail
  go_ret2
  exact ⟨rfl, hw1.trans hw3 (by simp)⟩
set_option maxRecDepth 100000 in
set_option maxHeartbeats 4000000 in
theorem bApply8_is (x y n : Nat) (hx : x < 4294967296) (hy : y < 4294967296) (h1 : 1 ≤ n) (h16 : n ≤ 16) : Calls Tryz.prog 10 #[.int .u8 8, .int .i64 n, .int .u32 x, .int .u32 y] w fun e w' => e = .returned (.tuple #[.int .u32 (applyV 8 n x y : Nat), .int .i64 0]) ∧ Ch [] w w' := by
  have h3 : 2 ^ n ≤ 2 ^ 16 := Nat.pow_le_pow_right (by omega) h16
  have HN := bName_is (w := w) 8 (.string ⟨#[38]⟩) (by omega) rfl
  have HM := fun w => Most_is (w := w) n h1 h16
  unfold applyV
  generalize hm : 2 ^ n - 1 = m at *
  have hm16 : m < 65536 := by omega
  have hux := u32_and_nat x m hx (by omega)
  have huy := u32_and_nat y m hy (by omega)
  have hXm : x &&& m ≤ m := Nat.and_le_right
  have hYm : y &&& m ≤ m := Nat.and_le_right
  generalize hX : x &&& m = X at *
  generalize hY : y &&& m = Y at *
  have HB := fun w => bt8_is (w := w) X Y m hXm hYm hm16
  have hv : opV 8 X Y m < 4294967296 := by rw [opV_8]; exact Nat.lt_of_le_of_lt Nat.and_le_left (by omega)
  have huv := u32_and_nat (opV 8 X Y m) m hv (by omega)
  generalize opV 8 X Y m = v at *
  go_enter Tryz.func10, Tryz.ntmps10
  go_wp2_with fail
  refine HN.mono ?_
  rintro e w1 ⟨rfl, hw1⟩
  go_wp2_with fail
  refine (HM w1).mono ?_
  rintro e w2 ⟨rfl, rfl⟩
  go_wp2_with fail
  refine table_is.mono ?_
  rintro e w3 ⟨rfl, hw3⟩
  have hix : ∀ w, (Instr.index 69 (.agg #[.string ⟨#[]⟩, .int .i64 0, .bool false, .nilFunc, .string ⟨#[126]⟩, .int .i64 0, .bool false, .func (.func 63) #[] #[], .string ⟨#[45]⟩, .int .i64 0, .bool false, .func (.func 64) #[] #[], .string ⟨#[43]⟩, .int .i64 5, .bool false, .func (.func 65) #[] #[], .string ⟨#[45]⟩, .int .i64 5, .bool false, .func (.func 66) #[] #[], .string ⟨#[42]⟩, .int .i64 6, .bool false, .func (.func 67) #[] #[], .string ⟨#[47]⟩, .int .i64 6, .bool false, .func (.func 68) #[] #[], .string ⟨#[37]⟩, .int .i64 6, .bool false, .func (.func 69) #[] #[], .string ⟨#[38]⟩, .int .i64 2, .bool false, .func (.func 70) #[] #[], .string ⟨#[124]⟩, .int .i64 1, .bool false, .func (.func 71) #[] #[], .string ⟨#[94]⟩, .int .i64 1, .bool false, .func (.func 72) #[] #[], .string ⟨#[60, 60]⟩, .int .i64 4, .bool false, .func (.func 73) #[] #[], .string ⟨#[62, 62]⟩, .int .i64 4, .bool false, .func (.func 74) #[] #[], .string ⟨#[61, 61]⟩, .int .i64 3, .bool true, .func (.func 75) #[] #[], .string ⟨#[33, 61]⟩, .int .i64 3, .bool true, .func (.func 77) #[] #[], .string ⟨#[60]⟩, .int .i64 3, .bool true, .func (.func 78) #[] #[], .string ⟨#[60, 61]⟩, .int .i64 3, .bool true, .func (.func 79) #[] #[]]) (.int .u8 8)).run Tryz.prog w = .ok (.agg #[.string ⟨#[38]⟩, .int .i64 2, .bool false, .func (.func 70) #[] #[]]) w := fun w => by first | kernel_rfl | rfl
  have hfl : ∀ w, (Instr.field 68 (.agg #[.string ⟨#[38]⟩, .int .i64 2, .bool false, .func (.func 70) #[] #[]]) 3).run Tryz.prog w = .ok (.func (.func 70) #[] #[]) w := fun w => by first | kernel_rfl | rfl
  go_wp2_with fail
  refine (HB w3).mono ?_
  rintro e w4 ⟨rfl, rfl⟩
  go_wp2_with fail
  go_ret2
  exact ⟨rfl, hw1.trans hw3 (by simp)⟩
set_option maxRecDepth 100000 in
set_option maxHeartbeats 4000000 in
theorem bApply9_is (x y n : Nat) (hx : x < 4294967296) (hy : y < 4294967296) (h1 : 1 ≤ n) (h16 : n ≤ 16) : Calls Tryz.prog 10 #[.int .u8 9, .int .i64 n, .int .u32 x, .int .u32 y] w fun e w' => e = .returned (.tuple #[.int .u32 (applyV 9 n x y : Nat), .int .i64 0]) ∧ Ch [] w w' := by
  have h3 : 2 ^ n ≤ 2 ^ 16 := Nat.pow_le_pow_right (by omega) h16
  have HN := bName_is (w := w) 9 (.string ⟨#[124]⟩) (by omega) rfl
  have HM := fun w => Most_is (w := w) n h1 h16
  unfold applyV
  generalize hm : 2 ^ n - 1 = m at *
  have hm16 : m < 65536 := by omega
  have hux := u32_and_nat x m hx (by omega)
  have huy := u32_and_nat y m hy (by omega)
  have hXm : x &&& m ≤ m := Nat.and_le_right
  have hYm : y &&& m ≤ m := Nat.and_le_right
  generalize hX : x &&& m = X at *
  generalize hY : y &&& m = Y at *
  have HB := fun w => bt9_is (w := w) X Y m hXm hYm hm16
  have hv : opV 9 X Y m < 4294967296 := by rw [opV_9]; exact Nat.or_lt_two_pow (n := 32) (by omega) (by omega)
  have huv := u32_and_nat (opV 9 X Y m) m hv (by omega)
  generalize opV 9 X Y m = v at *
  go_enter Tryz.func10, Tryz.ntmps10
  go_wp2_with fail
  refine HN.mono ?_
  rintro e w1 ⟨rfl, hw1⟩
  go_wp2_with fail
  refine (HM w1).mono ?_
  rintro e w2 ⟨rfl, rfl⟩
  go_wp2_with fail
  refine table_is.mono ?_
  rintro e w3 ⟨rfl, hw3⟩
  have hix : ∀ w, (Instr.index 69 (.agg #[.string ⟨#[]⟩, .int .i64 0, .bool false, .nilFunc, .string ⟨#[126]⟩, .int .i64 0, .bool false, .func (.func 63) #[] #[], .string ⟨#[45]⟩, .int .i64 0, .bool false, .func (.func 64) #[] #[], .string ⟨#[43]⟩, .int .i64 5, .bool false, .func (.func 65) #[] #[], .string ⟨#[45]⟩, .int .i64 5, .bool false, .func (.func 66) #[] #[], .string ⟨#[42]⟩, .int .i64 6, .bool false, .func (.func 67) #[] #[], .string ⟨#[47]⟩, .int .i64 6, .bool false, .func (.func 68) #[] #[], .string ⟨#[37]⟩, .int .i64 6, .bool false, .func (.func 69) #[] #[], .string ⟨#[38]⟩, .int .i64 2, .bool false, .func (.func 70) #[] #[], .string ⟨#[124]⟩, .int .i64 1, .bool false, .func (.func 71) #[] #[], .string ⟨#[94]⟩, .int .i64 1, .bool false, .func (.func 72) #[] #[], .string ⟨#[60, 60]⟩, .int .i64 4, .bool false, .func (.func 73) #[] #[], .string ⟨#[62, 62]⟩, .int .i64 4, .bool false, .func (.func 74) #[] #[], .string ⟨#[61, 61]⟩, .int .i64 3, .bool true, .func (.func 75) #[] #[], .string ⟨#[33, 61]⟩, .int .i64 3, .bool true, .func (.func 77) #[] #[], .string ⟨#[60]⟩, .int .i64 3, .bool true, .func (.func 78) #[] #[], .string ⟨#[60, 61]⟩, .int .i64 3, .bool true, .func (.func 79) #[] #[]]) (.int .u8 9)).run Tryz.prog w = .ok (.agg #[.string ⟨#[124]⟩, .int .i64 1, .bool false, .func (.func 71) #[] #[]]) w := fun w => by first | kernel_rfl | rfl
  have hfl : ∀ w, (Instr.field 68 (.agg #[.string ⟨#[124]⟩, .int .i64 1, .bool false, .func (.func 71) #[] #[]]) 3).run Tryz.prog w = .ok (.func (.func 71) #[] #[]) w := fun w => by first | kernel_rfl | rfl
  go_wp2_with fail
  refine (HB w3).mono ?_
  rintro e w4 ⟨rfl, rfl⟩
  go_wp2_with fail
  go_ret2
  exact ⟨rfl, hw1.trans hw3 (by simp)⟩
set_option maxRecDepth 100000 in
set_option maxHeartbeats 4000000 in
theorem bApply10_is (x y n : Nat) (hx : x < 4294967296) (hy : y < 4294967296) (h1 : 1 ≤ n) (h16 : n ≤ 16) : Calls Tryz.prog 10 #[.int .u8 10, .int .i64 n, .int .u32 x, .int .u32 y] w fun e w' => e = .returned (.tuple #[.int .u32 (applyV 10 n x y : Nat), .int .i64 0]) ∧ Ch [] w w' := by
  have h3 : 2 ^ n ≤ 2 ^ 16 := Nat.pow_le_pow_right (by omega) h16
  have HN := bName_is (w := w) 10 (.string ⟨#[94]⟩) (by omega) rfl
  have HM := fun w => Most_is (w := w) n h1 h16
  unfold applyV
  generalize hm : 2 ^ n - 1 = m at *
  have hm16 : m < 65536 := by omega
  have hux := u32_and_nat x m hx (by omega)
  have huy := u32_and_nat y m hy (by omega)
  have hXm : x &&& m ≤ m := Nat.and_le_right
  have hYm : y &&& m ≤ m := Nat.and_le_right
  generalize hX : x &&& m = X at *
  generalize hY : y &&& m = Y at *
  have HB := fun w => bt10_is (w := w) X Y m hXm hYm hm16
  have hv : opV 10 X Y m < 4294967296 := by rw [opV_10]; exact Nat.xor_lt_two_pow (n := 32) (by omega) (by omega)
  have huv := u32_and_nat (opV 10 X Y m) m hv (by omega)
  generalize opV 10 X Y m = v at *
  go_enter Tryz.func10, Tryz.ntmps10
  go_wp2_with fail
  refine HN.mono ?_
  rintro e w1 ⟨rfl, hw1⟩
  go_wp2_with fail
  refine (HM w1).mono ?_
  rintro e w2 ⟨rfl, rfl⟩
  go_wp2_with fail
  refine table_is.mono ?_
  rintro e w3 ⟨rfl, hw3⟩
  have hix : ∀ w, (Instr.index 69 (.agg #[.string ⟨#[]⟩, .int .i64 0, .bool false, .nilFunc, .string ⟨#[126]⟩, .int .i64 0, .bool false, .func (.func 63) #[] #[], .string ⟨#[45]⟩, .int .i64 0, .bool false, .func (.func 64) #[] #[], .string ⟨#[43]⟩, .int .i64 5, .bool false, .func (.func 65) #[] #[], .string ⟨#[45]⟩, .int .i64 5, .bool false, .func (.func 66) #[] #[], .string ⟨#[42]⟩, .int .i64 6, .bool false, .func (.func 67) #[] #[], .string ⟨#[47]⟩, .int .i64 6, .bool false, .func (.func 68) #[] #[], .string ⟨#[37]⟩, .int .i64 6, .bool false, .func (.func 69) #[] #[], .string ⟨#[38]⟩, .int .i64 2, .bool false, .func (.func 70) #[] #[], .string ⟨#[124]⟩, .int .i64 1, .bool false, .func (.func 71) #[] #[], .string ⟨#[94]⟩, .int .i64 1, .bool false, .func (.func 72) #[] #[], .string ⟨#[60, 60]⟩, .int .i64 4, .bool false, .func (.func 73) #[] #[], .string ⟨#[62, 62]⟩, .int .i64 4, .bool false, .func (.func 74) #[] #[], .string ⟨#[61, 61]⟩, .int .i64 3, .bool true, .func (.func 75) #[] #[], .string ⟨#[33, 61]⟩, .int .i64 3, .bool true, .func (.func 77) #[] #[], .string ⟨#[60]⟩, .int .i64 3, .bool true, .func (.func 78) #[] #[], .string ⟨#[60, 61]⟩, .int .i64 3, .bool true, .func (.func 79) #[] #[]]) (.int .u8 10)).run Tryz.prog w = .ok (.agg #[.string ⟨#[94]⟩, .int .i64 1, .bool false, .func (.func 72) #[] #[]]) w := fun w => by first | kernel_rfl | rfl
  have hfl : ∀ w, (Instr.field 68 (.agg #[.string ⟨#[94]⟩, .int .i64 1, .bool false, .func (.func 72) #[] #[]]) 3).run Tryz.prog w = .ok (.func (.func 72) #[] #[]) w := fun w => by first | kernel_rfl | rfl
  go_wp2_with fail
  refine (HB w3).mono ?_
  rintro e w4 ⟨rfl, rfl⟩
  go_wp2_with fail
  go_ret2
  exact ⟨rfl, hw1.trans hw3 (by simp)⟩
set_option maxRecDepth 100000 in
set_option maxHeartbeats 4000000 in
theorem bApply13_is (x y n : Nat) (hx : x < 4294967296) (hy : y < 4294967296) (h1 : 1 ≤ n) (h16 : n ≤ 16) : Calls Tryz.prog 10 #[.int .u8 13, .int .i64 n, .int .u32 x, .int .u32 y] w fun e w' => e = .returned (.tuple #[.int .u32 (applyV 13 n x y : Nat), .int .i64 0]) ∧ Ch [] w w' := by
  have h3 : 2 ^ n ≤ 2 ^ 16 := Nat.pow_le_pow_right (by omega) h16
  have HN := bName_is (w := w) 13 (.string ⟨#[61, 61]⟩) (by omega) rfl
  have HM := fun w => Most_is (w := w) n h1 h16
  unfold applyV
  generalize hm : 2 ^ n - 1 = m at *
  have hm16 : m < 65536 := by omega
  have hux := u32_and_nat x m hx (by omega)
  have huy := u32_and_nat y m hy (by omega)
  have hXm : x &&& m ≤ m := Nat.and_le_right
  have hYm : y &&& m ≤ m := Nat.and_le_right
  generalize hX : x &&& m = X at *
  generalize hY : y &&& m = Y at *
  have HB := fun w => bt13_is (w := w) X Y m hXm hYm hm16
  have hv : opV 13 X Y m < 4294967296 := by rw [opV_13]; exact Nat.lt_of_le_of_lt (Bool.toNat_le _) (by omega)
  have huv := u32_and_nat (opV 13 X Y m) m hv (by omega)
  generalize opV 13 X Y m = v at *
  go_enter Tryz.func10, Tryz.ntmps10
  go_wp2_with fail
  refine HN.mono ?_
  rintro e w1 ⟨rfl, hw1⟩
  go_wp2_with fail
  refine (HM w1).mono ?_
  rintro e w2 ⟨rfl, rfl⟩
  go_wp2_with fail
  refine table_is.mono ?_
  rintro e w3 ⟨rfl, hw3⟩
  have hix : ∀ w, (Instr.index 69 (.agg #[.string ⟨#[]⟩, .int .i64 0, .bool false, .nilFunc, .string ⟨#[126]⟩, .int .i64 0, .bool false, .func (.func 63) #[] #[], .string ⟨#[45]⟩, .int .i64 0, .bool false, .func (.func 64) #[] #[], .string ⟨#[43]⟩, .int .i64 5, .bool false, .func (.func 65) #[] #[], .string ⟨#[45]⟩, .int .i64 5, .bool false, .func (.func 66) #[] #[], .string ⟨#[42]⟩, .int .i64 6, .bool false, .func (.func 67) #[] #[], .string ⟨#[47]⟩, .int .i64 6, .bool false, .func (.func 68) #[] #[], .string ⟨#[37]⟩, .int .i64 6, .bool false, .func (.func 69) #[] #[], .string ⟨#[38]⟩, .int .i64 2, .bool false, .func (.func 70) #[] #[], .string ⟨#[124]⟩, .int .i64 1, .bool false, .func (.func 71) #[] #[], .string ⟨#[94]⟩, .int .i64 1, .bool false, .func (.func 72) #[] #[], .string ⟨#[60, 60]⟩, .int .i64 4, .bool false, .func (.func 73) #[] #[], .string ⟨#[62, 62]⟩, .int .i64 4, .bool false, .func (.func 74) #[] #[], .string ⟨#[61, 61]⟩, .int .i64 3, .bool true, .func (.func 75) #[] #[], .string ⟨#[33, 61]⟩, .int .i64 3, .bool true, .func (.func 77) #[] #[], .string ⟨#[60]⟩, .int .i64 3, .bool true, .func (.func 78) #[] #[], .string ⟨#[60, 61]⟩, .int .i64 3, .bool true, .func (.func 79) #[] #[]]) (.int .u8 13)).run Tryz.prog w = .ok (.agg #[.string ⟨#[61, 61]⟩, .int .i64 3, .bool true, .func (.func 75) #[] #[]]) w := fun w => by first | kernel_rfl | rfl
  have hfl : ∀ w, (Instr.field 68 (.agg #[.string ⟨#[61, 61]⟩, .int .i64 3, .bool true, .func (.func 75) #[] #[]]) 3).run Tryz.prog w = .ok (.func (.func 75) #[] #[]) w := fun w => by first | kernel_rfl | rfl
  go_wp2_with fail
  refine (HB w3).mono ?_
  rintro e w4 ⟨rfl, rfl⟩
  go_wp2_with fail
  go_ret2
  exact ⟨rfl, hw1.trans hw3 (by simp)⟩
set_option maxRecDepth 100000 in
set_option maxHeartbeats 4000000 in
theorem bApply14_is (x y n : Nat) (hx : x < 4294967296) (hy : y < 4294967296) (h1 : 1 ≤ n) (h16 : n ≤ 16) : Calls Tryz.prog 10 #[.int .u8 14, .int .i64 n, .int .u32 x, .int .u32 y] w fun e w' => e = .returned (.tuple #[.int .u32 (applyV 14 n x y : Nat), .int .i64 0]) ∧ Ch [] w w' := by
  have h3 : 2 ^ n ≤ 2 ^ 16 := Nat.pow_le_pow_right (by omega) h16
  have HN := bName_is (w := w) 14 (.string ⟨#[33, 61]⟩) (by omega) rfl
  have HM := fun w => Most_is (w := w) n h1 h16
  unfold applyV
  generalize hm : 2 ^ n - 1 = m at *
  have hm16 : m < 65536 := by omega
  have hux := u32_and_nat x m hx (by omega)
  have huy := u32_and_nat y m hy (by omega)
  have hXm : x &&& m ≤ m := Nat.and_le_right
  have hYm : y &&& m ≤ m := Nat.and_le_right
  generalize hX : x &&& m = X at *
  generalize hY : y &&& m = Y at *
  have HB := fun w => bt14_is (w := w) X Y m hXm hYm hm16
  have hv : opV 14 X Y m < 4294967296 := by rw [opV_14]; exact Nat.lt_of_le_of_lt (Bool.toNat_le _) (by omega)
  have huv := u32_and_nat (opV 14 X Y m) m hv (by omega)
  generalize opV 14 X Y m = v at *
  go_enter Tryz.func10, Tryz.ntmps10
  go_wp2_with fail
  refine HN.mono ?_
  rintro e w1 ⟨rfl, hw1⟩
  go_wp2_with fail
  refine (HM w1).mono ?_
  rintro e w2 ⟨rfl, rfl⟩
  go_wp2_with fail
  refine table_is.mono ?_
  rintro e w3 ⟨rfl, hw3⟩
  have hix : ∀ w, (Instr.index 69 (.agg #[.string ⟨#[]⟩, .int .i64 0, .bool false, .nilFunc, .string ⟨#[126]⟩, .int .i64 0, .bool false, .func (.func 63) #[] #[], .string ⟨#[45]⟩, .int .i64 0, .bool false, .func (.func 64) #[] #[], .string ⟨#[43]⟩, .int .i64 5, .bool false, .func (.func 65) #[] #[], .string ⟨#[45]⟩, .int .i64 5, .bool false, .func (.func 66) #[] #[], .string ⟨#[42]⟩, .int .i64 6, .bool false, .func (.func 67) #[] #[], .string ⟨#[47]⟩, .int .i64 6, .bool false, .func (.func 68) #[] #[], .string ⟨#[37]⟩, .int .i64 6, .bool false, .func (.func 69) #[] #[], .string ⟨#[38]⟩, .int .i64 2, .bool false, .func (.func 70) #[] #[], .string ⟨#[124]⟩, .int .i64 1, .bool false, .func (.func 71) #[] #[], .string ⟨#[94]⟩, .int .i64 1, .bool false, .func (.func 72) #[] #[], .string ⟨#[60, 60]⟩, .int .i64 4, .bool false, .func (.func 73) #[] #[], .string ⟨#[62, 62]⟩, .int .i64 4, .bool false, .func (.func 74) #[] #[], .string ⟨#[61, 61]⟩, .int .i64 3, .bool true, .func (.func 75) #[] #[], .string ⟨#[33, 61]⟩, .int .i64 3, .bool true, .func (.func 77) #[] #[], .string ⟨#[60]⟩, .int .i64 3, .bool true, .func (.func 78) #[] #[], .string ⟨#[60, 61]⟩, .int .i64 3, .bool true, .func (.func 79) #[] #[]]) (.int .u8 14)).run Tryz.prog w = .ok (.agg #[.string ⟨#[33, 61]⟩, .int .i64 3, .bool true, .func (.func 77) #[] #[]]) w := fun w => by first | kernel_rfl | rfl
  have hfl : ∀ w, (Instr.field 68 (.agg #[.string ⟨#[33, 61]⟩, .int .i64 3, .bool true, .func (.func 77) #[] #[]]) 3).run Tryz.prog w = .ok (.func (.func 77) #[] #[]) w := fun w => by first | kernel_rfl | rfl
  go_wp2_with fail
  refine (HB w3).mono ?_
  rintro e w4 ⟨rfl, rfl⟩
  go_wp2_with fail
  go_ret2
  exact ⟨rfl, hw1.trans hw3 (by simp)⟩
set_option maxRecDepth 100000 in
set_option maxHeartbeats 4000000 in
theorem bApply15_is (x y n : Nat) (hx : x < 4294967296) (hy : y < 4294967296) (h1 : 1 ≤ n) (h16 : n ≤ 16) : Calls Tryz.prog 10 #[.int .u8 15, .int .i64 n, .int .u32 x, .int .u32 y] w fun e w' => e = .returned (.tuple #[.int .u32 (applyV 15 n x y : Nat), .int .i64 0]) ∧ Ch [] w w' := by
  have h3 : 2 ^ n ≤ 2 ^ 16 := Nat.pow_le_pow_right (by omega) h16
  have HN := bName_is (w := w) 15 (.string ⟨#[60]⟩) (by omega) rfl
  have HM := fun w => Most_is (w := w) n h1 h16
  unfold applyV
  generalize hm : 2 ^ n - 1 = m at *
  have hm16 : m < 65536 := by omega
  have hux := u32_and_nat x m hx (by omega)
  have huy := u32_and_nat y m hy (by omega)
  have hXm : x &&& m ≤ m := Nat.and_le_right
  have hYm : y &&& m ≤ m := Nat.and_le_right
  generalize hX : x &&& m = X at *
  generalize hY : y &&& m = Y at *
  have HB := fun w => bt15_is (w := w) X Y m hXm hYm hm16
  have hv : opV 15 X Y m < 4294967296 := by rw [opV_15]; exact Nat.lt_of_le_of_lt (Bool.toNat_le _) (by omega)
  have huv := u32_and_nat (opV 15 X Y m) m hv (by omega)
  generalize opV 15 X Y m = v at *
  go_enter Tryz.func10, Tryz.ntmps10
  go_wp2_with fail
  refine HN.mono ?_
  rintro e w1 ⟨rfl, hw1⟩
  go_wp2_with fail
  refine (HM w1).mono ?_
  rintro e w2 ⟨rfl, rfl⟩
  go_wp2_with fail
  refine table_is.mono ?_
  rintro e w3 ⟨rfl, hw3⟩
  have hix : ∀ w, (Instr.index 69 (.agg #[.string ⟨#[]⟩, .int .i64 0, .bool false, .nilFunc, .string ⟨#[126]⟩, .int .i64 0, .bool false, .func (.func 63) #[] #[], .string ⟨#[45]⟩, .int .i64 0, .bool false, .func (.func 64) #[] #[], .string ⟨#[43]⟩, .int .i64 5, .bool false, .func (.func 65) #[] #[], .string ⟨#[45]⟩, .int .i64 5, .bool false, .func (.func 66) #[] #[], .string ⟨#[42]⟩, .int .i64 6, .bool false, .func (.func 67) #[] #[], .string ⟨#[47]⟩, .int .i64 6, .bool false, .func (.func 68) #[] #[], .string ⟨#[37]⟩, .int .i64 6, .bool false, .func (.func 69) #[] #[], .string ⟨#[38]⟩, .int .i64 2, .bool false, .func (.func 70) #[] #[], .string ⟨#[124]⟩, .int .i64 1, .bool false, .func (.func 71) #[] #[], .string ⟨#[94]⟩, .int .i64 1, .bool false, .func (.func 72) #[] #[], .string ⟨#[60, 60]⟩, .int .i64 4, .bool false, .func (.func 73) #[] #[], .string ⟨#[62, 62]⟩, .int .i64 4, .bool false, .func (.func 74) #[] #[], .string ⟨#[61, 61]⟩, .int .i64 3, .bool true, .func (.func 75) #[] #[], .string ⟨#[33, 61]⟩, .int .i64 3, .bool true, .func (.func 77) #[] #[], .string ⟨#[60]⟩, .int .i64 3, .bool true, .func (.func 78) #[] #[], .string ⟨#[60, 61]⟩, .int .i64 3, .bool true, .func (.func 79) #[] #[]]) (.int .u8 15)).run Tryz.prog w = .ok (.agg #[.string ⟨#[60]⟩, .int .i64 3, .bool true, .func (.func 78) #[] #[]]) w := fun w => by first | kernel_rfl | rfl
  have hfl : ∀ w, (Instr.field 68 (.agg #[.string ⟨#[60]⟩, .int .i64 3, .bool true, .func (.func 78) #[] #[]]) 3).run Tryz.prog w = .ok (.func (.func 78) #[] #[]) w := fun w => by first | kernel_rfl | rfl
  go_wp2_with fail
  refine (HB w3).mono ?_
  rintro e w4 ⟨rfl, rfl⟩
  go_wp2_with fail
  go_ret2
  exact ⟨rfl, hw1.trans hw3 (by simp)⟩
set_option maxRecDepth 100000 in
set_option maxHeartbeats 4000000 in
theorem bApply16_is (x y n : Nat) (hx : x < 4294967296) (hy : y < 4294967296) (h1 : 1 ≤ n) (h16 : n ≤ 16) : Calls Tryz.prog 10 #[.int .u8 16, .int .i64 n, .int .u32 x, .int .u32 y] w fun e w' => e = .returned (.tuple #[.int .u32 (applyV 16 n x y : Nat), .int .i64 0]) ∧ Ch [] w w' := by
  have h3 : 2 ^ n ≤ 2 ^ 16 := Nat.pow_le_pow_right (by omega) h16
  have HN := bName_is (w := w) 16 (.string ⟨#[60, 61]⟩) (by omega) rfl
  have HM := fun w => Most_is (w := w) n h1 h16
  unfold applyV
  generalize hm : 2 ^ n - 1 = m at *
  have hm16 : m < 65536 := by omega
  have hux := u32_and_nat x m hx (by omega)
  have huy := u32_and_nat y m hy (by omega)
  have hXm : x &&& m ≤ m := Nat.and_le_right
  have hYm : y &&& m ≤ m := Nat.and_le_right
  generalize hX : x &&& m = X at *
  generalize hY : y &&& m = Y at *
  have HB := fun w => bt16_is (w := w) X Y m hXm hYm hm16
  have hv : opV 16 X Y m < 4294967296 := by rw [opV_16]; exact Nat.lt_of_le_of_lt (Bool.toNat_le _) (by omega)
  have huv := u32_and_nat (opV 16 X Y m) m hv (by omega)
  generalize opV 16 X Y m = v at *
  go_enter Tryz.func10, Tryz.ntmps10
  go_wp2_with fail
  refine HN.mono ?_
  rintro e w1 ⟨rfl, hw1⟩
  go_wp2_with fail
  refine (HM w1).mono ?_
  rintro e w2 ⟨rfl, rfl⟩
  go_wp2_with fail
  refine table_is.mono ?_
  rintro e w3 ⟨rfl, hw3⟩
  have hix : ∀ w, (Instr.index 69 (.agg #[.string ⟨#[]⟩, .int .i64 0, .bool false, .nilFunc, .string ⟨#[126]⟩, .int .i64 0, .bool false, .func (.func 63) #[] #[], .string ⟨#[45]⟩, .int .i64 0, .bool false, .func (.func 64) #[] #[], .string ⟨#[43]⟩, .int .i64 5, .bool false, .func (.func 65) #[] #[], .string ⟨#[45]⟩, .int .i64 5, .bool false, .func (.func 66) #[] #[], .string ⟨#[42]⟩, .int .i64 6, .bool false, .func (.func 67) #[] #[], .string ⟨#[47]⟩, .int .i64 6, .bool false, .func (.func 68) #[] #[], .string ⟨#[37]⟩, .int .i64 6, .bool false, .func (.func 69) #[] #[], .string ⟨#[38]⟩, .int .i64 2, .bool false, .func (.func 70) #[] #[], .string ⟨#[124]⟩, .int .i64 1, .bool false, .func (.func 71) #[] #[], .string ⟨#[94]⟩, .int .i64 1, .bool false, .func (.func 72) #[] #[], .string ⟨#[60, 60]⟩, .int .i64 4, .bool false, .func (.func 73) #[] #[], .string ⟨#[62, 62]⟩, .int .i64 4, .bool false, .func (.func 74) #[] #[], .string ⟨#[61, 61]⟩, .int .i64 3, .bool true, .func (.func 75) #[] #[], .string ⟨#[33, 61]⟩, .int .i64 3, .bool true, .func (.func 77) #[] #[], .string ⟨#[60]⟩, .int .i64 3, .bool true, .func (.func 78) #[] #[], .string ⟨#[60, 61]⟩, .int .i64 3, .bool true, .func (.func 79) #[] #[]]) (.int .u8 16)).run Tryz.prog w = .ok (.agg #[.string ⟨#[60, 61]⟩, .int .i64 3, .bool true, .func (.func 79) #[] #[]]) w := fun w => by first | kernel_rfl | rfl
  have hfl : ∀ w, (Instr.field 68 (.agg #[.string ⟨#[60, 61]⟩, .int .i64 3, .bool true, .func (.func 79) #[] #[]]) 3).run Tryz.prog w = .ok (.func (.func 79) #[] #[]) w := fun w => by first | kernel_rfl | rfl
  go_wp2_with fail
  refine (HB w3).mono ?_
  rintro e w4 ⟨rfl, rfl⟩
  go_wp2_with fail
  go_ret2
  exact ⟨rfl, hw1.trans hw3 (by simp)⟩

end
end Go.Proofs.YtnmfdiiehkkjcaaGreat
namespace Go.Aig
theorem and_c (G : Gra) (a b : Bool) : and G a.toNat b.toNat = (G, (a && b).toNat, 0) := by cases a <;> cases b <;> rfl
theorem neg_c (b : Bool) : neg b.toNat = (!b).toNat := by cases b <;> rfl
theorem rOr_c (G : Gra) (a b : Bool) : rOr G a.toNat b.toNat = (G, (a || b).toNat, 0) := by cases a <;> cases b <;> rfl
theorem rMux_c (G : Gra) (c a b : Bool) : rMux G c.toNat a.toNat b.toNat = (G, (bif c then a else b).toNat, 0) := by cases c <;> cases a <;> cases b <;> rfl
theorem rXor_c (G : Gra) (a b : Bool) : rXor G a.toNat b.toNat = (G, (Bool.xor a b).toNat, 0) := by cases a <;> cases b <;> rfl
/-- a word of constants -/
def crs (l : List Bool) : List Nat := l.map Bool.toNat
def cp (p : Bool × Bool) : Nat × Nat := (p.1.toNat, p.2.toNat)
theorem crs_snoc (l : List Bool) (b : Bool) : crs (l ++ [b]) = crs l ++ [b.toNat] := by simp [crs]
theorem crs_zip (x y : List Bool) : (crs x).zip (crs y) = (x.zip y).map cp := by
  unfold crs cp
  rw [List.zip_map]
  rfl
theorem each_c (G : Gra) (f : Gra → Nat → Nat → Res) (g : Bool → Bool → Bool) (hf : ∀ a b : Bool, f G a.toNat b.toNat = (G, (g a b).toNat, 0)) (l : List (Bool × Bool)) :
    eachF (rop f) (G, 0) (l.map cp) = ((G, 0), crs (l.map fun p => g p.1 p.2)) := by
  have : ∀ (l : List (Bool × Bool)) (acc : List Nat), (l.map cp).foldl (eachS (rop f)) ((G, 0), acc) = ((G, 0), acc ++ crs (l.map fun p => g p.1 p.2)) := by
    intro l
    induction l with
    | nil => intro acc; simp [crs]
    | cons p l ih =>
      intro acc
      rw [List.map_cons, List.foldl_cons]
      have e : eachS (rop f) ((G, 0), acc) (cp p) = ((G, 0), acc ++ [(g p.1 p.2).toNat]) := by
        unfold eachS rop cp
        simp only [hf]
        rfl
      rw [e, ih]
      simp [crs]
  exact this l []
/-- the sum of constants, bit by bit -/
def sB (n : Nat) (q : List Bool × Bool) (p : Bool × Bool) : List Bool × Bool :=
  (q.1 ++ [Bool.xor (Bool.xor p.1 p.2) q.2], if q.1.length + 1 < n then (p.1 && p.2) || (Bool.xor p.1 p.2 && q.2) else q.2)
theorem sum_c (G : Gra) (n : Nat) (l : List (Bool × Bool)) (c : Bool) : sumF n (G, 0) (l.map cp) c.toNat = ((G, 0), crs (l.foldl (sB n) ([], c)).1, (l.foldl (sB n) ([], c)).2.toNat) := by
  have : ∀ (l : List (Bool × Bool)) (acc : List Bool) (c : Bool), (l.map cp).foldl (sumS n) ((G, 0), crs acc, c.toNat) = ((G, 0), crs (l.foldl (sB n) (acc, c)).1, (l.foldl (sB n) (acc, c)).2.toNat) := by
    intro l
    induction l with
    | nil => intro acc c; rfl
    | cons p l ih =>
      intro acc c
      rw [List.map_cons, List.foldl_cons, List.foldl_cons]
      have e : sumS n ((G, 0), crs acc, c.toNat) (cp p) = ((G, 0), crs (sB n (acc, c) p).1, (sB n (acc, c) p).2.toNat) := by
        have hx : sXor (G, 0) p.1.toNat p.2.toNat = ((G, 0), (Bool.xor p.1 p.2).toNat) := by unfold sXor; simp only [rXor_c]; rfl
        have hr : sXor (G, 0) (Bool.xor p.1 p.2).toNat c.toNat = ((G, 0), (Bool.xor (Bool.xor p.1 p.2) c).toNat) := by unfold sXor; simp only [rXor_c]; rfl
        have h1 : sAnd (G, 0) p.1.toNat p.2.toNat = ((G, 0), (p.1 && p.2).toNat) := by unfold sAnd; simp only [and_c]; rfl
        have h2 : sAnd (G, 0) (Bool.xor p.1 p.2).toNat c.toNat = ((G, 0), (Bool.xor p.1 p.2 && c).toNat) := by unfold sAnd; simp only [and_c]; rfl
        have h3 : sOr (G, 0) (p.1 && p.2).toNat (Bool.xor p.1 p.2 && c).toNat = ((G, 0), ((p.1 && p.2) || (Bool.xor p.1 p.2 && c)).toNat) := by unfold sOr; simp only [rOr_c]; rfl
        have hl : (crs acc).length = acc.length := by simp [crs]
        unfold sumS sB cp
        simp only [hx, hr, h1, h2, h3, hl]
        split
        · simp only [crs_snoc]
        · simp only [crs_snoc]
      rw [e, ih]
  exact this l [] c
theorem b_le (b : Bool) : b.toNat ≤ 1 := by cases b <;> decide
theorem sB_len (n : Nat) (c : Bool) (l : List (Bool × Bool)) : (l.foldl (sB n) ([], c)).1.length = l.length := by
  induction l using List.snocRec with
  | nil => rfl
  | snoc l p ih => rw [List.foldl_append]; simp [sB, ih]
theorem full_add (a b c : Bool) : (Bool.xor (Bool.xor a b) c).toNat + 2 * ((a && b) || (Bool.xor a b && c)).toNat = a.toNat + b.toNat + c.toNat := by cases a <;> cases b <;> cases c <;> rfl
theorem sB_val (n : Nat) (c : Bool) (l : List (Bool × Bool)) (h : l.length < n) : bitsVal (l.foldl (sB n) ([], c)).1 + (l.foldl (sB n) ([], c)).2.toNat * 2 ^ l.length = bitsVal (l.map Prod.fst) + bitsVal (l.map Prod.snd) + c.toNat := by
  induction l using List.snocRec with
  | nil => simp [bitsVal]
  | snoc l p ih =>
    rw [List.length_append] at h
    have ih := ih (by simp at h; omega)
    have hl := sB_len n c l
    rw [List.foldl_append]
    generalize l.foldl (sB n) ([], c) = q at *
    obtain ⟨out, cc⟩ := q
    simp only at ih hl
    simp only [List.foldl_cons, List.foldl_nil, sB, hl, List.map_append, List.map_cons, List.map_nil, List.length_append, List.length_cons, List.length_nil]
    simp at h
    rw [if_pos (by omega)]
    rw [bitsVal_snoc, bitsVal_snoc, bitsVal_snoc, hl, List.length_map, List.length_map, Nat.zero_add, Nat.pow_succ]
    have hf := full_add p.1 p.2 cc
    generalize 2 ^ l.length = P at *
    generalize (Bool.xor (Bool.xor p.1 p.2) cc).toNat = s at *
    generalize ((p.1 && p.2) || (Bool.xor p.1 p.2 && cc)).toNat = t at *
    generalize p.1.toNat = a at *
    generalize p.2.toNat = b at *
    generalize cc.toNat = k at *
    have e : s * P + t * (P * 2) = a * P + b * P + k * P := by
      have : (s + 2 * t) * P = (a + b + k) * P := by rw [hf]
      rw [Nat.add_mul, Nat.add_mul, Nat.add_mul] at this
      rw [show t * (P * 2) = 2 * t * P by rw [Nat.mul_comm P 2, ← Nat.mul_assoc, Nat.mul_comm t 2]]
      exact this
    omega
theorem sB_last (n : Nat) (c : Bool) (l : List (Bool × Bool)) (h : l.length = n) (hn : 1 ≤ n) : bitsVal (l.foldl (sB n) ([], c)).1 = (bitsVal (l.map Prod.fst) + bitsVal (l.map Prod.snd) + c.toNat) % 2 ^ n := by
  have hne : l ≠ [] := by intro e; rw [e] at h; simp at h; omega
  obtain ⟨l', p, rfl⟩ : ∃ l' p, l = l' ++ [p] := ⟨_, _, (List.dropLast_concat_getLast hne).symm⟩
  rw [List.length_append] at h
  simp at h
  have hv := sB_val n c l' (by omega)
  have hl := sB_len n c l'
  have hlt := bitsVal_lt (((l' ++ [p]).foldl (sB n) ([], c)).1)
  rw [sB_len, List.length_append] at hlt
  simp only [List.length_cons, List.length_nil, Nat.zero_add, h] at hlt
  rw [List.foldl_append] at hlt ⊢
  generalize l'.foldl (sB n) ([], c) = q at *
  obtain ⟨out, cc⟩ := q
  simp only at hv hl
  simp only [List.foldl_cons, List.foldl_nil, sB, List.map_append, List.map_cons, List.map_nil] at hlt ⊢
  rw [bitsVal_snoc] at hlt ⊢
  rw [bitsVal_snoc, bitsVal_snoc, hl, List.length_map, List.length_map]
  rw [hl] at hlt
  have hP : 2 ^ n = 2 * 2 ^ l'.length := by rw [← h, Nat.pow_succ, Nat.mul_comm]
  rw [hP] at hlt ⊢
  have hf := full_add p.1 p.2 cc
  generalize 2 ^ l'.length = P at *
  generalize (Bool.xor (Bool.xor p.1 p.2) cc).toNat = s at *
  generalize ((p.1 && p.2) || (Bool.xor p.1 p.2 && cc)).toNat = t at *
  generalize p.1.toNat = a at *
  generalize p.2.toNat = b at *
  generalize cc.toNat = k at *
  have e : s * P + t * (2 * P) = a * P + b * P + k * P := by
    have : (s + 2 * t) * P = (a + b + k) * P := by rw [hf]
    rw [Nat.add_mul, Nat.add_mul, Nat.add_mul] at this
    rw [show t * (2 * P) = 2 * t * P by rw [← Nat.mul_assoc, Nat.mul_comm t 2]]
    exact this
  have e2 : bitsVal (l'.map Prod.fst) + a * P + (bitsVal (l'.map Prod.snd) + b * P) + c.toNat = bitsVal out + s * P + t * (2 * P) := by omega
  rw [e2, Nat.mul_comm t (2 * P), Nat.add_mul_mod_self_left, Nat.mod_eq_of_lt hlt]
/-- less than, of constants -/
def lB (o : Bool) (p : Bool × Bool) : Bool := bif Bool.xor p.1 p.2 then p.2 else o
theorem lt_c (G : Gra) (l : List (Bool × Bool)) : ltF (G, 0) (l.map cp) = ((G, 0), (l.foldl lB false).toNat) := by
  have : ∀ (l : List (Bool × Bool)) (o : Bool), (l.map cp).foldl ltS ((G, 0), o.toNat) = ((G, 0), (l.foldl lB o).toNat) := by
    intro l
    induction l with
    | nil => intro o; rfl
    | cons p l ih =>
      intro o
      rw [List.map_cons, List.foldl_cons, List.foldl_cons]
      have e : ltS ((G, 0), o.toNat) (cp p) = ((G, 0), (lB o p).toNat) := by
        have hx : sXor (G, 0) p.1.toNat p.2.toNat = ((G, 0), (Bool.xor p.1 p.2).toNat) := by unfold sXor; simp only [rXor_c]; rfl
        have hm : sMux (G, 0) (Bool.xor p.1 p.2).toNat p.2.toNat o.toNat = ((G, 0), (bif Bool.xor p.1 p.2 then p.2 else o).toNat) := by unfold sMux; simp only [rMux_c]; rfl
        unfold ltS cp
        simp only [hx, hm]
        rfl
      rw [e, ih]
  exact this l false
theorem lB_val (l : List (Bool × Bool)) : l.foldl lB false = decide (bitsVal (l.map Prod.fst) < bitsVal (l.map Prod.snd)) := by
  induction l using List.snocRec with
  | nil => rfl
  | snoc l p ih =>
    rw [List.foldl_append, ih]
    simp only [List.foldl_cons, List.foldl_nil, List.map_append, List.map_cons, List.map_nil]
    rw [bitsVal_snoc, bitsVal_snoc, List.length_map, List.length_map]
    have h1 := bitsVal_lt (l.map Prod.fst)
    have h2 := bitsVal_lt (l.map Prod.snd)
    rw [List.length_map] at h1 h2
    unfold lB
    generalize bitsVal (l.map Prod.fst) = x at *
    generalize bitsVal (l.map Prod.snd) = y at *
    generalize 2 ^ l.length = P at *
    obtain ⟨a, b⟩ := p
    cases a <;> cases b <;> simp <;> omega
theorem rAllFrom_c (G : Gra) : ∀ (l : List Bool) (o : Bool), rAllFrom G G o.toNat (crs l) = (G, (o && l.all id).toNat, 0)
  | [], o => by simp [crs, rAllFrom]
  | b :: l, o => by
    have h := and_c G o b
    show (if (and G o.toNat b.toNat).2.2 ≠ 0 then (G, 0, (and G o.toNat b.toNat).2.2) else rAllFrom G (and G o.toNat b.toNat).1 (and G o.toNat b.toNat).2.1 (crs l)) = _
    rw [h]
    simp only [ne_eq, not_true_eq_false, if_false]
    rw [rAllFrom_c G l]
    simp [Bool.and_assoc]
theorem all_not : ∀ l : List Bool, (l.map not).all id = !(l.any id)
  | [] => rfl
  | b :: l => by
    rw [List.map_cons, List.all_cons, List.any_cons, all_not l]
    cases b <;> rfl
theorem rAny_c (G : Gra) (l : List Bool) : rAny G (crs l) = (G, (l.any id).toNat, 0) := by
  have hn : (crs l).map neg = crs (l.map not) := by
    unfold crs
    rw [List.map_map, List.map_map]
    exact List.map_congr_left (fun b _ => neg_c b)
  have h := rAllFrom_c G (l.map not) true
  have h2 : rAll G ((crs l).map neg) = (G, ((l.map not).all id).toNat, 0) := by
    rw [hn]
    unfold rAll
    have := h
    simp only [Bool.true_and] at this
    exact this
  unfold rAny
  rw [h2]
  simp only [ne_eq, not_true_eq_false, if_false, neg_c]
  rw [all_not, Bool.not_not]
theorem any_val (l : List Bool) : l.any id = decide (bitsVal l ≠ 0) := by
  induction l with
  | nil => rfl
  | cons b l ih =>
    rw [List.any_cons, ih]
    show (b || decide (bitsVal l ≠ 0)) = decide (b.toNat + 2 * bitsVal l ≠ 0)
    cases b <;> simp <;> omega
theorem bitsVal_inj : ∀ {x y : List Bool}, x.length = y.length → bitsVal x = bitsVal y → x = y
  | [], [], _, _ => rfl
  | [], _ :: _, h, _ => by simp at h
  | _ :: _, [], h, _ => by simp at h
  | a :: x, b :: y, h, e => by
    have e : a.toNat + 2 * bitsVal x = b.toNat + 2 * bitsVal y := e
    have ha := b_le a
    have hb := b_le b
    have h1 : a.toNat = b.toNat := by omega
    have h2 : bitsVal x = bitsVal y := by omega
    rw [bitsVal_inj (by simpa using h) h2]
    congr 1
    cases a <;> cases b <;> simp at h1 ⊢
theorem not_val (l : List Bool) : bitsVal (l.map not) = 2 ^ l.length - 1 - bitsVal l := by
  induction l with
  | nil => rfl
  | cons b l ih =>
    have h := bitsVal_lt l
    show (!b).toNat + 2 * bitsVal (l.map not) = 2 ^ (l.length + 1) - 1 - (b.toNat + 2 * bitsVal l)
    rw [ih, Nat.pow_succ]
    cases b <;> simp <;> omega
theorem bitsVal_bit : ∀ (l : List Bool) (i : Nat), (bitsVal l).testBit i = l.getD i false
  | [], i => by simp [bitsVal]
  | b :: l, 0 => by
    show (b.toNat + 2 * bitsVal l).testBit 0 = b
    rw [Nat.testBit_zero]
    cases b <;> simp <;> omega
  | b :: l, i + 1 => by
    show (b.toNat + 2 * bitsVal l).testBit (i + 1) = _
    rw [Nat.testBit_succ, show (b.toNat + 2 * bitsVal l) / 2 = bitsVal l by have := b_le b; omega, bitsVal_bit l i]
    simp
theorem bits_val (a w : Nat) : bitsVal ((List.range w).map fun i => a.testBit i) = a % 2 ^ w := by
  apply Nat.eq_of_testBit_eq
  intro i
  rw [bitsVal_bit, Nat.testBit_mod_two_pow, List.getD_eq_getElem?_getD, List.getElem?_map]
  by_cases h : i < w
  · rw [List.getElem?_range h]; simp [h]
  · rw [List.getElem?_eq_none (by simp; omega)]; simp [h]
end Go.Aig
namespace Go.Aig
def opsL : List Nat := [1, 2, 8, 9, 10, 3, 4, 13, 14, 15, 16]
theorem nats_crs (X : List Bool) : nats (natInts (crs X)) = crs X := by
  unfold nats natInts
  exact Go.Proofs.YtnmfdiiehkkjcaaGreat.toNats (crs X)
theorem crs_len (X : List Bool) : (crs X).length = X.length := by simp [crs]
theorem natInts_crs_len (X : List Bool) : (natInts (crs X)).length = X.length := by simp [natInts, crs]
theorem crs_neg (X : List Bool) : (crs X).map neg = crs (X.map not) := by
  unfold crs
  rw [List.map_map, List.map_map]
  exact List.map_congr_left (fun b _ => neg_c b)
theorem badIn_c {G : Gra} (hG : Ok G) (X : List Bool) : badIn G (natInts (crs X)) = false := by
  unfold badIn
  rw [List.any_eq_false]
  intro r hr
  unfold natInts crs at hr
  rw [List.map_map] at hr
  obtain ⟨b, _, rfl⟩ := List.mem_map.1 hr
  have := hG.wf.pos
  have := b_le b
  simp [right]; omega
theorem chk2_c {G : Gra} (hG : Ok G) {X Y : List Bool} {w : Nat} (hx : X.length = w) (hy : Y.length = w) (h1 : 1 ≤ w) (h16 : w ≤ 16) : chk G [natInts (crs X), natInts (crs Y)] = 0 := by
  have h : rightW (w : Int) = true := by unfold rightW; simp; omega
  unfold chk
  simp only [List.any_cons, List.any_nil, Bool.or_false, List.headD_cons, badIn_c hG, badAs, natInts_crs_len, hx, hy, h]
  simp
theorem chk1_c {G : Gra} (hG : Ok G) {X : List Bool} {w : Nat} (hx : X.length = w) (h1 : 1 ≤ w) (h16 : w ≤ 16) : chk G [natInts (crs X)] = 0 := by
  have h : rightW (w : Int) = true := by unfold rightW; simp; omega
  unfold chk
  simp only [List.any_cons, List.any_nil, Bool.or_false, List.headD_cons, badIn_c hG, badAs, natInts_crs_len, hx, h]
  simp
theorem wordG_c {G : Gra} {ws : List (List Int)} (h : chk G ws = 0) (l : List Nat) : wordG G ws ((G, 0), l) = (G, l, 0) := by
  unfold wordG wres
  rw [if_neg (by simp [h]), if_neg (by simp)]
theorem refG_c {G : Gra} {ws : List (List Int)} (h : chk G ws = 0) (r : Nat) : refG G ws ((G, 0), r) = (G, r, 0) := by
  unfold refG rres
  rw [if_neg (by simp [h]), if_neg (by simp)]
theorem negG_c (G : Gra) (b : Bool) : negG (G, b.toNat, 0) = (G, (!b).toNat, 0) := by
  unfold negG
  rw [if_neg (by simp), neg_c]
theorem mask_eq (a w : Nat) : a &&& (2 ^ w - 1) = a % 2 ^ w := Nat.and_two_pow_sub_one_eq_mod a w
theorem fst_zip {X Y : List Bool} (h : X.length = Y.length) : (X.zip Y).map Prod.fst = X := List.map_fst_zip (by omega)
theorem snd_zip {X Y : List Bool} (h : X.length = Y.length) : (X.zip Y).map Prod.snd = Y := List.map_snd_zip (by omega)
theorem sumW_c {G : Gra} {X Y : List Bool} {w : Nat} (hx : X.length = w) (hy : Y.length = w) (h1 : 1 ≤ w) (c : Bool) : ∃ B : List Bool, sumW w (G, 0) ((crs X).zip (crs Y)) c.toNat = ((G, 0), crs B) ∧ B.length = w ∧ bitsVal B = (bitsVal X + bitsVal Y + c.toNat) % 2 ^ w := by
  have hl : (X.zip Y).length = w := by rw [List.length_zip]; omega
  refine ⟨((X.zip Y).foldl (sB w) ([], c)).1, ?_, by rw [sB_len]; exact hl, ?_⟩
  · unfold sumW
    rw [crs_zip, sum_c]
  · rw [sB_last w c _ hl h1, fst_zip (by omega), snd_zip (by omega)]
theorem zip_val (g : Bool → Bool → Bool) (hg : g false false = false) (X Y : List Bool) (h : X.length = Y.length) (i : Nat) : (bitsVal ((X.zip Y).map fun p => g p.1 p.2)).testBit i = g ((bitsVal X).testBit i) ((bitsVal Y).testBit i) := by
  rw [bitsVal_bit, bitsVal_bit, bitsVal_bit, List.getD_eq_getElem?_getD, List.getD_eq_getElem?_getD, List.getD_eq_getElem?_getD, List.getElem?_map]
  by_cases hi : i < X.length
  · rw [List.getElem?_eq_getElem hi, List.getElem?_eq_getElem (show i < Y.length by omega), List.getElem?_eq_getElem (show i < (X.zip Y).length by rw [List.length_zip]; omega)]
    simp
  · rw [List.getElem?_eq_none (show X.length ≤ i by omega), List.getElem?_eq_none (show Y.length ≤ i by omega), List.getElem?_eq_none (show (X.zip Y).length ≤ i by rw [List.length_zip]; omega)]
    simp [hg]
theorem pow32 {w : Nat} (h : w ≤ 16) : ∃ Q, 4294967296 = 2 ^ w * Q ∧ 1 ≤ Q := ⟨2 ^ (32 - w), by rw [← Nat.pow_add, show w + (32 - w) = 32 by omega], Nat.one_le_two_pow⟩
theorem ne_c {G : Gra} (hG : Ok G) {X Y : List Bool} {w : Nat} (hx : X.length = w) (hy : Y.length = w) (h1 : 1 ≤ w) (h16 : w ≤ 16) : refG G [natInts (crs X), natInts (crs Y)] (neF (G, 0) ((nats (natInts (crs X))).zip (nats (natInts (crs Y))))) = (G, (!(bitsVal X == bitsVal Y)).toNat, 0) := by
  rw [nats_crs, nats_crs]
  have e : neF (G, 0) ((crs X).zip (crs Y)) = ((G, 0), (!(bitsVal X == bitsVal Y)).toNat) := by
    unfold neF sAny
    rw [crs_zip, each_c G rXor Bool.xor (rXor_c G)]
    simp only [rAny_c]
    show ((G, 0), (((X.zip Y).map fun p => Bool.xor p.1 p.2).any id).toNat) = _
    rw [any_val]
    congr 2
    by_cases h : bitsVal X = bitsVal Y
    · have hxy := bitsVal_inj (by omega) h
      subst hxy
      have h0 : bitsVal ((X.zip X).map fun p => Bool.xor p.1 p.2) = 0 := by
        apply Nat.eq_of_testBit_eq
        intro i
        rw [zip_val Bool.xor rfl X X rfl]
        simp
      rw [h0]; simp
    · have h0 : bitsVal ((X.zip Y).map fun p => Bool.xor p.1 p.2) ≠ 0 := fun e => h (by
        apply Nat.eq_of_testBit_eq
        intro i
        have := zip_val Bool.xor rfl X Y (by omega) i
        rw [e, Nat.zero_testBit] at this
        cases hq : (bitsVal X).testBit i <;> cases hr : (bitsVal Y).testBit i <;> rw [hq, hr] at this <;> simp at this ⊢)
      have h2 : (bitsVal X == bitsVal Y) = false := by rw [beq_eq_false_iff_ne]; exact h
      rw [h2, decide_eq_true h0]; rfl
  rw [e]
  exact refG_c (chk2_c hG hx hy h1 h16) _
theorem ltR_c {G : Gra} (hG : Ok G) {X Y : List Bool} {w : Nat} (hx : X.length = w) (hy : Y.length = w) (h1 : 1 ≤ w) (h16 : w ≤ 16) : refG G [natInts (crs X), natInts (crs Y)] (ltF (G, 0) ((nats (natInts (crs X))).zip (nats (natInts (crs Y))))) = (G, (decide (bitsVal X < bitsVal Y)).toNat, 0) := by
  rw [nats_crs, nats_crs, crs_zip, lt_c, lB_val, fst_zip (by omega), snd_zip (by omega)]
  exact refG_c (chk2_c hG hx hy h1 h16) _
/-- what an operation makes of constants -/
structure OpC (i : Nat) (G : Gra) (X Y : List Bool) (w : Nat) (B : List Bool) : Prop where
  made : mkOp i G (natInts (crs X)) (natInts (crs Y)) = (G, crs B, 0)
  val : bitsVal B = opV (opsL.getD i 0) (bitsVal X) (bitsVal Y) (2 ^ w - 1) &&& (2 ^ w - 1)
  len : 1 ≤ B.length ∧ B.length ≤ 16
theorem bit_mask {w : Nat} (h : 1 ≤ w) (b : Bool) : b.toNat &&& (2 ^ w - 1) = b.toNat := by
  rw [mask_eq]
  have : 2 ^ 1 ≤ 2 ^ w := Nat.pow_le_pow_right (by omega) h
  have := b_le b
  exact Nat.mod_eq_of_lt (by omega)
theorem bit_val (b : Bool) : bitsVal [b] = b.toNat := by simp [bitsVal]
theorem mkOp_c {G : Gra} (hG : Ok G) {X Y : List Bool} {w : Nat} (hx : X.length = w) (hy : Y.length = w) (h1 : 1 ≤ w) (h16 : w ≤ 16) (i : Nat) (hi : i < 11) : ∃ B, OpC i G X Y w B := by
  have hX := bitsVal_lt X
  have hY := bitsVal_lt Y
  rw [hx] at hX
  rw [hy] at hY
  have hc2 := chk2_c hG hx hy h1 h16
  obtain ⟨Q, hQ, hQ1⟩ := pow32 h16
  have hP : 0 < 2 ^ w := Nat.two_pow_pos w
  match i, hi with
  | 0, _ =>
    refine ⟨X.map not, ?_, ?_, by simp; omega⟩
    · rw [mkOp_0, nats_crs, crs_neg]
      exact wordG_c (chk1_c hG hx h1 h16) _
    · rw [show opsL.getD 0 0 = 1 from rfl, opV_1]
      rw [not_val, hx, mask_eq]
      show _ = (2 ^ w - 1 - bitsVal X) % 2 ^ w
      rw [Nat.mod_eq_of_lt (by omega)]
  | 1, _ =>
    have h0 : List.replicate (natInts (crs X)).length (0 : Int) = natInts (crs (List.replicate w false)) := by
      rw [natInts_crs_len, hx]; simp [natInts, crs]
    obtain ⟨B, hB, hl, hv⟩ := sumW_c (G := G) (X := List.replicate w false) (Y := X.map not) (w := w) (by simp) (by simp [hx]) h1 true
    have hz : bitsVal (List.replicate w false) = 0 := by
      apply Nat.eq_of_testBit_eq
      intro j
      rw [bitsVal_bit, List.getD_eq_getElem?_getD, List.getElem?_replicate]
      split <;> simp
    refine ⟨B, ?_, ?_, by omega⟩
    · rw [mkOp_1, h0]
      unfold subG
      rw [nats_crs, nats_crs, natInts_crs_len, List.length_replicate, crs_neg, show (1 : Nat) = (true : Bool).toNat from rfl, hB]
      exact wordG_c (chk2_c hG (by simp) hx h1 h16) _
    · rw [show opsL.getD 1 0 = 2 from rfl, opV_2]
      unfold neg32
      rw [hv, hz, not_val, hx, mask_eq]
      show (0 + (2 ^ w - 1 - bitsVal X) + 1) % 2 ^ w = (4294967296 - bitsVal X) % 4294967296 % 2 ^ w
      rw [hQ, Nat.mod_mul_right_mod, show 0 + (2 ^ w - 1 - bitsVal X) + 1 = 2 ^ w - bitsVal X by omega]
      obtain ⟨q, rfl⟩ : ∃ q, Q = q + 1 := ⟨Q - 1, by omega⟩
      rw [Nat.mul_add, Nat.mul_one, show 2 ^ w * q + 2 ^ w - bitsVal X = (2 ^ w - bitsVal X) + 2 ^ w * q by omega, Nat.add_mul_mod_self_left]
  | 2, _ =>
    refine ⟨(X.zip Y).map fun p => p.1 && p.2, ?_, ?_, by simp [hx, hy]; omega⟩
    · rw [mkOp_2, nats_crs, nats_crs, crs_zip, each_c G and (fun a b => a && b) (and_c G)]
      exact wordG_c hc2 _
    · rw [show opsL.getD 2 0 = 8 from rfl, opV_8]
      show _ = (bitsVal X &&& bitsVal Y) &&& (2 ^ w - 1)
      rw [mask_eq, Nat.mod_eq_of_lt (Nat.and_lt_two_pow _ hY)]
      apply Nat.eq_of_testBit_eq
      intro j
      rw [zip_val (fun a b => a && b) rfl X Y (by omega), Nat.testBit_and]
  | 3, _ =>
    refine ⟨(X.zip Y).map fun p => p.1 || p.2, ?_, ?_, by simp [hx, hy]; omega⟩
    · rw [mkOp_3, nats_crs, nats_crs, crs_zip, each_c G rOr (fun a b => a || b) (rOr_c G)]
      exact wordG_c hc2 _
    · rw [show opsL.getD 3 0 = 9 from rfl, opV_9]
      show _ = (bitsVal X ||| bitsVal Y) &&& (2 ^ w - 1)
      rw [mask_eq, Nat.mod_eq_of_lt (Nat.or_lt_two_pow hX hY)]
      apply Nat.eq_of_testBit_eq
      intro j
      rw [zip_val (fun a b => a || b) rfl X Y (by omega), Nat.testBit_or]
  | 4, _ =>
    refine ⟨(X.zip Y).map fun p => Bool.xor p.1 p.2, ?_, ?_, by simp [hx, hy]; omega⟩
    · rw [mkOp_4, nats_crs, nats_crs, crs_zip, each_c G rXor Bool.xor (rXor_c G)]
      exact wordG_c hc2 _
    · rw [show opsL.getD 4 0 = 10 from rfl, opV_10]
      show _ = (bitsVal X ^^^ bitsVal Y) &&& (2 ^ w - 1)
      rw [mask_eq, Nat.mod_eq_of_lt (Nat.xor_lt_two_pow hX hY)]
      apply Nat.eq_of_testBit_eq
      intro j
      rw [zip_val Bool.xor rfl X Y (by omega), Nat.testBit_xor]
  | 5, _ =>
    obtain ⟨B, hB, hl, hv⟩ := sumW_c (G := G) hx hy h1 false
    refine ⟨B, ?_, ?_, by omega⟩
    · rw [mkOp_5, nats_crs, nats_crs, natInts_crs_len, hx]
      have hB' : sumW w (G, 0) ((crs X).zip (crs Y)) 0 = ((G, 0), crs B) := hB
      rw [hB']
      exact wordG_c hc2 _
    · rw [show opsL.getD 5 0 = 3 from rfl, opV_3]
      unfold add32
      rw [hv, mask_eq]
      show (bitsVal X + bitsVal Y + 0) % 2 ^ w = (bitsVal X + bitsVal Y) % 4294967296 % 2 ^ w
      rw [hQ, Nat.mod_mul_right_mod, Nat.add_zero]
  | 6, _ =>
    obtain ⟨B, hB, hl, hv⟩ := sumW_c (G := G) (X := X) (Y := Y.map not) hx (by simp [hy]) h1 true
    refine ⟨B, ?_, ?_, by omega⟩
    · rw [mkOp_6]
      unfold subG
      rw [nats_crs, nats_crs, natInts_crs_len, hx, crs_neg, show (1 : Nat) = (true : Bool).toNat from rfl, hB]
      exact wordG_c hc2 _
    · rw [show opsL.getD 6 0 = 4 from rfl, opV_4]
      unfold sub32
      rw [hv, not_val, hy, mask_eq]
      show (bitsVal X + (2 ^ w - 1 - bitsVal Y) + 1) % 2 ^ w = (bitsVal X + 4294967296 - bitsVal Y) % 4294967296 % 2 ^ w
      rw [hQ, Nat.mod_mul_right_mod, show bitsVal X + (2 ^ w - 1 - bitsVal Y) + 1 = bitsVal X + 2 ^ w - bitsVal Y by omega]
      obtain ⟨q, rfl⟩ : ∃ q, Q = q + 1 := ⟨Q - 1, by omega⟩
      rw [Nat.mul_add, Nat.mul_one, show bitsVal X + (2 ^ w * q + 2 ^ w) - bitsVal Y = (bitsVal X + 2 ^ w - bitsVal Y) + 2 ^ w * q by omega, Nat.add_mul_mod_self_left]
  | 7, _ =>
    refine ⟨[bitsVal X == bitsVal Y], ?_, ?_, by simp⟩
    · rw [mkOp_7, ne_c hG hx hy h1 h16, negG_c, Bool.not_not]; rfl
    · rw [show opsL.getD 7 0 = 13 from rfl, opV_13]
      rw [bit_val]; exact (bit_mask h1 _).symm
  | 8, _ =>
    refine ⟨[!(bitsVal X == bitsVal Y)], ?_, ?_, by simp⟩
    · rw [mkOp_8, ne_c hG hx hy h1 h16]; rfl
    · rw [show opsL.getD 8 0 = 14 from rfl, opV_14]
      rw [bit_val]; exact (bit_mask h1 _).symm
  | 9, _ =>
    refine ⟨[decide (bitsVal X < bitsVal Y)], ?_, ?_, by simp⟩
    · rw [mkOp_9, ltR_c hG hx hy h1 h16]; rfl
    · rw [show opsL.getD 9 0 = 15 from rfl, opV_15]
      rw [bit_val]; exact (bit_mask h1 _).symm
  | 10, _ =>
    refine ⟨[decide (bitsVal X ≤ bitsVal Y)], ?_, ?_, by simp⟩
    · rw [mkOp_10, ltR_c hG hy hx h1 h16, negG_c]
      rw [show (!decide (bitsVal Y < bitsVal X)) = decide (bitsVal X ≤ bitsVal Y) from by rw [← decide_not]; congr 1; exact propext Nat.not_lt]; rfl
    · rw [show opsL.getD 10 0 = 16 from rfl, opV_16]
      rw [bit_val]; exact (bit_mask h1 _).symm
theorem madeG_c {G : Gra} (hG : Ok G) {X Y : List Bool} {w : Nat} (hx : X.length = w) (hy : Y.length = w) (h1 : 1 ≤ w) (h16 : w ≤ 16) : ∀ n, n ≤ 11 → ∃ Bs : List (List Bool), madeG G (natInts (crs X)) (natInts (crs Y)) n = (G, Bs.map crs, true) ∧ Bs.length = n ∧ ∀ i B, Bs[i]? = some B → OpC i G X Y w B
  | 0, _ => ⟨[], rfl, rfl, by simp⟩
  | n + 1, hn => by
    obtain ⟨Bs, h2, h3, h4⟩ := madeG_c hG hx hy h1 h16 n (by omega)
    obtain ⟨B, hB⟩ := mkOp_c hG hx hy h1 h16 n (by omega)
    refine ⟨Bs ++ [B], ?_, by simp [h3], fun i C hC => ?_⟩
    · rw [madeG_succ, h2]
      unfold madeStep
      simp only [hB.made]
      simp
    · by_cases hi : i < Bs.length
      · rw [List.getElem?_append_left hi] at hC
        exact h4 i C hC
      · have hlt := (List.getElem?_eq_some_iff.1 hC).1
        have : i = Bs.length := by simp at hlt; omega
        subst this
        simp at hC
        subst hC
        rw [h3]; exact hB
end Go.Aig
namespace Go.Aig
/-- bit k is bit i of k, for k below 2^N -/
def pat : Nat → Nat → Nat
  | 0, _ => 0
  | N + 1, i => if i = N then 2 ^ 2 ^ N * (2 ^ 2 ^ N - 1) else 2 ^ 2 ^ N * pat N i + pat N i
theorem pow_pow_succ (N : Nat) : 2 ^ 2 ^ (N + 1) = 2 ^ 2 ^ N * 2 ^ 2 ^ N := by rw [← Nat.pow_add]; congr 1; rw [Nat.pow_succ]; omega
theorem pat_lt : ∀ N i : Nat, pat N i < 2 ^ 2 ^ N
  | 0, _ => by unfold pat; decide
  | N + 1, i => by
    have ih := pat_lt N i
    rw [pow_pow_succ]
    unfold pat
    have hp : 0 < 2 ^ 2 ^ N := Nat.two_pow_pos _
    generalize 2 ^ 2 ^ N = P at *
    obtain ⟨Q, rfl⟩ : ∃ Q, P = Q + 1 := ⟨P - 1, by omega⟩
    split
    · rw [Nat.add_sub_cancel]
      exact Nat.mul_lt_mul_of_pos_left (by omega) hp
    · have := Nat.mul_le_mul_left (Q + 1) (show pat N i ≤ Q by omega)
      rw [Nat.mul_add]
      omega
theorem pat_bit : ∀ N i k : Nat, i < N → k < 2 ^ N → (pat N i).testBit k = k.testBit i
  | 0, i, k, hi, _ => by omega
  | N + 1, i, k, hi, hk => by
    rw [Nat.pow_succ] at hk
    have hlt := pat_lt N i
    unfold pat
    split
    · rename_i e
      subst e
      rw [Nat.testBit_two_pow_mul, Nat.testBit_two_pow_sub_one]
      by_cases h : 2 ^ i ≤ k
      · rw [decide_eq_true h, decide_eq_true (by omega), show k = 2 ^ i * 1 + (k - 2 ^ i) by omega, Nat.testBit_two_pow_mul_add _ (by omega), if_neg (by omega)]
        simp
      · rw [decide_eq_false h, Nat.testBit_lt_two_pow (by omega)]
        simp
    · rename_i e
      rw [Nat.testBit_two_pow_mul_add _ hlt]
      split
      · rename_i h
        exact pat_bit N i k (by omega) h
      · rename_i h
        rw [pat_bit N i (k - 2 ^ N) (by omega) (by omega)]
        conv => rhs; rw [show k = 2 ^ N * 1 + (k - 2 ^ N) by omega, Nat.testBit_two_pow_mul_add _ (by omega), if_pos (by omega)]
def pats (N : Nat) : List Nat := (List.range N).map (pat N)
/-- the words of the nodes, for all assignments of N inputs at once -/
def allV (N : Nat) (ns : List Nd) : List Nat := (wvF (2 ^ 2 ^ N - 1) (pats N) ns).1
theorem pats_bit {N k : Nat} (hk : k < 2 ^ N) : (fun i => ((pats N).getD i 0).testBit k) = asg N k := by
  funext i
  unfold pats asg
  rw [List.getD_eq_getElem?_getD, List.getElem?_map]
  by_cases hi : i < N
  · rw [List.getElem?_range hi, decide_eq_true hi, Bool.true_and]
    exact pat_bit N i k hi hk
  · rw [List.getElem?_eq_none (by simp; omega), decide_eq_false hi, Bool.false_and]
    simp
theorem allV_bit {N k : Nat} (hk : k < 2 ^ N) (ns : List Nd) (r : Nat) : (wref (2 ^ 2 ^ N - 1) (allV N ns) r).testBit k = bv (asg N k) ns r := by
  unfold allV
  rw [wv_bv hk, pats_bit hk]
/-- the values of the inputs for two numbers -/
def givenL (n m a b : Nat) : List Bool := (List.range n).map a.testBit ++ (List.range m).map b.testBit
theorem givenL_len (n m a b : Nat) : (givenL n m a b).length = n + m := by simp [givenL]
theorem given_bit {n m a b : Nat} (ha : a < 2 ^ n) : (fun i => (givenL n m a b).getD i false) = asg (n + m) (2 ^ n * b + a) := by
  funext i
  unfold givenL asg
  rw [List.getD_eq_getElem?_getD, Nat.testBit_two_pow_mul_add _ ha]
  by_cases hi : i < n
  · rw [List.getElem?_append_left (by simpa using hi), List.getElem?_map, List.getElem?_range hi, if_pos hi, decide_eq_true (by omega)]
    rfl
  · rw [List.getElem?_append_right (by simp; omega), List.getElem?_map, if_neg hi]
    simp only [List.length_map, List.length_range]
    by_cases hm : i - n < m
    · rw [List.getElem?_range hm, decide_eq_true (by omega)]
      rfl
    · rw [List.getElem?_eq_none (by simp; omega), decide_eq_false (by omega)]
      rfl
/-- what a word is for an assignment, out of the words for all of them -/
theorem bits_all {n m a b : Nat} {G : Gra} {l : List Nat} (ha : a < 2 ^ n) (hb : b < 2 ^ m) (hbad : badIn G (natInts l) = false) (hi : (inputs G.nodes).length = n + m) :
    Go.Proofs.YtnmfdiiehkkjcaaGreat.bitsR G (givenL n m a b) (natInts l) = (l.map fun r => (wref (2 ^ 2 ^ (n + m) - 1) (allV (n + m) G.nodes) r).testBit (2 ^ n * b + a), 0) := by
  have hk : 2 ^ n * b + a < 2 ^ (n + m) := by
    rw [Nat.pow_add]
    have := Nat.mul_le_mul_left (2 ^ n) (show b + 1 ≤ 2 ^ m from hb)
    rw [Nat.mul_add] at this
    omega
  unfold Go.Proofs.YtnmfdiiehkkjcaaGreat.bitsR
  rw [hbad, givenL_len, hi, if_neg (by simp), if_neg (by simp)]
  unfold bsOf
  rw [given_bit ha]
  congr 1
  rw [show nats (natInts l) = l from Go.Proofs.YtnmfdiiehkkjcaaGreat.toNats l]
  exact List.map_congr_left fun r _ => (allV_bit hk G.nodes r).symm
def isW (n : Nat) (V : List Nat) (op : Nat) (l : List Nat) : Bool :=
  (List.range (2 ^ (n + n))).all fun k => bitsVal (l.map fun r => (wref (2 ^ 2 ^ (n + n) - 1) V r).testBit k) == applyV op n (k % 2 ^ n) (k / 2 ^ n)
def isG (n : Nat) (A : Gra × List (List Nat) × Bool) : Bool :=
  A.2.2 && (inputs A.1.nodes).length == n + n && A.2.1.all (fun l => !badIn A.1 (natInts l) && decide (1 ≤ l.length) && decide (l.length ≤ 16)) && (List.range 11).all fun j => isW n (allV (n + n) A.1.nodes) (opsL.getD j 0) (A.2.1.getD j [])
def isB (n : Nat) : Bool := isG n (madeG (gIn 4000 (2 * n)) (natInts (rIn 0 n)) (natInts (rIn n n)) 11)
set_option maxRecDepth 100000 in
theorem is_all : (List.range 5).all (fun i => isB (i + 1)) = true := by decide +kernel
structure IsF (n : Nat) (G : Gra) (ls : List (List Nat)) : Prop where
  made : madeG (gIn 4000 (2 * n)) (natInts (rIn 0 n)) (natInts (rIn n n)) 11 = (G, ls, true)
  len : ls.length = 11
  small : ∀ (j : Nat) (l : List Nat), ls[j]? = some l → 1 ≤ l.length ∧ l.length ≤ 16
  reads : ∀ (j : Nat) (l : List Nat), ls[j]? = some l → ∀ a b, a < 2 ^ n → b < 2 ^ n → ∃ B, Go.Proofs.YtnmfdiiehkkjcaaGreat.bitsR G (givenL n n a b) (natInts l) = (B, 0) ∧ B.length = l.length ∧ bitsVal B = applyV (opsL.getD j 0) n a b
theorem is_facts {n : Nat} (h1 : 1 ≤ n) (h5 : n ≤ 5) : ∃ G ls, IsF n G ls := by
  have h := List.all_eq_true.1 is_all (n - 1) (List.mem_range.2 (by omega))
  rw [show n - 1 + 1 = n by omega] at h
  unfold isB at h
  have l1 := madeG_len (gIn 4000 (2 * n)) (natInts (rIn 0 n)) (natInts (rIn n n)) 11
  generalize hA : madeG (gIn 4000 (2 * n)) (natInts (rIn 0 n)) (natInts (rIn n n)) 11 = A at h l1
  obtain ⟨G, ls, o⟩ := A
  unfold isG at h
  simp only [Bool.and_eq_true] at h
  obtain ⟨⟨⟨rfl, hi⟩, hs⟩, hw⟩ := h
  simp only at l1
  have hs2 : ∀ (j : Nat) (l : List Nat), ls[j]? = some l → badIn G (natInts l) = false ∧ 1 ≤ l.length ∧ l.length ≤ 16 := fun j l hl => by
    have := List.all_eq_true.1 hs l (List.mem_of_getElem? hl)
    simp only [Bool.and_eq_true, Bool.not_eq_true', decide_eq_true_eq] at this
    exact ⟨this.1.1, this.1.2, this.2⟩
  refine ⟨G, ls, hA, l1, fun j l hl => (hs2 j l hl).2, fun j l hl a b ha hb => ⟨_, bits_all ha hb (hs2 j l hl).1 (eq_of_beq hi), by simp, ?_⟩⟩
  have hj : j < 11 := by have := (List.getElem?_eq_some_iff.1 hl).1; omega
  have h2 := List.all_eq_true.1 hw j (List.mem_range.2 hj)
  have hg : ls.getD j [] = l := by rw [List.getD_eq_getElem?_getD, hl]; rfl
  have hk : 2 ^ n * b + a < 2 ^ (n + n) := by
    rw [Nat.pow_add]
    have := Nat.mul_le_mul_left (2 ^ n) (show b + 1 ≤ 2 ^ n from hb)
    rw [Nat.mul_add] at this
    omega
  unfold isW at h2
  simp only [hg] at h2
  have h3 := eq_of_beq (List.all_eq_true.1 h2 _ (List.mem_range.2 hk))
  rw [h3]
  have hp2 : 0 < 2 ^ n := Nat.two_pow_pos n
  rw [show (2 ^ n * b + a) % 2 ^ n = a by rw [Nat.mul_add_mod, Nat.mod_eq_of_lt ha], show (2 ^ n * b + a) / 2 ^ n = b by rw [Nat.mul_add_div hp2, Nat.div_eq_of_lt ha, Nat.add_zero]]
end Go.Aig
namespace Go.Aig
def u16l (l : List Nat) : List Value := l.map fun (x : Nat) => .int .u16 x
theorem u16l_get {l : List Nat} {i v : Nat} (h : l[i]? = some v) : (u16l l)[i]? = some (.int .u16 v) := by simp [u16l, h]
end Go.Aig
namespace Go.Proofs.YtnmfdiiehkkjcaaGreat
open Go.RowKit Go.Mem Go.Aig
section
variable {w : World} {g : Nat} {G : Gra} {F : List Nat}
set_option maxRecDepth 100000 in
set_option maxHeartbeats 2000000 in
theorem ReadsW_is (h : GIn w g G F) {a : Option Addr} {l : List Int} {m c : Nat} (hm : l.length = m) (hL : Sl w a l) (hbd : ∀ r ∈ l, -9223372036854775808 ≤ r ∧ r ≤ 9223372036854775807) {xa : Option Addr} {ins : List Bool} {k xc : Nat} (hk : ins.length = k) (hI : Sb w xa ins) (hkl : k ≤ 1000) {B : List Bool} (hR : bitsR G ins l = (B, 0)) (hB : B.length = m) (h1 : 1 ≤ m) (h16 : m ≤ 16) :
    Calls Tryz.prog 9 #[.pointer (some ⟨g, 0, none⟩), .slice a m c, .slice xa k xc] w fun e w' => e = .returned (.tuple #[.int .u32 (bitsVal B), .bool true]) ∧ Ch [] w w' := by
  have HB := simBits_is h (xa := xa) (ins := ins) k xc hk hI (by omega) m c hm hL hbd (by omega)
  rw [hR] at HB
  have HV := fun (W : World) (ba : Option Addr) (bc : Nat) (hS : Sb W ba B) => sValue_is (w := W) (x := ⟨a, l, c⟩) (by show l.length ≤ _; omega) bc (by omega) hS
  simp only [WV.val, hB, hm, h1, h16, and_self, if_true] at HV
  clear hI hL
  go_enter Tryz.func9, Tryz.ntmps9
  go_wp2_with fail
  refine HB.mono ?_
  rintro e w1 ⟨v, rfl, hrow, hown, hch⟩
  obtain ⟨ba, bc, rfl⟩ := hrow.parts (by show 0 < B.length; omega)
  have hS : Sb w1 (some ⟨ba, 0, none⟩) B := row.sv hrow rfl (by show B.length ≤ _; omega)
  simp only [hB]
  go_wp2_with fail
  refine (HV w1 _ bc hS).mono ?_
  rintro e w2 ⟨rfl, rfl⟩
  go_wp2_with fail
  go_ret2
  exact ⟨rfl, hch⟩
end
theorem givenA_snoc (n m a b k : Nat) (hk : k < n) : (givenL n m a b).take (k + 1) = (givenL n m a b).take k ++ [a.testBit k] := by
  rw [List.take_add_one]
  congr 1
  unfold givenL
  rw [List.getElem?_append_left (by simpa using hk), List.getElem?_map, List.getElem?_range hk]
  rfl
theorem givenB_snoc (n m a b k : Nat) (hk : k < m) : (givenL n m a b).take (n + k + 1) = (givenL n m a b).take (n + k) ++ [b.testBit k] := by
  rw [List.take_add_one]
  congr 1
  unfold givenL
  rw [List.getElem?_append_right (by simp), List.getElem?_map]
  simp only [List.length_map, List.length_range, Nat.add_sub_cancel_left]
  rw [List.getElem?_range hk]
  rfl
set_option maxRecDepth 100000 in
set_option maxHeartbeats 4000000 in
theorem Given_is {w : World} (n a b : Nat) (hn : n ≤ 60) (ha : a ≤ 1000000) (hb : b ≤ 1000000) :
    Calls Tryz.prog 8 #[.int .i64 n, .int .i64 a, .int .i64 b] w fun e w' => ∃ v, e = .returned v ∧ row w' 4 1 v (n + n) (bools (givenL n n a b)) ∧ (∀ q ∈ v.ownBlock.toList, w.heap.size ≤ q) ∧ Ch [] w w' := by
  have HS1 := Lib.hid (givenA_snoc n n a b)
  have HS2 := Lib.hid (givenB_snoc n n a b)
  have hlen := givenL_len n n a b
  obtain ⟨GL, hGL⟩ : ∃ GL, GL = givenL n n a b := ⟨_, rfl⟩
  rw [← hGL] at HS1 HS2 hlen ⊢
  clear hGL
  go_enter Tryz.func8, Tryz.ntmps8
  go_wp2_with fail
  go_loopw [7, 11] (fun o i wr => ∃ s : Nat, s ≤ n ∧ i = .int .i64 s ∧ Ch [] w wr ∧ row wr 4 1 o s (bools (GL.take s)) ∧ ∀ q ∈ o.ownBlock.toList, w.heap.size ≤ q) (fun _ i _ => n - (intOf i).toNat)
  case atStart => exact ⟨0, by omega, rfl, Ch.refl _ _, ⟨rfl, .inl ⟨rfl, rfl⟩⟩, by simp⟩
  case round =>
    obtain ⟨s, hs, rfl, hc, hrow, hlo⟩ := hrel
    obtain ⟨oa, oc, rfl⟩ := row.shape hrow
    have HROW := Lib.hid hrow; clear hrow
    by_cases hlt2 : s < n
    · have hsn := HS1.out s hlt2
      have hbit := bit_i64 a s (by omega)
      rw [← Nat.testBit_eq_decide_div_mod_eq] at hbit
      have HC2 := Lib.hid hc; clear hc
      have HLO := Lib.hid hlo; clear hlo
      generalize a.testBit s = tb' at hsn hbit
      have hcA : Ch [] wr (wr.alloc (.cells #[.bool tb'] 4)) := (Ch.refl _ _).alloc _
      have hrA := HROW.out.ch hcA (by simp)
      have hbA : blk (wr.alloc (.cells #[.bool tb'] 4)) wr.heap.size [.bool tb'] := blk.new' _ _ rfl
      have HSU := Lib.hid hsn; clear hsn
      have HRA := Lib.hid hrA; clear hrA
      have HBA := Lib.hid hbA; clear hbA
      have HCA := Lib.hid hcA; clear hcA
      go_wp2_with (at_builtin; go_loud (refine wpList_append_row slBools rfl _ _ rfl (v := .slice oa s oc) (n := s) (xs := bools (GL.take s)) rfl HRA.out (ad := ⟨wr.heap.size, 0, none⟩) (m := 1) (c := 1) (news := [.bool tb']) rfl rfl (news_blk HBA.out) (by simp [Value.oneCell']) (by omega) (by omega) ?_; intro v' w5 hown4 hC4 hf4; have HO4 := Lib.hid hown4; clear hown4; have HCC4 := Lib.hid hC4; clear hC4; have HF4 := Lib.hid hf4; clear hf4))
      go_roundw
      case rel =>
        obtain ⟨q1, q2⟩ := app_step HC2.out HCA.out HLO.out HCC4.out HF4.out
        refine ⟨s + 1, by omega, by go_num, q1, ?_, q2⟩
        rw [HSU.out, show bools (GL.take s ++ [tb']) = bools (GL.take s) ++ [.bool tb'] by simp [bools]]
        exact HO4.out
      case measure => simp [intOf]; omega
    · have hsn : s = n := by omega
      subst hsn
      have HC1 := Lib.hid hc; clear hc
      have HLO1 := Lib.hid hlo; clear hlo
      obtain ⟨wo, hwo⟩ : ∃ wo, wo = wr := ⟨_, rfl⟩
      subst hwo
      go_wp2_with fail
      go_loopw [7, 24] (fun o i wr => ∃ t : Nat, t ≤ s ∧ i = .int .i64 t ∧ Ch [] w wr ∧ row wr 4 1 o (s + t) (bools (GL.take (s + t))) ∧ ∀ q ∈ o.ownBlock.toList, w.heap.size ≤ q) (fun _ i _ => s - (intOf i).toNat)
      case atStart => exact ⟨0, by omega, rfl, HC1.out, HROW.out, HLO1.out⟩
      case round =>
        clear HROW HC1 HLO1
        obtain ⟨t, ht, rfl, hc, hrow, hlo⟩ := hrel
        obtain ⟨oa, oc, rfl⟩ := row.shape hrow
        have HROW := Lib.hid hrow; clear hrow
        by_cases hlt3 : t < s
        · have hsn := HS2.out t hlt3
          have hbit := bit_i64 b t (by omega)
          rw [← Nat.testBit_eq_decide_div_mod_eq] at hbit
          have HC2 := Lib.hid hc; clear hc
          have HLO := Lib.hid hlo; clear hlo
          generalize b.testBit t = tb' at hsn hbit
          have hcA : Ch [] wr (wr.alloc (.cells #[.bool tb'] 4)) := (Ch.refl _ _).alloc _
          have hrA := HROW.out.ch hcA (by simp)
          have hbA : blk (wr.alloc (.cells #[.bool tb'] 4)) wr.heap.size [.bool tb'] := blk.new' _ _ rfl
          have HSU := Lib.hid hsn; clear hsn
          have HRA := Lib.hid hrA; clear hrA
          have HBA := Lib.hid hbA; clear hbA
          have HCA := Lib.hid hcA; clear hcA
          go_wp2_with (at_builtin; go_loud (refine wpList_append_row slBools rfl _ _ rfl (v := .slice oa (s + t) oc) (n := s + t) (xs := bools (GL.take (s + t))) rfl HRA.out (ad := ⟨wr.heap.size, 0, none⟩) (m := 1) (c := 1) (news := [.bool tb']) rfl rfl (news_blk HBA.out) (by simp [Value.oneCell']) (by omega) (by omega) ?_; intro v' w5 hown4 hC4 hf4; have HO4 := Lib.hid hown4; clear hown4; have HCC4 := Lib.hid hC4; clear hC4; have HF4 := Lib.hid hf4; clear hf4))
          go_roundw
          case rel =>
            obtain ⟨q1, q2⟩ := app_step HC2.out HCA.out HLO.out HCC4.out HF4.out
            refine ⟨t + 1, by omega, by go_num, q1, ?_, q2⟩
            rw [show s + (t + 1) = s + t + 1 by omega, HSU.out, show bools (GL.take (s + t) ++ [tb']) = bools (GL.take (s + t)) ++ [.bool tb'] by simp [bools]]
            exact HO4.out
          case measure => simp [intOf]; omega
        · have htm : t = s := by omega
          subst htm
          have hrow := HROW.out
          rw [List.take_of_length_le (by omega)] at hrow
          have HR := Lib.hid hrow; clear hrow HROW
          have HC2 := Lib.hid hc; clear hc
          have HLO := Lib.hid hlo; clear hlo
          go_wp2_with fail
          go_ret
          exact ⟨_, rfl, HR.out, HLO.out, HC2.out⟩
theorem infoU16l : (Tryz.prog.info? 33).map (fun i => (i.zero, i.size, i.bytes)) = some (some (.int .u16 0), 1, 2) := by kernel_rfl
theorem slU16l : SliceTy Tryz.prog 22 33 1 2 (.int .u16 0) := ⟨Tryz.underlying22, infoU16l, rfl, by decide⟩
theorem eqSliceNilH2 (w : World) (a : Option Addr) (n c : Nat) : (binOp .eql 22 (.slice a n c) (.slice none 0 0)).run Tryz.prog w = .ok (.bool a.isNone) w := by
  have h : Tryz.prog.underlying 22 = some (.slice 33) := Tryz.underlying22
  simp only [binOp]
  simp [run_equal_slice_nil w _ _ a n c h]
attribute [local go_sem] eqSliceNilH2
section
variable {w : World}
set_option maxRecDepth 100000 in
set_option maxHeartbeats 1000000 in
theorem CLu16l_is {a : Option Addr} {l : List Nat} (n c : Nat) (hn : l.length = n) (h : Sv w a (u16l l)) (hm : n ≤ 1000000) : Calls Tryz.prog 7 #[.slice a n c] w fun e w' => ∃ v, e = .returned v ∧ row w' 33 1 v n (u16l l) ∧ (∀ q ∈ v.ownBlock.toList, w.heap.size ≤ q) ∧ Ch [] w w' := by
  subst hn
  cases a with
  | none =>
    have hl : l = [] := by
      cases l with
      | nil => rfl
      | cons y l =>
        obtain ⟨b, o, e, _⟩ := h.cells 0 (.int .u16 y) rfl
        cases e
    subst hl
    clear h
    go_enter Tryz.func7, Tryz.ntmps7
    go_wp2_with fail
    go_ret
    exact ⟨_, rfl, ⟨rfl, .inl ⟨rfl, rfl⟩⟩, by simp, Ch.refl _ _⟩
  | some p =>
    have hO : row (w.alloc (.cells #[] 33)) 33 1 (.slice (some ⟨w.heap.size, 0, none⟩) 0 0) 0 [] := ⟨rfl, .inr ⟨w.heap.size, 0, #[], rfl, by omega, heap_alloc_new w _, by omega, by unfold maxLen; omega, rfl, rfl⟩⟩
    have hN : ∀ j u, (u16l l)[j]? = some u → (w.alloc (.cells #[] 33)).cell? (p.add j) = some u := fun j u hu => by
      obtain ⟨b, o, e, hc⟩ := h.cells j u hu
      cases e
      rw [Addr.add_lit]
      exact (((Ch.refl [] w).alloc _).cell (cell_lt hc) (by simp)).trans hc
    have h1 : ∀ u ∈ u16l l, u.oneCell' = true := fun u hu => by
      obtain ⟨r, _, rfl⟩ := List.mem_map.1 hu
      rfl
    have HO := Lib.hid hO; clear hO
    have HN := Lib.hid hN; clear hN h
    have H1 := Lib.hid h1; clear h1
    go_enter Tryz.func7, Tryz.ntmps7
    go_wp2_with (at_builtin; go_loud (refine wpList_append_row slU16l rfl _ _ rfl (v := .slice (some ⟨w.heap.size, 0, none⟩) 0 0) (n := 0) (xs := []) rfl HO.out (ad := p) (m := l.length) (c := c) (news := u16l l) rfl (by simp [u16l]) HN.out H1.out (by omega) (by omega) ?_; intro v' w2 hown hC2 hfresh; have HOWN := Lib.hid hown; clear hown; have HC2 := Lib.hid hC2; clear hC2; have HFR := Lib.hid hfresh; clear hfresh))
    go_ret
    have hown := HOWN.out
    rw [Nat.zero_add, List.nil_append] at hown
    refine ⟨_, rfl, hown, fun k hk => ?_, (((Ch.refl [] w).alloc (.cells #[] 33))).trans HC2.out (by simp)⟩
    rcases HFR.out k (by simpa using hk) with e | e
    · simp at e; omega
    · simp at e; omega

end
end Go.Proofs.YtnmfdiiehkkjcaaGreat
namespace Go.Proofs.YtnmfdiiehkkjcaaGreat
open Go.RowKit Go.Mem Go.Aig
theorem ApplyI_at (k : Nat) (hk : k < 11) (W : World) (x y n : Nat) (hx : x < 4294967296) (hy : y < 4294967296) (h1 : 1 ≤ n) (h16 : n ≤ 16) :
    Calls Tryz.prog 10 #[.int .u8 (opsL.getD k 0 : Nat), .int .i64 n, .int .u32 x, .int .u32 y] W fun e w' => e = .returned (.tuple #[.int .u32 (applyV (opsL.getD k 0) n x y : Nat), .int .i64 0]) ∧ Ch [] W w' := by
  match k, hk with
  | 0, _ => exact bApply1_is x y n hx hy h1 h16
  | 1, _ => exact bApply2_is x y n hx hy h1 h16
  | 2, _ => exact bApply8_is x y n hx hy h1 h16
  | 3, _ => exact bApply9_is x y n hx hy h1 h16
  | 4, _ => exact bApply10_is x y n hx hy h1 h16
  | 5, _ => exact bApply3_is x y n hx hy h1 h16
  | 6, _ => exact bApply4_is x y n hx hy h1 h16
  | 7, _ => exact bApply13_is x y n hx hy h1 h16
  | 8, _ => exact bApply14_is x y n hx hy h1 h16
  | 9, _ => exact bApply15_is x y n hx hy h1 h16
  | 10, _ => exact bApply16_is x y n hx hy h1 h16
theorem opI_at (k : Nat) (hk : k < 11) : ([1, 2, 8, 9, 10, 3, 4, 13, 14, 15, 16].map fun (z : Int) => Value.int .u8 z)[k]? = some (.int .u8 (opsL.getD k 0 : Nat)) := by
  match k, hk with
  | 0, _ => rfl
  | 1, _ => rfl
  | 2, _ => rfl
  | 3, _ => rfl
  | 4, _ => rfl
  | 5, _ => rfl
  | 6, _ => rfl
  | 7, _ => rfl
  | 8, _ => rfl
  | 9, _ => rfl
  | 10, _ => rfl
set_option maxRecDepth 100000 in
set_option maxHeartbeats 8000000 in
theorem SumsIs_walk {w : World} (wd : Nat) (hw : wd ≤ 255) {xa : Option Addr} {m xc : Nat} {l : List Nat} (hX : NumS .u16 16 w xa m xc l) :
    Calls Tryz.prog 3 #[.int .u8 wd, .slice xa m xc] w fun e w' => e = .returned (.bool true) ∧ Ch [] w w' := by
  have hlen := hX.len
  have hle := hX.le
  have hmxc := hX.max
  have hP := fun W => Pair_is W wd hw
  obtain ⟨n, hn⟩ : ∃ n, n = wd % 5 + 1 := ⟨_, rfl⟩
  rw [← hn] at hP
  have hn1 : 1 ≤ n := by omega
  have hn5 : n ≤ 5 := by omega
  clear hn
  obtain ⟨G, ls, hF⟩ := is_facts hn1 hn5
  obtain ⟨D, hD⟩ : ∃ D, 2 ^ n = D := ⟨_, rfl⟩
  have hD5 : D ≤ 32 := by
    have : (2 : Nat) ^ n ≤ 2 ^ 5 := Nat.pow_le_pow_right (by omega) (by omega)
    omega
  have hD1 : 1 ≤ D := by rw [← hD]; exact Nat.one_le_two_pow
  have hwD : wrap64 ((2 : Int) ^ n) = ((D : Nat) : Int) := by
    have : ((2 : Int) ^ n) = ((2 ^ n : Nat) : Int) := by simp
    rw [this, hD]
    exact IntWalk.wrap64_in _ (by omega)
  obtain ⟨M, hM, hM8, hMm⟩ : ∃ M, min m 20 = M ∧ M ≤ 20 ∧ M ≤ m := ⟨_, rfl, by omega, by omega⟩
  have hmin : ∀ ats ty, Builtin.min_ ats ty #[.int .i64 (m : Int), .int .i64 20] = pure (.int .i64 (M : Int)) := fun ats ty => by
    have e : (if (20 : Int) < m then 20 else (m : Int)) = M := by split <;> omega
    rw [← e]
    simp [Builtin.min_, Builtin.min2]
  have hLn : (l.take M).length = M := by rw [List.length_take, hlen]; omega
  have hLb : ∀ z ∈ l.take M, z < 65536 := fun z hz => hX.bd z (List.mem_of_mem_take hz)
  have hLs : Sv w xa (u16l (l.take M)) := by
    refine ⟨fun i x hx => ?_, by simp [u16l]; omega⟩
    refine hX.sv.cells i x ?_
    unfold u16l at hx
    rw [List.getElem?_map] at hx ⊢
    rw [List.getElem?_take] at hx
    split at hx
    · exact hx
    · cases hx
  generalize l.take M = L0 at *
  have HX := Lib.hid hX; clear hX
  have HP := Lib.hid hP; clear hP
  have HF := Lib.hid hF; clear hF
  have HWD := Lib.hid hwD; clear hwD
  have HD := Lib.hid hD; clear hD
  have HLN := Lib.hid hLn; clear hLn
  have HLB := Lib.hid hLb; clear hLb
  have HLS := Lib.hid hLs; clear hLs
  clear hM
  have HA := Lib.hid (fun W => awake23_is W)
  go_enter Tryz.func3, Tryz.ntmps3
  go_wp2_with fail
  refine (HA.out _).mono ?_
  rintro e w1 ⟨rfl, hc1⟩
  have HC1 := Lib.hid hc1; clear hc1 HA
  go_wp2_with fail
  refine (HP.out _).mono ?_
  rintro e w2 ⟨g, F2, ya, yc, za, zc, rfl, ho⟩
  have HO := Lib.hid ho; clear ho HP
  have hM1 := made23_is HO.out (xa := ya) (xc := yc) (n := n) (xl := natInts (rIn 0 n)) (ya := za) (yc := zc) (n2 := n) (yl := natInts (rIn n n)) (by simp) (by simp) (by simp) (by simp)
  rw [HF.out.made] at hM1
  have HM1 := Lib.hid hM1; clear hM1
  go_wp2_with fail
  refine HM1.out.mono ?_
  rintro e w5 ⟨F5, L5, oa, oc, ba, vs, rfl, ho, hsub, hvl, hrow, hown, hops, hba, hbaF, hch, hFF⟩
  obtain ⟨ob, ocap, hoe⟩ := hrow.parts (by omega)
  cases hoe
  clear HO HM1 hba hch hFF hsub
  have HO := Lib.hid ho; clear ho
  have HVL := Lib.hid hvl; clear hvl
  have HROW := Lib.hid hrow; clear hrow
  have HOWN := Lib.hid hown; clear hown
  have HOPS := Lib.hid hops; clear hops
  have HBF := Lib.hid hbaF; clear hbaF
  have HLS5 := Lib.hid (HLS.out.ch (HC1.out.trans HO.out.own.ch (by simp)) (by simp)); clear HLS
  go_upto_if 48 with fail
  clear hmin
  go_cut [1] (fun t wd => ∃ sa sc K LV, t = .slice sa K sc ∧ LV.length = K ∧ K ≤ 36 ∧ (∀ z ∈ LV, z < 65536) ∧ Sv wd sa (u16l LV) ∧ Ch [] w5 wd)
  case first =>
    by_cases hn3 : n < 3
    · have d3 : decide ((n : Int) < 3) = true := decide_eq_true (by omega)
      rw [d3]
      go_wp2_with fail
      go_loopw [1, 49] (fun t i wr => ∃ (s : Nat) (sa : Option Addr) (sc : Nat) (LV : List Nat), s ≤ 16 ∧ i = .int .i64 s ∧ t = .slice sa (M + s) sc ∧ LV.length = M + s ∧ (∀ z ∈ LV, z < 65536) ∧ Sv wr sa (u16l LV) ∧ Ch [] w5 wr) (fun _ i _ => 16 - (intOf i).toNat)
      case atStart => exact ⟨0, xa, xc, L0, by omega, rfl, rfl, HLN.out, HLB.out, HLS5.out, Ch.refl _ _⟩
      case round =>
        obtain ⟨s, sa, sc, LV, hs, rfl, rfl, hl1, hb1, hs1, hc1⟩ := hrel
        by_cases hlt : s < 16
        · have hcl := CLu16l_is (w := wr) (a := sa) (l := LV) (M + s) sc hl1 hs1 (by omega)
          have HCL := Lib.hid hcl; clear hcl
          have HL1 := Lib.hid hl1; clear hl1
          have HB1 := Lib.hid hb1; clear hb1
          have HC1' := Lib.hid hc1; clear hc1 hs1
          go_wp2_with fail
          refine HCL.out.mono ?_
          rintro e w6 ⟨v, rfl, hrow, hvv, hc6⟩
          obtain ⟨ca, cc, rfl⟩ := row.shape hrow
          have hcA : Ch [] w6 (w6.alloc (.cells #[.int .u16 s] 33)) := (Ch.refl _ _).alloc _
          have hrA := hrow.ch hcA (by simp)
          have hbA : blk (w6.alloc (.cells #[.int .u16 s] 33)) w6.heap.size [.int .u16 s] := blk.new' _ _ rfl
          have HRA := Lib.hid hrA; clear hrA hrow
          have HBA := Lib.hid hbA; clear hbA
          have HVV := Lib.hid hvv; clear hvv
          have HCB := Lib.hid (hc6.trans hcA (by simp)); clear hcA hc6 HCL
          have HZ := Lib.hid HC1'.out.size
          go_wp2_with (at_builtin; go_loud (refine wpList_append_row slU16l rfl _ _ rfl (v := .slice ca (M + s) cc) (n := M + s) (xs := u16l LV) rfl HRA.out (ad := ⟨w6.heap.size, 0, none⟩) (m := 1) (c := 1) (news := [.int .u16 s]) rfl rfl (news_blk HBA.out) (by simp [Value.oneCell']) (by omega) (by omega) ?_; intro v' w7 hown4 hC4 hf4; have HO4 := Lib.hid hown4; clear hown4; have HCC4 := Lib.hid hC4; clear hC4; have HF4' := Lib.hid hf4; clear hf4))
          go_roundw
          case rel =>
            have hrow := HO4.out
            rw [show u16l LV ++ [.int .u16 s] = u16l (LV ++ [s]) by simp [u16l]] at hrow
            obtain ⟨da, dc, hd⟩ := row.shape hrow
            rw [hd] at hrow
            refine ⟨s + 1, da, dc, LV ++ [s], by omega, by go_num, hd, by rw [List.length_append, HL1.out]; rfl, fun z hz => ?_, row.sv hrow rfl (by omega), (HC1'.out.trans HCB.out (by simp)).trans HCC4.out (fun q hq => .inr (by have := HVV.out q hq; have := HZ.out; omega))⟩
            rcases List.mem_append.1 hz with hz | hz
            · exact HB1.out z hz
            · rw [List.mem_singleton.1 hz]; omega
          case measure => simp [intOf]; omega
        · go_wp2_with fail
          go_meet
          case rel => exact ⟨sa, sc, M + s, LV, rfl, hl1, by omega, hb1, hs1, hc1⟩
    · go_wp2_with fail
      go_meet
      case rel => exact ⟨xa, xc, M, L0, rfl, HLN.out, by omega, HLB.out, HLS5.out, Ch.refl _ _⟩
  case rest =>
    obtain ⟨sa, sc, K, LV, rfl, hlv, hK, hlvb, hsv, hch⟩ := hcut
    have ho := HO.out.same hch
    clear HO
    have HO := Lib.hid ho; clear ho
    have hrw := HROW.out.ch hch (by simp)
    have hop := HOPS.out.ch hch (by simp)
    have hc0 := (HC1.out.trans (HO.out.own.ch) (by simp))
    clear HROW HOPS hch HX HLN HLB HLS5
    have HROW := Lib.hid hrw; clear hrw
    have HOPS := Lib.hid hop; clear hop
    have HC0 := Lib.hid hc0; clear hc0
    have HLV := Lib.hid hlv; clear hlv
    have HLVB := Lib.hid hlvb; clear hlvb
    have HSV := Lib.hid hsv; clear hsv
    go_wp2_with fail
    go_loopw [61] (fun i wr => ∃ x : Nat, x ≤ K ∧ i = .int .i64 x ∧ Ch [] wc wr) (fun i _ => K - (intOf i).toNat)
    case atStart => exact ⟨0, by omega, rfl, Ch.refl _ _⟩
    case round =>
      obtain ⟨x, hx, rfl, hc⟩ := hrel
      obtain ⟨wo, hwo⟩ : ∃ wo, wo = wr := ⟨_, rfl⟩
      subst hwo
      by_cases hlt : x < K
      · obtain ⟨z, hz⟩ : ∃ z, LV[x]? = some z := ⟨_, List.getElem?_eq_getElem (by rw [HLV.out]; exact hlt)⟩
        have hzb := HLVB.out z (List.mem_of_getElem? hz)
        obtain ⟨b1, o1, rfl, c0⟩ := (HSV.out.ch hc (by simp)).cells x (.int .u16 z) (u16l_get hz)
        have hDne : ¬ D = 0 := by omega
        obtain ⟨A, hA⟩ : ∃ A, z % D = A := ⟨_, rfl⟩
        obtain ⟨Z, hZ⟩ : ∃ Z, z / 2 ^ n = Z := ⟨_, rfl⟩
        obtain ⟨B, hB⟩ : ∃ B, Z % D = B := ⟨_, rfl⟩
        have hAD : A < D := by rw [← hA]; exact Nat.mod_lt _ (by omega)
        have hBD : B < D := by rw [← hB]; exact Nat.mod_lt _ (by omega)
        have hZb : Z ≤ z := by rw [← hZ]; exact Nat.div_le_self _ _
        have eA : (z : Int) % (D : Int) = (A : Int) := by rw [← hA]; simp
        have eZ : ∀ [Nonempty Unit], (z : Int) / 2 ^ n = (Z : Int) := by rw [← hZ]; simp
        have eB : (Z : Int) % (D : Int) = (B : Int) := by rw [← hB]; simp
        have hwD : ∀ [Nonempty Unit], wrap64 ((2 : Int) ^ n) = ((D : Nat) : Int) := HWD.out
        have HC := Lib.hid hc; clear hc hz hA hB hZ
        go_wp2_with fail
        refine Ord.St.door (fun _ => True) [.fl, .fl, .fl, .rd, .fl, .fl, .fl, .fl, .fl, .rd, .fl, .fl, .rd, .fl, .fl, .fl, .fl] [0, 1, 0, 4, 12, 31, 0, 64, 0, 256, 960, 0, 2048, 6144, 16320, 63, 65535] [0, 1, 2, 3, 4, 5, 6, 7, 8, 9, 10, 11, 12, 13, 14, 15, 16] mixed (by kernel_rfl) rfl ?_
        refine Ord.St.fl2 (T' := ?_) 0 [1, 2, 3, 4, 5, 6, 7, 8, 9, 10, 11, 12, 13, 14, 15, 16] _ _ rfl (by kernel_rfl) rfl rfl rfl rfl (fun K w' hk => ?_) ?_
        rotate_left
        · go_step; exact hk
        refine Ord.St.fl2 (T' := ?_) 1 [2, 3, 4, 5, 6, 7, 8, 9, 10, 11, 12, 13, 14, 15, 16] _ _ rfl (by kernel_rfl) rfl rfl rfl rfl (fun K w' hk => ?_) ?_
        rotate_left
        · go_step; exact hk
        refine Ord.St.fl2 (T' := ?_) 2 [3, 4, 5, 6, 7, 8, 9, 10, 11, 12, 13, 14, 15, 16] _ _ rfl (by kernel_rfl) rfl rfl rfl rfl (fun K w' hk => ?_) ?_
        rotate_left
        · go_step; exact hk
        refine Ord.St.rd2 (T' := ?_) 3 [4, 5, 6, 7, 8, 9, 10, 11, 12, 13, 14, 15, 16] _ _ rfl (by kernel_rfl) rfl rfl rfl rfl (fun K hk => ?_) ?_
        rotate_left
        · go_step; exact hk
        refine Ord.St.fl2 (T' := ?_) 4 [5, 6, 7, 8, 9, 10, 11, 12, 13, 14, 15, 16] _ _ rfl (by kernel_rfl) rfl rfl rfl rfl (fun K w' hk => ?_) ?_
        rotate_left
        · go_step; exact hk
        refine Ord.St.fl2 (T' := ?_) 5 [6, 7, 8, 9, 10, 11, 12, 13, 14, 15, 16] _ _ rfl (by kernel_rfl) rfl rfl rfl rfl (fun K w' hk => ?_) ?_
        rotate_left
        · go_step; exact hk
        refine Ord.St.fl2 (T' := ?_) 6 [7, 8, 9, 10, 11, 12, 13, 14, 15, 16] _ _ rfl (by kernel_rfl) rfl rfl rfl rfl (fun K w' hk => ?_) ?_
        rotate_left
        · go_step; exact hk
        refine Ord.St.fl2 (T' := ?_) 7 [8, 9, 10, 11, 12, 13, 14, 15, 16] _ _ rfl (by kernel_rfl) rfl rfl rfl rfl (fun K w' hk => ?_) ?_
        rotate_left
        · go_step; exact hk
        refine Ord.St.fl2 (T' := ?_) 8 [9, 10, 11, 12, 13, 14, 15, 16] _ _ rfl (by kernel_rfl) rfl rfl rfl rfl (fun K w' hk => ?_) ?_
        rotate_left
        · go_step; exact hk
        refine Ord.St.rd2 (T' := ?_) 9 [10, 11, 12, 13, 14, 15, 16] _ _ rfl (by kernel_rfl) rfl rfl rfl rfl (fun K hk => ?_) ?_
        rotate_left
        · go_step; exact hk
        refine Ord.St.fl2 (T' := ?_) 10 [11, 12, 13, 14, 15, 16] _ _ rfl (by kernel_rfl) rfl rfl rfl rfl (fun K w' hk => ?_) ?_
        rotate_left
        · go_step; exact hk
        refine Ord.St.fl2 (T' := ?_) 11 [12, 13, 14, 15, 16] _ _ rfl (by kernel_rfl) rfl rfl rfl rfl (fun K w' hk => ?_) ?_
        rotate_left
        · go_step; exact hk
        refine Ord.St.rd2 (T' := ?_) 12 [13, 14, 15, 16] _ _ rfl (by kernel_rfl) rfl rfl rfl rfl (fun K hk => ?_) ?_
        rotate_left
        · go_step; exact hk
        refine Ord.St.fl2 (T' := ?_) 13 [14, 15, 16] _ _ rfl (by kernel_rfl) rfl rfl rfl rfl (fun K w' hk => ?_) ?_
        rotate_left
        · go_step; exact hk
        refine Ord.St.fl2 (T' := ?_) 14 [15, 16] _ _ rfl (by kernel_rfl) rfl rfl rfl rfl (fun K w' hk => ?_) ?_
        rotate_left
        · go_step; exact hk
        refine Ord.St.fl2 (T' := ?_) 15 [16] _ _ rfl (by kernel_rfl) rfl rfl rfl rfl (fun K w' hk => ?_) ?_
        rotate_left
        · go_step; exact hk
        refine Ord.St.fl2 (T' := ?_) 16 [] _ _ rfl (by kernel_rfl) rfl rfl rfl rfl (fun K w' hk => ?_) ?_
        rotate_left
        · go_step; exact hk
        refine Ord.St.nil ?_
        clear c0 eZ hwD
        rw [eA, eB, HWD.out]
        clear eA eB
        have hgv := Given_is (w := wo.drew) n A B (by omega) (by omega) (by omega)
        go_wp2_with fail
        refine hgv.mono ?_
        rintro e w7 ⟨v, rfl, hrow, _, hc7⟩
        obtain ⟨ca, cc, rfl⟩ := row.shape hrow
        have hgl := givenL_len n n A B
        have hsb : Sb w7 ca (givenL n n A B) := row.sv hrow rfl (by omega)
        have HC7 := Lib.hid ((HC.out.drew).trans hc7 (by simp))
        have HSB := Lib.hid hsb
        clear hgv hrow hc7 HC hsb
        go_wp2_with fail
        go_loopw [87] (fun i wr => ∃ k : Nat, k ≤ 11 ∧ i = .int .i64 k ∧ Ch [] w7 wr) (fun i _ => 11 - (intOf i).toNat)
        case atStart => exact ⟨0, by omega, rfl, Ch.refl _ _⟩
        case round =>
          obtain ⟨k, hk, rfl, hc⟩ := hrel
          by_cases hk11 : k < 11
          · obtain ⟨lk, hlk⟩ : ∃ lk, ls[k]? = some lk := ⟨_, List.getElem?_eq_getElem (by rw [HF.out.len]; exact hk11)⟩
            obtain ⟨q1, q2⟩ := HF.out.small k lk hlk
            obtain ⟨Bs, r1, r2, r3⟩ := HF.out.reads k lk hlk A B (by rw [HD.out]; exact hAD) (by rw [HD.out]; exact hBD)
            obtain ⟨a1, c1, hv1, hm1⟩ := HVL.out.at HO.out hlk
            have hcc := HC7.out.trans hc (by simp)
            have d1 := row_at (HROW.out.ch hcc (by simp)) hv1
            have hd2 : ∀ W, Ch [] wr W → W.cell? ⟨ba, k, none⟩ = some (.int .u8 (opsL.getD k 0 : Nat)) := fun W hW => (HOPS.out.ch (hcc.trans hW (by simp)) (by simp)).cell (opI_at k hk11)
            have hR := ReadsW_is (w := wr) (HO.out.same hcc).own.gin (a := a1) (l := natInts lk) (m := lk.length) (c := c1) (by simp) ((HO.out.same hcc).sl hm1 (by simp)) ((HO.out.same hcc).at hm1 (by simp)).ok.bd (xa := ca) (ins := givenL n n A B) (k := n + n) (xc := cc) hgl (HSB.out.ch hc (by simp)) (by omega) r1 r2 q1 q2
            have hap := fun W => ApplyI_at k hk11 W A B n (by omega) (by omega) hn1 (by omega)
            rw [← r3] at hap
            generalize hbv : bitsVal Bs = bv at *
            have HC8 := Lib.hid hc
            have HR := Lib.hid hR
            have HAP := Lib.hid hap
            have HD2 := Lib.hid hd2
            clear hR hap hd2 hc hcc hv1 hm1 r1 r2 r3 hlk hbv
            go_wp2_with fail
            refine HR.out.mono ?_
            rintro e w8 ⟨rfl, hc8⟩
            have d2 := HD2.out w8 hc8
            have HC9 := Lib.hid (HC8.out.trans hc8 (by simp))
            have hap := HAP.out
            generalize hop : opsL.getD k 0 = op at *
            have HAP := Lib.hid hap
            clear hc8 hap hop HD2 HR HC8
            go_wp2_with fail
            refine (HAP.out w8).mono ?_
            rintro e w9 ⟨rfl, hc9⟩
            have HC10 := Lib.hid (HC9.out.trans hc9 (by simp))
            clear hc9 d2
            go_wp2_with fail
            go_roundw
            case rel => exact ⟨k + 1, by omega, by go_num, HC10.out⟩
            case measure => simp [intOf]; omega
          · have HC8 := Lib.hid (HC7.out.trans hc (by simp))
            clear hc
            go_wp2_with fail
            go_roundw
            case rel => exact ⟨x + 1, by omega, by go_num, HC8.out⟩
            case measure => simp [intOf]; omega
      · have HC := Lib.hid hc; clear hc
        go_wp2_with fail
        go_ret
        exact ⟨rfl, HC0.out.trans HC.out (by simp)⟩
end Go.Proofs.YtnmfdiiehkkjcaaGreat
