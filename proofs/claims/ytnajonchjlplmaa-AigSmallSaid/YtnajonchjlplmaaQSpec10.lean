/-
  The steps of a built graph, plainly: what lies between them, and that each made again is the same. No program in sight. Conditions: none beyond the hypotheses.
-/
import Derived.Test.YtnajonchjlplmaaQSpec9
namespace Go.Proofs.Ytnajonchjlplmaa
open Go.Aig
theorem run_prefix : ∀ (l : List Sm) (b : Bd), (∃ m, (l.foldl stepB b).refs = b.refs ++ m) ∧ ∃ m, (l.foldl stepB b).want = b.want ++ m
  | [], b => ⟨⟨[], by simp⟩, ⟨[], by simp⟩⟩
  | x :: l, b => by
    obtain ⟨⟨m, h⟩, ⟨m', h'⟩⟩ := run_prefix l (stepB b x)
    exact ⟨⟨_, by rw [List.foldl_cons, h]; unfold stepB; rw [List.append_assoc]⟩, ⟨_, by rw [List.foldl_cons, h']; unfold stepB; rw [List.append_assoc]⟩⟩
/-- the graph behind i steps -/
def runTo (l : List Sm) (i : Nat) : Bd := ((l.take 60).take i).foldl stepB (bd0 4000 4)
structure AtStep (l : List Sm) (B : Bd) (i : Nat) (x : Sm) : Prop where
  ok : BOk (runTo l i)
  len : (runTo l i).G.nodes.length + 3 ≤ (runTo l i).G.most
  refs : (runTo l i).refs = B.refs.take (5 + i)
  want : (runTo l i).want = B.want.take (5 + i)
  next : runTo l (i + 1) = stepB (runTo l i) x
  ext : Ext (stepB (runTo l i) x).G B.G
  got : B.refs[5 + i]? = some (stepRes (runTo l i).G (runTo l i).refs x).2.1
  le : (runTo l i).G.nodes.length ≤ B.G.nodes.length
theorem runTo_all (l : List Sm) : runTo l (l.take 60).length = builtB 4000 (l.take 60) := by unfold runTo builtB; rw [List.take_length]
theorem runTo_zero (l : List Sm) : runTo l 0 = bd0 4000 4 := by unfold runTo; simp
theorem at_step {l : List Sm} {i : Nat} {x : Sm} (hx : (l.take 60)[i]? = some x) : AtStep l (builtB 4000 (l.take 60)) i x := by
  have hi := (List.getElem?_eq_some_iff.1 hx).1
  have hm : (l.take 60).length ≤ 60 := by rw [List.length_take]; omega
  have hn0 : (bd0 4000 4).G.nodes.length = 5 := rfl
  have hr0 : (bd0 4000 4).refs.length = 5 := rfl
  have hli : ((l.take 60).take i).length = i := by rw [List.length_take]; omega
  have hrun := run_ok ((l.take 60).take i) (bd0_ok (most := 4000) (by omega) (by omega)) (by rw [hli, hn0]; show 5 + 3 * i ≤ 4000; omega)
  rw [show ((l.take 60).take i).foldl stepB (bd0 4000 4) = runTo l i from rfl] at hrun
  obtain ⟨r1, r2, r3, r4⟩ := hrun
  rw [hli] at r3 r4
  rw [hn0] at r3
  rw [hr0] at r4
  have hmost : (runTo l i).G.most = 4000 := r2.most
  have hsplit : builtB 4000 (l.take 60) = ((l.take 60).drop i).foldl stepB (runTo l i) := by
    unfold builtB runTo
    rw [← List.foldl_append, List.take_append_drop]
  have hd : (l.take 60).drop i = x :: (l.take 60).drop (i + 1) := by
    rw [List.drop_eq_getElem_cons hi]
    rw [List.getElem?_eq_getElem hi] at hx
    cases hx; rfl
  obtain ⟨s1, s2, s3, s4⟩ := stepB_ok r1 x (by show (runTo l i).G.nodes.length + 3 ≤ (runTo l i).G.most; rw [hmost]; have : (runTo l i).G.nodes.length ≤ 5 + 3 * i := r3; omega)
  have hsplit2 : builtB 4000 (l.take 60) = ((l.take 60).drop (i + 1)).foldl stepB (stepB (runTo l i) x) := by rw [hsplit, hd]; rfl
  have hdl : ((l.take 60).drop (i + 1)).length ≤ 60 - (i + 1) := by rw [List.length_drop]; omega
  have hnl : (runTo l i).G.nodes.length ≤ 5 + 3 * i := r3
  have hsm : (stepB (runTo l i) x).G.most = 4000 := s3.most.trans hmost
  have hs4 : (stepB (runTo l i) x).G.nodes.length ≤ (runTo l i).G.nodes.length + 3 := s4
  obtain ⟨t1, t2, t3, t4⟩ := run_ok ((l.take 60).drop (i + 1)) s2 (by show (stepB (runTo l i) x).G.nodes.length + _ ≤ (stepB (runTo l i) x).G.most; omega)
  rw [← hsplit2] at t2
  obtain ⟨⟨m1, p1⟩, ⟨m2, p2⟩⟩ := run_prefix ((l.take 60).drop i) (runTo l i)
  rw [← hsplit] at p1 p2
  have hrl : (runTo l i).refs.length = 5 + i := r4
  have hwl : (runTo l i).want.length = 5 + i := by have := r1.len; show (runTo l i).want.length = _; have h2 : (runTo l i).refs.length = (runTo l i).want.length := this; omega
  obtain ⟨⟨m3, p3⟩, _⟩ := run_prefix ((l.take 60).drop (i + 1)) (stepB (runTo l i) x)
  rw [← hsplit2] at p3
  refine ⟨r1, by omega, by rw [p1, ← hrl, List.take_left], by rw [p2, ← hwl, List.take_left], ?_, t2, ?_, ?_⟩
  · unfold runTo
    rw [List.take_add_one, hx, List.foldl_append]; rfl
  · rw [p3]
    unfold stepB
    dsimp only
    rw [List.append_assoc, List.getElem?_append_right (by omega), hrl]
    simp
  · have := s3.len
    have h2 := t2.len
    have h3 : (runTo l i).G.nodes.length ≤ (stepB (runTo l i) x).G.nodes.length := this
    omega
/-- the and of a node's sides is that node -/
theorem doAnd_node {G : Gra} (h : Ok G) {i : Nat} {x : Nd} (hx : G.nodes[i]? = some x) (hk : x.k = 3) : doAnd G x.l x.r = (G, 2 * i, 0) ∧ doAnd G x.r x.l = (G, 2 * i, 0) := by
  obtain ⟨s1, s2, s3, s4, s5⟩ := h.wf.sides hx hk
  have hi := (List.getElem?_eq_some_iff.1 hx).1
  have hf := findAnd_of h.wf hx hk
  have hn : ∀ a b, (a = x.l ∧ b = x.r ∨ a = x.r ∧ b = x.l) → andIs a b = .node x.l x.r := by
    intro a b hab
    unfold andIs
    have e1 : min a b = x.l := by omega
    have e2 : max a b = x.r := by omega
    rw [e1, e2, if_neg, if_neg]
    · omega
    · intro hc
      rcases hc with hc | hc
      · omega
      · unfold neg at hc
        split at hc <;> omega
  have go : ∀ a b : Nat, (a = x.l ∧ b = x.r ∨ a = x.r ∧ b = x.l) → doAnd G a b = (G, 2 * i, 0) := by
    intro a b hab
    have hand : Aig.and G a b = (G, 2 * i, 0) := by unfold Aig.and; rw [hn a b hab]; dsimp only; rw [hf]
    have hm : mand (G, 0) a b = ((G, 0), 2 * i) := by unfold mand; rw [if_neg (by simp), hand]
    have := whole_yes (G := G) (l := [a, b]) (f := fun s => mand s a b) (fun r hr => by simp at hr; omega) (by rw [hm])
    unfold doAnd
    simp only [List.map_cons, List.map_nil, hm] at this
    simpa using this
  exact ⟨go _ _ (.inl ⟨rfl, rfl⟩), go _ _ (.inr ⟨rfl, rfl⟩)⟩
end Go.Proofs.Ytnajonchjlplmaa
