/-
  Turns of a word, plainly: one after the other, and shifts by constants, by evaluation. No program in sight. Conditions: none beyond the hypotheses.
  What ShiftsTwice asks, plainly: for words of one to five bits, shifted by two words of one to three, all assignments at once, by evaluation. No program in sight. Conditions: none beyond the hypotheses.
  What parts two references, or, and: as steps of a walk that holds words. Conditions: none beyond the hypotheses.
  Walk over move of shifts: a word shifted by another one. Conditions: a graph in memory, words of its references.
  Walks over By, Shl, Shr of shifts. Conditions: a graph in memory, words of any integers.
  The functions of shifts beside a graph and words that are held. Conditions: none beyond the hypotheses.
  Walk over two of chapter 25's law: a graph with two words of new inputs. Conditions: none.
  Words that are held, with no graph: what is known along a law's walk ahead of a graph, and what stays of it beside one. Conditions: none beyond the hypotheses.
  Walk over the chapter's examples (awake of shifts): true. Conditions: none.
  Walk over ShiftsTwice: true, whatever comes in. Conditions: two bytes.
-/
import Derived.Test.YtnmfdiiehkkjcaaQF
import Derived.Test.YtnmfdiiehkkjcaaQE
import Derived.Test.YtnmfdiiehkkjcaaQD
namespace Go.Aig
theorem turnL_k {x : List Int} (hx : 0 < x.length) (n : Int) : ∃ k : Nat, k < x.length ∧ (k : Int) = n % x.length ∧ turnL x n = x.drop k ++ x.take k := by
  have h1 := Int.emod_nonneg n (show (x.length : Int) ≠ 0 by omega)
  have h2 := Int.emod_lt_of_pos n (show (0 : Int) < x.length by omega)
  refine ⟨(n % x.length).toNat, by omega, by omega, ?_⟩
  unfold turnL
  rfl
@[simp] theorem turnL_len (x : List Int) (n : Int) : (turnL x n).length = x.length := by
  unfold turnL
  dsimp only
  by_cases hx : 0 < x.length
  · have h1 := Int.emod_nonneg n (show (x.length : Int) ≠ 0 by omega)
    have h2 := Int.emod_lt_of_pos n (show (0 : Int) < x.length by omega)
    have e : n.emod x.length = n % x.length := rfl
    rw [List.length_append, List.length_drop, List.length_take]
    omega
  · have : x = [] := List.eq_nil_of_length_eq_zero (by omega)
    subst this
    simp
theorem turnL_at {x : List Int} {n : Int} {i : Nat} (hi : i < x.length) : (turnL x n)[i]? = x[((i + n) % x.length).toNat]? := by
  obtain ⟨k, hk, he, ht⟩ := turnL_k (Nat.lt_of_le_of_lt (Nat.zero_le _) hi) n
  rw [ht]
  have hx : (0 : Int) < x.length := by omega
  by_cases hik : i < x.length - k
  · rw [List.getElem?_append_left (by rw [List.length_drop]; omega), List.getElem?_drop]
    congr 1
    have : ((i : Int) + n) % x.length = i + k := by
      rw [← Int.add_emod_emod, ← he]
      exact Int.emod_eq_of_lt (by omega) (by omega)
    omega
  · rw [List.getElem?_append_right (by rw [List.length_drop]; omega), List.length_drop, List.getElem?_take_of_lt (by omega)]
    congr 1
    have : ((i : Int) + n) % x.length = i + k - x.length := by
      rw [← Int.add_emod_emod, ← he, ← Int.sub_emod_right]
      exact Int.emod_eq_of_lt (by omega) (by omega)
    omega
theorem turnL_congr {x : List Int} {n m : Int} (h : n % x.length = m % x.length) : turnL x n = turnL x m := by
  have e : ∀ q : Int, q.emod x.length = q % x.length := fun _ => rfl
  unfold turnL
  rw [e, e, h]
theorem turnL_turnL (x : List Int) (n m : Int) : turnL (turnL x n) m = turnL x (n + m) := by
  refine List.ext_getElem? fun i => ?_
  by_cases hi : i < x.length
  · have hx : (0 : Int) < x.length := by omega
    have h1 := Int.emod_nonneg ((i : Int) + m) (show (x.length : Int) ≠ 0 by omega)
    have h2 := Int.emod_lt_of_pos ((i : Int) + m) hx
    rw [turnL_at (by simpa using hi), turnL_at hi]
    simp only [turnL_len]
    rw [turnL_at (by omega)]
    congr 2
    rw [Int.toNat_of_nonneg h1, Int.emod_add_emod]
    congr 1
    omega
  · rw [List.getElem?_eq_none (by simp; omega), List.getElem?_eq_none (by simp; omega)]
theorem turnL_zero (x : List Int) : turnL x 0 = x := by
  unfold turnL
  have e : (0 : Int).emod x.length = 0 := Int.zero_emod _
  dsimp only
  rw [e]
  simp
theorem turnL_perm (x : List Int) (n : Int) : (turnL x n).Perm x := by
  unfold turnL
  dsimp only
  exact (List.perm_append_comm).trans (by rw [List.take_append_drop])
/-! ### shifts by constants -/
instance : DecidableEq Gra := fun a b => decidable_of_iff (a.most = b.most ∧ a.nodes = b.nodes) ⟨fun h => by cases a; cases b; simp_all, fun h => by subst h; exact ⟨rfl, rfl⟩⟩
def fixedB (n k side : Nat) : Bool := decide (byG (gIn 4000 (n + 1)) side (natInts (rIn 0 n)) (natInts (constL k 6)) = (gIn 4000 (n + 1), shN side (rIn 0 n) (min k n), 0))
set_option maxRecDepth 100000 in
theorem fixed_all : (List.range 9).all (fun n => (List.range 21).all fun k => fixedB (n + 1) k 1 && fixedB (n + 1) k 2) = true := by decide +kernel
theorem fixed_facts {n k side : Nat} (h1 : 1 ≤ n) (h9 : n ≤ 9) (hk : k ≤ 20) (hs : side = 1 ∨ side = 2) : byG (gIn 4000 (n + 1)) side (natInts (rIn 0 n)) (natInts (constL k 6)) = (gIn 4000 (n + 1), shN side (rIn 0 n) (min k n), 0) := by
  have h := List.all_eq_true.1 fixed_all (n - 1) (List.mem_range.2 (by omega))
  have h := List.all_eq_true.1 h k (List.mem_range.2 (by omega))
  rw [show n - 1 + 1 = n by omega, Bool.and_eq_true] at h
  rcases hs with rfl | rfl
  · exact of_decide_eq_true h.1
  · exact of_decide_eq_true h.2
/-- shifted twice to one side -/
theorem shL_shL {side : Nat} (x : List Int) (n m : Nat) : shL side (shL side x (min n x.length)) (min m x.length) = shL side x (min (n + m) x.length) := by
  refine List.ext_getElem? fun i => ?_
  by_cases hi : i < x.length
  · have g : ∀ (y : List Int) (j k : Nat), (shL side y k).getD j 0 = if j < y.length then (if side = 1 then (if k ≤ j then y.getD (j - k) 0 else 0) else y.getD (j + k) 0) else 0 := fun y j k => by
      rw [List.getD_eq_getElem?_getD]
      split
      · rename_i h; rw [shL_at h]; rfl
      · rename_i h; rw [List.getElem?_eq_none (by simp; omega)]; rfl
    have z : ∀ j, x.length ≤ j → x.getD j 0 = 0 := fun j hj => by rw [List.getD_eq_getElem?_getD, List.getElem?_eq_none hj]; rfl
    rw [shL_at (by simpa using hi), shL_at hi]
    congr 1
    rw [g, g]
    split
    · by_cases h1 : min (n + m) x.length ≤ i
      · rw [if_pos h1, if_pos (by omega), if_pos (by omega), if_pos (by omega)]
        congr 1; omega
      · rw [if_neg h1]
        split
        · rw [if_pos (by omega), if_neg (by omega)]
        · rfl
    · by_cases h1 : i + (n + m) < x.length
      · rw [if_pos (by omega)]
        congr 1; omega
      · rw [z (i + min (n + m) x.length) (by omega)]
        split
        · exact z _ (by omega)
        · rfl
  · rw [List.getElem?_eq_none (by simp; omega), List.getElem?_eq_none (by simp; omega)]
end Go.Aig
namespace Go.Aig
abbrev St25 := Gra × List Nat × Nat
def rnd25 (n m : Nat) (q : List Nat) (G : Gra) (side : Nat) : St25 × St25 × St25 × St25 × St25 :=
  let A := byG G side (natInts (rIn 0 n)) (natInts (rIn n m))
  let B := byG A.1 side (natInts A.2.1) (natInts (rIn (n + m) m))
  let C := byG B.1 side (natInts (rIn 0 n)) (natInts q)
  let D := byG C.1 side (natInts (constL 0 n)) (natInts (rIn n m))
  let E := byG D.1 side (natInts (rIn 0 n)) (natInts (constL 0 m))
  (A, B, C, D, E)
def rndB (n m : Nat) (R : St25 × St25 × St25 × St25 × St25) : Bool :=
  okW n R.1 && okW n R.2.1 && okW n R.2.2.1 && okW n R.2.2.2.1 && okW n R.2.2.2.2 && R.2.2.2.1.2.1 == constL 0 n && R.2.2.2.2.2.1 == rIn 0 n && (inputs R.2.2.2.2.1.nodes).length == n + m + m && noPs (n + m + m) R.2.2.2.2.1 (allV (n + m + m) R.2.2.2.2.1.nodes) R.2.1.2.1 R.2.2.1.2.1
def stB (n m : Nat) : Bool :=
  let S := addG (gIn 4000 (n + m + m)) (castL (natInts (rIn n m)) (m + 1)) (castL (natInts (rIn (n + m) m)) (m + 1))
  let R1 := rnd25 n m S.2.1 S.1 1
  let R2 := rnd25 n m S.2.1 R1.2.2.2.2.1 2
  okW (m + 1) S && rndB n m R1 && rndB n m R2
set_option maxRecDepth 100000 in
theorem st_all : (List.range 5).all (fun n => (List.range 3).all fun m => stB (n + 1) (m + 1)) = true := by decide +kernel
/-- what a round makes -/
structure RndF (n m : Nat) (q : List Nat) (side : Nat) (G : Nat → Gra) (l : Nat → List Nat) : Prop where
  a : byG (G 0) side (natInts (rIn 0 n)) (natInts (rIn n m)) = (G 1, l 1, 0)
  b : byG (G 1) side (natInts (l 1)) (natInts (rIn (n + m) m)) = (G 2, l 2, 0)
  c : byG (G 2) side (natInts (rIn 0 n)) (natInts q) = (G 3, l 3, 0)
  d : byG (G 3) side (natInts (constL 0 n)) (natInts (rIn n m)) = (G 4, l 4, 0)
  e : byG (G 4) side (natInts (rIn 0 n)) (natInts (constL 0 m)) = (G 5, l 5, 0)
  len : ∀ k, 1 ≤ k → k ≤ 5 → (l k).length = n ∧ ∀ r ∈ l k, r ≤ 1000000
  d2 : l 4 = constL 0 n
  e2 : l 5 = rIn 0 n
  p : ∀ i, i < n → Go.Proofs.Ytnmfdiiehkkjcaa.partsG (G 5) ((l 2).getD i 0 : Nat) ((l 3).getD i 0 : Nat) = (([], false), 0)
theorem rnd_facts {n m side : Nat} {q : List Nat} {G : Gra} (h16 : n + m + m ≤ 16) (h : rndB n m (rnd25 n m q G side) = true) : ∃ GG l, GG 0 = G ∧ GG 5 = (rnd25 n m q G side).2.2.2.2.1 ∧ RndF n m q side GG l := by
  unfold rndB rnd25 at h
  dsimp only at h
  unfold rnd25
  dsimp only
  generalize hA : byG G side (natInts (rIn 0 n)) (natInts (rIn n m)) = A at h ⊢
  generalize hB : byG A.1 side (natInts A.2.1) (natInts (rIn (n + m) m)) = B at h ⊢
  generalize hC : byG B.1 side (natInts (rIn 0 n)) (natInts q) = C at h ⊢
  generalize hD : byG C.1 side (natInts (constL 0 n)) (natInts (rIn n m)) = D at h ⊢
  generalize hE : byG D.1 side (natInts (rIn 0 n)) (natInts (constL 0 m)) = E at h ⊢
  simp only [Bool.and_eq_true] at h
  obtain ⟨⟨⟨⟨⟨⟨⟨⟨w1, w2⟩, w3⟩, w4⟩, w5⟩, d1⟩, e1⟩, i1⟩, p1⟩ := h
  have v1 := okW_is w1
  have v2 := okW_is w2
  have v3 := okW_is w3
  have v4 := okW_is w4
  have v5 := okW_is w5
  simp only [beq_iff_eq] at d1 e1 i1
  have P1 := fun (i : Nat) (hi : i < n) => noP_parts i1 h16 (List.all_eq_true.1 p1 i (List.mem_range.2 (by rw [v2.2.1]; exact hi)))
  clear w1 w2 w3 w4 w5 p1
  obtain ⟨G1, l1, f1⟩ := A
  obtain ⟨G2, l2, f2⟩ := B
  obtain ⟨G3, l3, f3⟩ := C
  obtain ⟨G4, l4, f4⟩ := D
  obtain ⟨G5, l5, f5⟩ := E
  simp only at *
  obtain ⟨rfl, v1⟩ := v1
  obtain ⟨rfl, v2⟩ := v2
  obtain ⟨rfl, v3⟩ := v3
  obtain ⟨rfl, v4⟩ := v4
  obtain ⟨rfl, v5⟩ := v5
  refine ⟨fun k => match k with | 0 => G | 1 => G1 | 2 => G2 | 3 => G3 | 4 => G4 | _ => G5, fun k => match k with | 1 => l1 | 2 => l2 | 3 => l3 | 4 => l4 | _ => l5, rfl, rfl, ⟨hA, hB, hC, hD, hE, fun k h1 h8 => ?_, d1, e1, P1⟩⟩
  rcases (by omega : k = 1 ∨ k = 2 ∨ k = 3 ∨ k = 4 ∨ k = 5) with rfl | rfl | rfl | rfl | rfl
  · exact v1
  · exact v2
  · exact v3
  · exact v4
  · exact v5
/-- what the law makes -/
structure StF (n m : Nat) (q : List Nat) (G : Nat → Nat → Gra) (l : Nat → Nat → List Nat) : Prop where
  s : addG (gIn 4000 (n + m + m)) (castL (natInts (rIn n m)) (m + 1)) (castL (natInts (rIn (n + m) m)) (m + 1)) = (G 0 0, q, 0)
  qn : q.length = m + 1
  qb : ∀ r ∈ q, r ≤ 1000000
  g : G 1 0 = G 0 5
  r : ∀ j, j < 2 → RndF n m q (j + 1) (G j) (l j)
theorem st_facts {n m : Nat} (h1 : 1 ≤ n) (h5 : n ≤ 5) (m1 : 1 ≤ m) (m3 : m ≤ 3) : ∃ q G l, StF n m q G l := by
  have h := List.all_eq_true.1 (List.all_eq_true.1 st_all (n - 1) (List.mem_range.2 (by omega))) (m - 1) (List.mem_range.2 (by omega))
  rw [show n - 1 + 1 = n by omega, show m - 1 + 1 = m by omega] at h
  unfold stB at h
  dsimp only at h
  generalize hS : addG (gIn 4000 (n + m + m)) (castL (natInts (rIn n m)) (m + 1)) (castL (natInts (rIn (n + m) m)) (m + 1)) = S at h
  simp only [Bool.and_eq_true] at h
  obtain ⟨⟨w1, h1⟩, h2⟩ := h
  have v1 := okW_is w1
  clear w1
  obtain ⟨GA, la, a1, a2, a3⟩ := rnd_facts (by omega) h1
  rw [← a2] at h2
  obtain ⟨GB, lb, b1, b2, b3⟩ := rnd_facts (by omega) h2
  obtain ⟨G, q, e⟩ := S
  simp only at *
  obtain ⟨rfl, v2, v3⟩ := v1
  subst a1
  refine ⟨q, fun j => match j with | 0 => GA | _ => GB, fun j => match j with | 0 => la | _ => lb, ⟨hS, v2, v3, b1, fun j hj => ?_⟩⟩
  rcases (by omega : j = 0 ∨ j = 1) with rfl | rfl
  · exact a3
  · exact b3
end Go.Aig
namespace Go.Proofs.Ytnmfdiiehkkjcaa
open Go.RowKit Go.Mem Go.Aig
section
variable {w0 : Base} {w : World} {g : Nat} {G : Gra} {F : List Nat} {L : List (Value × List Int)}
theorem simParts_l (h : Hold w0 w g G F L) (r s : Nat) (hr : r ≤ 1000000) (hs : s ≤ 1000000) (hR : partsG G (r : Int) (s : Int) = (([], false), 0)) :
    Calls Try.prog 32 #[.pointer (some ⟨g, 0, none⟩), .int .i64 r, .int .i64 s] w fun en w' => ∃ a c, en = .returned (.tuple #[.slice a 0 c, .bool false, .int .i64 0]) ∧ Hold w0 w' g G F L := by
  have H := simParts_is h.own.gin r s (by omega) (by omega)
  rw [hR] at H
  refine H.mono ?_
  rintro en w' ⟨v, rfl, hrow, _, hc⟩
  obtain ⟨a, c, rfl⟩ := row.shape hrow
  exact ⟨a, c, rfl, h.same hc⟩
theorem Or_h (h : Hold w0 w g G F L) (a b : Nat) (ba : a ≤ 1000000) (bb : b ≤ 1000000) {G' : Gra} {r e : Nat} (hR : doOr G (a : Int) (b : Int) = (G', r, e)) :
    Calls Try.prog 58 #[.pointer (some ⟨g, 0, none⟩), .int .i64 a, .int .i64 b] w fun en w' => ∃ F', en = .returned (.tuple #[.int .i64 r, .int .i64 e]) ∧ Hold w0 w' g G' F' L := Calls.ref h (Or_g h.own.gin a b (by omega) (by omega)) hR
theorem And_n (h : Hold w0 w g G F L) (a b : Nat) (ba : a ≤ 1000000) (bb : b ≤ 1000000) {G' : Gra} {r e : Nat} (hR : doAnd G (a : Int) (b : Int) = (G', r, e)) :
    Calls Try.prog 59 #[.pointer (some ⟨g, 0, none⟩), .int .i64 a, .int .i64 b] w fun en w' => ∃ F', en = .returned (.tuple #[.int .i64 r, .int .i64 e]) ∧ Hold w0 w' g G' F' L := Calls.ref h (And_g h.own.gin a b (by omega) (by omega)) hR
end
end Go.Proofs.Ytnmfdiiehkkjcaa
namespace Go.Proofs.Ytnmfdiiehkkjcaa
open Go.RowKit Go.Mem Go.Aig
theorem GVo.next {w w1 w2 : World} {g : Nat} {G1 : Gra} {F F' : List Nat} {v : Value} {l : List Nat} (hc : Ch F w w1) (hF : ∀ k ∈ F', k ∈ F ∨ w.heap.size ≤ k) (h2 : F'[2]? = F[2]?) (h : GVo w1 g G1 [] F' v l w2) : GVo w g G1 [] F v l w2 := by
  obtain ⟨F1, a1, a2, a3, a4, a5, a6⟩ := h
  refine ⟨F1, a1, hc.trans a2 (fun k hk => hF k hk), fun k hk => (a3 k hk).elim (hF k) (fun e => .inr (Nat.le_trans hc.size e)), a4.trans h2, a5, fun k hk => ⟨Nat.le_trans hc.size (a6 k hk).1, (a6 k hk).2⟩⟩
theorem badIn_nats {G : Gra} {x : List Int} (h : badIn G x = false) : natInts (nats x) = x ∧ ∀ r ∈ nats x, r < 2 * G.nodes.length := badIn_no h
/-- the word in which bits are taken back: what is known between two rounds -/
structure E8 (w : World) (g : Nat) (F : List Nat) (W : World) (b n c : Nat) (Gp : Gra) (l : List Nat) (F' : List Nat) : Prop where
  gin : GIn W g Gp F'
  ch : Ch F w W
  own : ∀ k ∈ F', k ∈ F ∨ w.heap.size ≤ k
  f2 : F'[2]? = F[2]?
  lo : w.heap.size ≤ b
  nb : b ∉ F'
  row : Go.Mem.row W 29 1 (.slice (some ⟨b, 0, none⟩) n c) n (refsCells l)
theorem E8.done {w W : World} {g : Nat} {F F' : List Nat} {b n c : Nat} {Gp : Gra} {l : List Nat} (h : E8 w g F W b n c Gp l F') (hn : l.length = n) : GVo w g Gp [] F (.slice (some ⟨b, 0, none⟩) n c) l W := by
  refine ⟨F', h.gin, h.ch, h.own, h.f2, by rw [hn]; exact h.row, fun k hk => ?_⟩
  cases hk
  exact ⟨h.lo, h.nb⟩
theorem E8.bad {w W : World} {g : Nat} {F F' : List Nat} {b n c : Nat} {Gp : Gra} {l : List Nat} (h : E8 w g F W b n c Gp l F') : GVo w g Gp [] F (.slice none 0 0) [] W := GVo.nil (F' := F') h.gin h.ch h.own h.f2
/-- the graph grows; the word stays -/
theorem E8.to {w W W' : World} {g : Nat} {F F' : List Nat} {b n c : Nat} {Gp G' : Gra} {l : List Nat} (h : E8 w g F W b n c Gp l F') (ht : GTo W g G' F' W') : ∃ F1, E8 w g F W' b n c G' l F1 := by
  obtain ⟨F1, a1, a2, a3, a4⟩ := ht
  have hbW : b < W.heap.size := (h.row.lt b rfl).2
  exact ⟨F1, a1, h.ch.trans a2 (fun q hq => h.own q hq), fun q hq => (a3 q hq).elim (h.own q) (fun e => .inr (Nat.le_trans h.ch.size e)), a4.trans h.f2, h.lo, fun hk => (a3 b hk).elim h.nb (fun e => by omega), h.row.ch a2 (fun q hq hq2 => by cases hq; exact h.nb hq2)⟩
theorem E8.put {w W : World} {g : Nat} {F F' : List Nat} {b n c : Nat} {Gp : Gra} {l : List Nat} (h : E8 w g F W b n c Gp l F') (k r : Nat) : E8 w g F (W.setCell ⟨b, k, none⟩ (.int .i64 r)) b n c Gp (l.set k r) F' := by
  have hcb : Ch [b] W (W.setCell ⟨b, k, none⟩ (.int .i64 r)) := (Ch.refl _ _).setCell (.inl (by simp)) _
  refine ⟨h.gin.same hcb (fun q hq hq2 => h.nb (by rw [List.mem_singleton.1 hq2] at hq; exact hq)), h.ch.setCell (.inr h.lo) _, h.own, h.f2, h.lo, h.nb, ?_⟩
  have e : refsCells (l.set k r) = (refsCells l).set k (.int .i64 r) := by unfold refsCells; rw [List.map_set]
  rw [e]
  exact row.set h.row _
theorem E8.at {w W : World} {g : Nat} {F F' : List Nat} {b n c : Nat} {Gp : Gra} {l : List Nat} (h : E8 w g F W b n c Gp l F') {k r : Nat} (hk : l[k]? = some r) (hn : 0 < n) : W.cell? ⟨b, k, none⟩ = some (.int .i64 r) ∧ W.frozen? ⟨b, k, none⟩ = false :=
  ⟨row_at2 h.row (by simp [refsCells, hk]), row_fz h.row hn k⟩
section
variable {w : World} {g : Nat} {G : Gra} {F : List Nat}
/-- one step of move: a shift by a number, and a choice -/
theorem step_in {wr : World} {Gp : Gra} {va : Option Addr} {vc : Nat} {l : List Nat} {n : Nat} (hn : l.length = n) (hnm : n ≤ 1000) (hv : GVo w g Gp [] F (.slice va n vc) l wr) {w2 : World} {side q : Nat} {ua : Option Addr} {uc : Nat} (hu : WNew wr (.slice ua n uc) (intCells (shL side (natInts l) q)) w2)
    {c : Nat} (hok : Ok Gp) (hc : c < 2 * Gp.nodes.length) (hlt : ∀ r ∈ l, r < 2 * Gp.nodes.length) :
    Calls Try.prog 193 #[.pointer (some ⟨g, 0, none⟩), .int .i64 c, .slice va n vc, .slice ua n uc] w2 fun e W' => ∃ (v : Value) (G1 : Gra) (l1 : List Nat) (e1 : Nat), e = .returned (.tuple #[v, .int .i64 e1]) ∧ Step5 Gp (eachF (rop (muxOf c)) (Gp, 0) (l.zip (shN side l q))) G1 l1 e1 ∧ GVo w g G1 [] F v l1 W' := by
  subst hn
  obtain ⟨F', h1, h2, h3, h4, h5, h6⟩ := hv
  obtain ⟨u1, u2, u3⟩ := hu
  have e1 : (intCells (shL side (natInts l) q)).length = l.length := by simp [intCells]
  rw [e1] at u1
  have hsl : Sl w2 va (l.map fun (r : Nat) => (r : Int)) := by
    have := h5.ch u3 (by simp)
    rw [refs_natInts] at this
    exact Sl.of_ints this (by omega)
  have hsu : Sl w2 ua ((shN side l q).map fun (r : Nat) => (r : Int)) := by
    rw [shL_nat] at u1
    exact Sl.of_ints u1 (by omega)
  refine (step25_is (h1.same u3 (by simp)) hc l.length vc uc rfl (by simp) hnm hsl hsu (fun k hk => ?_) (fun k hk => ?_) hlt (shN_lt hlt (by have := hok.wf.pos; omega))).mono ?_
  · cases va with
    | none => simp [ablk] at hk
    | some p =>
      simp only [ablk, List.mem_singleton] at hk
      subst hk
      exact ⟨(h6 p.block rfl).2, by have := (h5.lt p.block rfl).2; have := u3.size; omega⟩
  · cases ua with
    | none => simp [ablk] at hk
    | some p =>
      simp only [ablk, List.mem_singleton] at hk
      subst hk
      have hge := u2 p.block (by simp [Value.ownBlock])
      exact ⟨fun hk2 => by have := h1.lt p.block hk2; omega, (u1.lt p.block rfl).2⟩
  · rintro e W' ⟨v, G1, l1, e1, rfl, hs, hg⟩
    have hg2 := (GVo.since u3 hg).next h2 h3 h4
    exact ⟨v, G1, l1, e1, rfl, hs, hg2⟩
set_option maxRecDepth 100000 in
set_option maxHeartbeats 3000000 in
theorem move25_is (h : GIn w g G F) {side : Nat} (hs : side = 1 ∨ side = 2) {xa ya : Option Addr} {xl yl : List Int} {xc yc n m : Nat} (hx : WVin w F ⟨xa, xl, xc⟩) (hy : WVin w F ⟨ya, yl, yc⟩) (hn : xl.length = n) (hm : yl.length = m) (hn1 : 1 ≤ n) (hn16 : n ≤ 16) (hm1 : 1 ≤ m) (hm16 : m ≤ 16) (hyc : m ≤ yc) (hbx : badIn G xl = false) (hby : badIn G yl = false) :
    Calls Try.prog 136 #[.pointer (some ⟨g, 0, none⟩), .int .u8 side, .slice xa n xc, .slice ya m yc] w fun e W' => ∃ (v : Value) (G1 : Gra) (l1 : List Nat) (e1 : Nat), e = .returned (.tuple #[v, .int .i64 e1]) ∧ Step5 G (moveF side (G, 0) (nats xl) (nats yl)) G1 l1 e1 ∧ GVo w g G1 [] F v l1 W' := by
  have hl := h.lt
  have hok := h.ok
  have hG := hok.small
  obtain ⟨hxe, hxlt⟩ := badIn_nats hbx
  obtain ⟨hye, hylt⟩ := badIn_nats hby
  have hcl := Clref_w hx.ok n hn
  obtain ⟨yb, yo, hya, hyat⟩ := hy.ok.sl.at (by show 0 < yl.length; omega)
  simp only at hya
  subst hya
  have hyF := hy.apart yb (by simp [ablk])
  have hxn : (nats xl).length = n := by simp [hn]
  have hyn : (nats yl).length = m := by simp [hm]
  obtain ⟨X, hX⟩ : ∃ X, X = nats xl := ⟨_, rfl⟩
  obtain ⟨Y, hY⟩ : ∃ Y, Y = nats yl := ⟨_, rfl⟩
  rw [← hX] at hxe hxlt hxn ⊢
  rw [← hY] at hye hylt hyn ⊢
  clear hX hY
  have hst := fun W => steps25_is (w := W) n m (by omega) (by omega)
  have hsle := stepsN_le n m
  obtain ⟨K, hK⟩ : ∃ K, K = stepsN n m := ⟨_, rfl⟩
  have hmf := @moveF_full side (G, 0) X Y
  have hmh := @moveF_high side (G, 0) X Y
  have hmb := @moveF_bad side (G, 0) X Y
  rw [hxn, hyn, ← hK] at hmf hmh hmb
  rw [← hK] at hst hsle
  clear hK
  have hmF := fun cs => movF_lok hok (side := side) (x := X) (cs := cs) hxlt
  have hmL := fun cs => movF_len side (G, 0) X cs
  rw [hxn] at hmL
  have H := Lib.hid h; clear h
  have HL := Lib.hid hl; clear hl
  have HOK := Lib.hid hok; clear hok
  have HXE := Lib.hid hxe; clear hxe
  have HXLT := Lib.hid hxlt; clear hxlt
  have HYE := Lib.hid hye; clear hye
  have HYLT := Lib.hid hylt; clear hylt
  have HYAT := Lib.hid hyat; clear hyat
  have HYF := Lib.hid hyF; clear hyF
  have HXN := Lib.hid hxn; clear hxn
  have HYN := Lib.hid hyn; clear hyn
  have HMF := Lib.hid hmf; clear hmf
  have HMH := Lib.hid hmh; clear hmh
  have HMB := Lib.hid hmb; clear hmb
  have HLOK := Lib.hid hmF; clear hmF
  have HML := Lib.hid hmL; clear hmL
  have HHN := Lib.hid hn; clear hn
  have HHM := Lib.hid hm; clear hm
  have HHS := Lib.hid hs; clear hs
  have HST := Lib.hid hst; clear hst
  clear hx hy hbx hby
  go_enter Try.func136, Try.ntmps136
  go_wp2_with fail
  refine wp_scope_straight ?_
  go_wp2_with fail
  refine hcl.mono ?_
  rintro e w1 ⟨v, rfl, hv⟩
  have hv0 : GVo w g G [] F v X w1 := by
    refine ⟨F, H.out.same hv.2.2 (by simp), hv.2.2.mono (by simp), fun k hk => .inl hk, rfl, ?_, fun k hk => ?_⟩
    · have := hv.1
      rw [refs_natInts, HXE.out]
      simpa [intCells, HXN.out, HHN.out] using this
    · have h1 := hv.2.1 k (by simp [hk])
      exact ⟨h1, fun hk2 => by have := HL.out k hk2; omega⟩
  have HV0 := Lib.hid hv0; clear hv0 hv hcl
  go_wp2_with fail
  refine (HST.out _).mono ?_
  rintro e w1' ⟨rfl, rfl⟩
  go_wp2_with fail
  refine wp_label ?_
  go_wp2_with fail
  go_loopw [10, 11, 29] (fun o e i wr => ∃ (k : Nat) (va : Option Addr) (vc : Nat) (Gp : Gra) (l : List Nat), k ≤ K ∧ i = .int .i64 k ∧ o = .slice va n vc ∧ e = .int .i64 (0 : Nat) ∧ movF side (G, 0) X (Y.take k) = ((Gp, 0), l) ∧ GVo w g Gp [] F (.slice va n vc) l wr) (fun _ _ i _ => K - (intOf i).toNat)
  case atStart =>
    have hv0 := HV0.out
    obtain ⟨va, vc, hv⟩ := (show ∃ a c, v = .slice a X.length c from by obtain ⟨_, _, _, _, _, h5, _⟩ := hv0; exact row.shape h5)
    rw [HXN.out] at hv
    subst hv
    exact ⟨0, va, vc, G, X, by omega, rfl, rfl, rfl, rfl, hv0⟩
  case round =>
    obtain ⟨k, va, vc, Gp, l, hk, rfl, rfl, rfl, hmv, hv⟩ := hrel
    have hlok := HLOK.out (Y.take k)
    have hll := HML.out (Y.take k)
    rw [hmv] at hlok hll
    have hop : Ok Gp := hlok.s.ok
    have hext : Ext G Gp := hlok.s.ext
    have hlt : ∀ r ∈ l, r < 2 * Gp.nodes.length := hlok.lt
    simp only at hll
    clear hlok
    by_cases hkK : k < K
    · obtain ⟨c, hc⟩ : ∃ c, Y[k]? = some c := ⟨_, List.getElem?_eq_getElem (by have := HYN.out; omega)⟩
      have hclt := hext.lt (HYLT.out c (List.mem_of_getElem? hc))
      have hyk : yl[k]? = some (c : Int) := by rw [← HYE.out]; simp [natInts, hc]
      have c0 : wr.cell? ⟨yb, yo + k, none⟩ = some (.int .i64 c) := by
        have h0 := HYAT.out k c hyk
        obtain ⟨_, _, hch, _⟩ := hv
        exact (hch.cell (cell_lt h0) (by simpa using HYF.out.1)).trans h0
      have htk : Y.take (k + 1) = Y.take k ++ [c] := by rw [List.take_add_one, hc]; rfl
      have hnx := movF_snoc side (G, 0) X (Y.take k) c
      rw [← htk, hmv, show (Y.take k).length = k by rw [List.length_take]; have := HYN.out; omega] at hnx
      have hpw : (2 : Nat) ^ k ≤ 2 ^ 16 := Nat.pow_le_pow_right (by omega) (by omega)
      have hpc : ((2 ^ k : Nat) : Int) = (2 : Int) ^ k := by push_cast; rfl
      have hw : wrap64 ((2 : Int) ^ k) = ((2 ^ k : Nat) : Int) := by rw [← hpc]; exact IntWalk.wrap64_in _ ⟨Int.le_trans (by decide) (Int.natCast_nonneg _), Int.le_trans (Int.ofNat_le.2 hpw) (by decide)⟩
      have hsh : Calls Try.prog 170 #[.int .u8 side, .slice va n vc, .int .i64 ((2 ^ k : Nat) : Int)] wr fun e w' => ∃ v, e = .returned v ∧ WNew wr v (intCells (shL side (natInts l) (2 ^ k))) w' := by
        obtain ⟨_, _, _, _, _, h5, _⟩ := hv
        rw [refs_natInts, hll] at h5
        have := shifted_is HHS.out (xl := natInts l) vc (2 ^ k) (Sl.of_ints h5 (by omega)) (by simp; omega) (Nat.le_trans hpw (by decide))
        rw [natInts_len, hll] at this
        exact this
      rw [← hw] at hsh
      have HSH := Lib.hid hsh; clear hsh
      have HV := Lib.hid hv; clear hv
      have HNX := Lib.hid hnx; clear hnx
      have HMV := Lib.hid hmv; clear hmv
      have HLT := Lib.hid hlt; clear hlt
      have HLL := Lib.hid hll; clear hll
      have HOP := Lib.hid hop; clear hop
      have HEXT := Lib.hid hext; clear hext
      have HCLT := Lib.hid hclt; clear hclt
      have HTK := Lib.hid htk; clear htk
      clear hw hpc hpw hyk hc HV0 HST
      go_wp2_with fail
      refine HSH.out.mono ?_
      rintro e w2 ⟨u, rfl, hu⟩
      obtain ⟨ua, uc, rfl⟩ := (show ∃ a c, u = .slice a n c from by have := row.shape hu.1; simpa [intCells, HLL.out] using this)
      have hstep := step_in HLL.out (by omega) HV.out hu HOP.out HCLT.out HLT.out
      have HSTEP := Lib.hid hstep; clear hstep hu HSH
      go_wp2_with fail
      refine HSTEP.out.mono ?_
      rintro e w3 ⟨v3, G1, l1, e1, rfl, hst, hv3⟩
      have hR : movF side (G, 0) X (Y.take (k + 1)) = eachF (rop (muxOf c)) (Gp, 0) (l.zip (shN side l (2 ^ k))) := HNX.out
      rw [← hR] at hst
      clear HSTEP hR
      by_cases hz : (movF side (G, 0) X (Y.take (k + 1))).1.2 = 0
      · obtain ⟨a1, a2, rfl⟩ := hst.yes hz
        have hmv2 : movF side (G, 0) X (Y.take (k + 1)) = ((G1, 0), l1) := by rw [a1, a2]; exact Prod.ext (Prod.ext rfl hz) rfl
        have hll1 := HML.out (Y.take (k + 1))
        rw [← a2] at hll1
        obtain ⟨wa, wc, rfl⟩ := (show ∃ a c, v3 = .slice a n c from by obtain ⟨_, _, _, _, _, h5, _⟩ := hv3; rw [hll1] at h5; exact row.shape h5)
        have HMV2 := Lib.hid hmv2; clear hmv2 a1 a2 hz hst
        have HV3 := Lib.hid hv3; clear hv3
        go_wp2_with fail
        go_roundw
        case rel => exact ⟨k + 1, wa, wc, G1, l1, by omega, by go_num, rfl, by trivial, HMV2.out, HV3.out⟩
        case measure => simp [intOf]; omega
      · obtain ⟨rfl, h201⟩ := hst.no hz
        have herr := hst.err
        have he1 : e1 = 201 := by omega
        subst he1
        have hpre : Y.take (k + 1) ++ (Y.take K).drop (k + 1) = Y.take K := by
          have e0 : Y.take (k + 1) = (Y.take K).take (k + 1) := by rw [List.take_take]; congr 1; omega
          rw [e0, List.take_append_drop]
        have hb1 := movF_bad side (G, 0) X (Y.take (k + 1)) ((Y.take K).drop (k + 1)) hz
        rw [hpre] at hb1
        have hb2 := HMB.out (by rw [hb1]; exact hz)
        have hfin : Step5 G (moveF side (G, 0) X Y) G1 [] 201 := ⟨fun h0 => absurd (by rw [hb2, hb1] at h0; exact h0) hz, fun _ => ⟨rfl, by rw [hb2, hb1]; omega⟩, .inr (by rw [hb2, hb1]; omega), HEXT.out.trans hst.ext, hst.ok⟩
        obtain ⟨wa, wc, rfl⟩ := (show ∃ a c, v3 = .slice a 0 c from by obtain ⟨_, _, _, _, _, h5, _⟩ := hv3; exact row.shape h5)
        have HFIN := Lib.hid hfin; clear hfin hb1 hb2 hpre herr h201 hst hz
        have HV3 := Lib.hid hv3; clear hv3
        go_wp2_with fail
        rw [Exit.noGoto_ret]
        go_ret2
        exact ⟨_, _, _, _, rfl, HFIN.out, HV3.out⟩
    · have hkk : k = K := by omega
      subst hkk
      by_cases hKm : k = m
      · have hf := HMF.out hKm
        rw [hmv] at hf
        have hfin : Step5 G (moveF side (G, 0) X Y) Gp l 0 := by
          rw [hf]; exact ⟨fun _ => ⟨rfl, rfl, rfl⟩, fun h0 => absurd rfl h0, .inl rfl, hext, hop⟩
        have HFIN := Lib.hid hfin; clear hfin hf
        have HV := Lib.hid hv; clear hv
        have hkb : ((k : Int) == (m : Int)) = true := beqI (by omega)
        clear hmv hlt hkK
        go_wp2_with fail
        rw [Exit.noGoto_ret]
        go_ret2
        exact ⟨_, _, _, _, rfl, HFIN.out, HV.out⟩
      · have hkb : ((k : Int) == (m : Int)) = false := by rw [beq_eq_false_iff_ne]; omega
        have hf := HMH.out hKm hmv
        obtain ⟨HI, hHI⟩ : ∃ HI, HI = Y.drop k := ⟨_, rfl⟩
        rw [← hHI] at hf
        have hHIlt : ∀ r ∈ HI, r < 2 * Gp.nodes.length := fun r hr => by rw [hHI] at hr; exact hext.lt (HYLT.out r (List.mem_of_mem_drop hr))
        have hHIl : HI.length = m - k := by rw [hHI, List.length_drop, HYN.out]
        obtain ⟨F', h1, h2, h3, h4, h5, h6⟩ := hv
        have hany := Any_g h1 (a := some ⟨yb, yo + k, none⟩) (l := natInts HI) (m - k) (yc - k) (by simp [hHIl]) ⟨fun i x hx => by
          refine ⟨yb, yo + k, rfl, ?_⟩
          have hx2 : yl[k + i]? = some x := by
            rw [← HYE.out]
            rw [hHI] at hx
            simpa [natInts, List.getElem?_drop] using hx
          have h0 := HYAT.out (k + i) x hx2
          rw [Nat.add_assoc]
          exact (h2.cell (cell_lt h0) (by simpa using HYF.out.1)).trans h0, by simp; omega⟩ (fun x hx => by obtain ⟨r, hr, rfl⟩ := List.mem_map.1 hx; have := hHIlt r hr; have := hop.small; omega) (fun p hp => by
          cases hp
          exact ⟨Nat.lt_of_lt_of_le (show yb < w.heap.size from HYF.out.2) h2.size, fun hk2 => (h3 yb hk2).elim HYF.out.1 (fun e => by have : yb < w.heap.size := HYF.out.2; omega)⟩)
        rw [natInts, doAny_r hHIlt] at hany
        have hfull := rAny_full hop hHIlt
        have hvv : GVo w g Gp [] F (.slice va n vc) l wr := ⟨F', h1, h2, h3, h4, h5, h6⟩
        obtain ⟨R, hR⟩ : ∃ R, R = rAny Gp HI := ⟨_, rfl⟩
        rw [← hR] at hany hfull hf
        have HANY := Lib.hid hany; clear hany
        have HF := Lib.hid hf; clear hf
        have HFU := Lib.hid hfull; clear hfull
        have HVV := Lib.hid hvv; clear hvv
        have HOP := Lib.hid hop; clear hop
        have HEXT := Lib.hid hext; clear hext
        have HLT := Lib.hid hlt; clear hlt
        have HLL := Lib.hid hll; clear hll
        have HH5 := Lib.hid h5; clear h5
        have HH2 := Lib.hid h2; clear h2
        have HH6 := Lib.hid h6; clear h6
        have HH3 := Lib.hid h3; clear h3
        have HH1 := Lib.hid h1; clear h1
        have hkm : k < m := by omega
        clear hmv hHI hHIlt hHIl hR HV0 HST hKm hkK
        go_wp2_with fail
        refine HANY.out.mono ?_
        rintro e w3 ⟨rfl, hto⟩
        clear HANY
        obtain ⟨b, rfl⟩ : ∃ b, va = some ⟨b, 0, none⟩ := by
          obtain ⟨b, cap, e⟩ := row.parts HH5.out (by rw [HLL.out]; omega)
          cases e
          exact ⟨b, rfl⟩
        have hE0 : ∃ F1, E8 w g F w3 b n vc R.1 l F1 := by
          have h5 := HH5.out
          rw [HLL.out] at h5
          have hbb := HH6.out b rfl
          exact (E8.to ⟨HH1.out, HH2.out, HH3.out, h4, hbb.1, hbb.2, h5⟩ hto)
        obtain ⟨F1, hE0⟩ := hE0
        have HE0 := Lib.hid hE0; clear hE0 hto
        by_cases hq : R.2.2 = 0
        · have hz : ((R.2.2 : Int) != 0) = false := by rw [hq]; rfl
          have hf := HF.out
          rw [rstep_ok rfl hq] at hf
          simp only at hf
          have hRR : 2 * R.1.nodes.length ≤ 131072 := HFU.out.ok.ok.small
          have hRl := HFU.out.ok.lt
          obtain ⟨z, hzz⟩ : ∃ z, z = R.2.1 := ⟨_, rfl⟩
          have hNot := fun W => Not_any z W (by omega)
          rw [← hzz] at hf hRl ⊢
          have HNOT := Lib.hid hNot; clear hNot
          have hzlt : neg z < 2 * R.1.nodes.length := neg_lt hRl
          have hLl : ∀ r ∈ l, r < 2 * R.1.nodes.length := fun r hr => HFU.out.ok.ext.lt (HLT.out r hr)
          have hlokA := fun j => eachF_lok HFU.out.ok.ok full_and2 ((l.take j).map fun r => (r, neg z)) (fun p hp => by
            obtain ⟨r, hr, rfl⟩ := List.mem_map.1 hp
            exact ⟨hLl r (List.mem_of_mem_take hr), hzlt⟩)
          have hlenA := fun j => eachF_lenT (rop and) (R.1, 0) ((l.take j).map fun r => (r, neg z))
          have HF2 := Lib.hid hf; clear hf
          have HLOKA := Lib.hid hlokA; clear hlokA
          have HLENA := Lib.hid hlenA; clear hlenA
          have HZLT := Lib.hid hzlt; clear hzlt
          have HLL2 := Lib.hid hLl; clear hLl hRl HF hzz hRR
          go_wp2_with fail
          go_loopw [11, 72] (fun e i wr => ∃ (j : Nat) (Gq : Gra) (mm F2 : List Nat), j ≤ n ∧ i = .int .i64 j ∧ e = .int .i64 (0 : Nat) ∧ eachF (rop and) (R.1, 0) ((l.take j).map fun r => (r, neg z)) = ((Gq, 0), mm) ∧ E8 w g F wr b n vc Gq (mm ++ l.drop j) F2) (fun _ i _ => n - (intOf i).toNat)
          case atStart => exact ⟨0, R.1, [], F1, by omega, rfl, by simp, rfl, HE0.out⟩
          case round =>
            obtain ⟨j, Gq, mm, F2, hj, rfl, rfl, heq, hE⟩ := hrel
            have hlj := HLOKA.out j
            have hlnj := HLENA.out j
            rw [heq] at hlj hlnj
            simp only [List.length_map, List.length_take] at hlnj
            have hmm : mm.length = j := by rw [hlnj]; have := HLL.out; omega
            by_cases hjn : j < n
            · obtain ⟨a, ha⟩ : ∃ a, l[j]? = some a := ⟨_, List.getElem?_eq_getElem (by rw [HLL.out]; exact hjn)⟩
              have hat : (mm ++ l.drop j)[j]? = some a := by
                rw [List.getElem?_append_right (by omega), hmm, Nat.sub_self, List.getElem?_drop, Nat.add_zero, ha]
              obtain ⟨c0, c1⟩ := hE.at hat (by omega)
              have halt := hlj.s.ext.lt (HLL2.out a (List.mem_of_getElem? ha))
              have hzl := hlj.s.ext.lt HZLT.out
              have hAnd := And_r hE.gin halt hzl
              have hfa := and_full hlj.s.ok halt hzl
              have hsn : (l.take (j + 1)).map (fun r => (r, neg z)) = (l.take j).map (fun r => (r, neg z)) ++ [(a, neg z)] := by rw [List.take_add_one, ha]; simp
              have hnx := eachF_snoc (rop and) (R.1, 0) ((l.take j).map fun r => (r, neg z)) (a, neg z)
              rw [heq, ← hsn] at hnx
              have hset : ∀ r, (mm ++ l.drop j).set j r = (mm ++ [r]) ++ l.drop (j + 1) := fun r => by
                rw [List.set_append_right _ _ (by omega), hmm, Nat.sub_self]
                have hd : l.drop j = a :: l.drop (j + 1) := by
                  have hlt := (List.getElem?_eq_some_iff.1 ha).1
                  rw [List.drop_eq_getElem_cons hlt]
                  congr 1
                  exact (List.getElem?_eq_some_iff.1 ha).2
                rw [hd, List.set_cons_zero, List.append_assoc]
                rfl
              obtain ⟨Q, hQ⟩ : ∃ Q, Q = and Gq a (neg z) := ⟨_, rfl⟩
              have hopq : rop and (Gq, 0) a (neg z) = rstep (Gq, 0) Q := by rw [hQ]; rfl
              rw [← hQ] at hAnd hfa
              have HAND := Lib.hid hAnd; clear hAnd
              have HFA := Lib.hid hfa; clear hfa
              have HNX := Lib.hid hnx; clear hnx
              have HSET := Lib.hid hset; clear hset
              have HE := Lib.hid hE; clear hE
              have HEQ := Lib.hid heq; clear heq
              have HOPQ := Lib.hid hopq; clear hopq
              have HLJ := Lib.hid hlj; clear hlj
              have HSN := Lib.hid hsn; clear hsn
              clear hat halt hzl hQ hlnj hmm HE0
              go_wp2_with fail
              refine (HNOT.out _).mono ?_
              rintro e w5 ⟨rfl, rfl⟩
              go_wp2_with fail
              refine HAND.out.mono ?_
              rintro e w6 ⟨rfl, hto⟩
              obtain ⟨F3, hE3⟩ := HE.out.to hto
              obtain ⟨d0, d1⟩ := hE3.at (show (mm ++ l.drop j)[j]? = some a by
                have := congrArg List.length (congrArg Prod.snd HEQ.out)
                rw [HLENA.out j] at this
                simp only [List.length_map, List.length_take] at this
                rw [List.getElem?_append_right (by have := HLL.out; omega), show j - mm.length = 0 by have := HLL.out; omega, List.getElem?_drop, Nat.add_zero, ha]) (by omega)
              have hE4 := hE3.put j Q.2.1
              rw [HSET.out] at hE4
              have HE4 := Lib.hid hE4; clear hE4 hto hE3
              by_cases hq2 : Q.2.2 = 0
              · have hz2 : ((Q.2.2 : Int) != 0) = false := by rw [hq2]; rfl
                have hnx := HNX.out
                unfold eachS at hnx
                simp only [HOPQ.out, rstep_ok (s := (Gq, 0)) rfl hq2] at hnx
                have HNX2 := Lib.hid hnx; clear hnx
                have HQ2 := Lib.hid hq2; clear hq2
                clear ha
                go_wp2_with fail
                go_roundw
                case rel => exact ⟨j + 1, Q.1, mm ++ [Q.2.1], F3, by omega, by go_num, by rw [HQ2.out], HNX2.out, HE4.out⟩
                case measure => simp [intOf]; omega
              · have hQ := HFA.out.keep hq2
                subst hQ
                have hnx := HNX.out
                unfold eachS at hnx
                simp only [HOPQ.out, rstep_no (s := (Gq, 0)) rfl hq2] at hnx
                have hb2 := eachF_bad and (R.1, 0) ((l.take (j + 1)).map fun r => (r, neg z)) ((l.drop (j + 1)).map fun r => (r, neg z)) (by rw [hnx]; simp)
                rw [← List.map_append, List.take_append_drop, hnx] at hb2
                have hf := HF2.out
                have hfin : Step5 G (moveF side (G, 0) X Y) Gq [] 201 := by
                  rw [hf]
                  refine ⟨fun h0 => ?_, fun _ => ⟨rfl, ?_⟩, .inr ?_, (HEXT.out.trans HFU.out.ok.ext).trans HLJ.out.s.ext, HLJ.out.s.ok⟩
                  · rw [hb2] at h0; cases h0
                  · rw [hb2]
                  · rw [hb2]
                have HFIN := Lib.hid hfin
                clear hfin hf hb2 hnx hq2 ha
                go_wp2_with fail
                rw [Exit.noGoto_ret]
                go_ret2
                exact ⟨_, _, _, _, rfl, HFIN.out, HE4.out.bad⟩
            · have hjn2 : j = n := by omega
              have hall : l.take j = l := List.take_of_length_le (by have := HLL.out; omega)
              have hdr : l.drop j = [] := List.drop_eq_nil_of_le (by have := HLL.out; omega)
              rw [hall] at heq
              rw [hdr, List.append_nil] at hE
              have hf := HF2.out
              rw [heq] at hf
              have hfin : Step5 G (moveF side (G, 0) X Y) Gq mm 0 := by
                rw [hf]; exact ⟨fun _ => ⟨rfl, rfl, rfl⟩, fun h0 => absurd rfl h0, .inl rfl, (HEXT.out.trans HFU.out.ok.ext).trans hlj.s.ext, hlj.s.ok⟩
              have HFIN := Lib.hid hfin
              have HDONE := Lib.hid (hE.done (by omega))
              clear hfin hf hE heq hall hdr hlj hlnj HE0
              go_wp2_with fail
              rw [Exit.noGoto_ret]
              go_ret2
              exact ⟨_, _, _, _, rfl, HFIN.out, HDONE.out⟩
        · have hQ := HFU.out.keep hq
          subst hQ
          have hf := HF.out
          rw [rstep_no (s := (Gp, 0)) rfl hq] at hf
          have hb2 := eachF_bad' and (s := (Gp, 201)) (by simp) (l.map fun r => (r, neg 0))
          have hfin : Step5 G (moveF side (G, 0) X Y) Gp [] 201 := by
            rw [hf]
            refine ⟨fun h0 => ?_, fun _ => ⟨rfl, ?_⟩, .inr ?_, HEXT.out, HOP.out⟩
            · rw [hb2] at h0; cases h0
            · rw [hb2]
            · rw [hb2]
          have HFIN := Lib.hid hfin
          clear hfin hf hb2 hq
          go_wp2_with fail
          rw [Exit.noGoto_ret]
          go_ret2
          exact ⟨_, _, _, _, rfl, HFIN.out, HE0.out.bad⟩
end
end Go.Proofs.Ytnmfdiiehkkjcaa
namespace Go.Proofs.Ytnmfdiiehkkjcaa
open Go.RowKit Go.Mem Go.Aig
section
variable {w : World} {g : Nat} {G : Gra} {F : List Nat}
theorem fnvBy1 : Fnv 132 := fnv_of Try.func132 (by simp [Try.f132]) (by simp [Try.f132])
set_option maxRecDepth 100000 in
set_option maxHeartbeats 1000000 in
theorem By1_is (h : GIn w g G F) {bx : Nat} (hb : w.cell? ⟨bx, 0, none⟩ = some (.pointer (some ⟨g, 0, none⟩))) (r : Int) (hr : r ≤ 9223372036854775807) :
    Calls Try.prog 132 (#[.int .i64 r] ++ #[.pointer (some ⟨bx, 0, none⟩)]) w fun e w' => e = .returned (.bool (!right G.nodes r)) ∧ w = w' := by
  show Calls Try.prog 132 #[.int .i64 r, .pointer (some ⟨bx, 0, none⟩)] w _
  have HR := Right_g h r hr
  clear h
  generalize right G.nodes r = q at *
  go_enter Try.func132, Try.ntmps132
  go_wp2_with fail
  refine HR.mono ?_
  rintro e w' ⟨rfl, rfl⟩
  go_wp2_with fail
  go_ret
  exact ⟨ret_bool rfl, rfl⟩
theorem byG_bad {side : Nat} {x y : List Int} {e : Nat} (h : chkBy G side x y = e) (he : e ≠ 0) : byG G side x y = (G, [], e) := by unfold byG; rw [h, if_pos he]
theorem byG_ok {side : Nat} {x y : List Int} (h : chkBy G side x y = 0) : byG G side x y = wres G (moveF side (G, 0) (nats x) (nats y)) := by unfold byG; rw [h, if_neg (by simp)]
set_option maxRecDepth 100000 in
set_option maxHeartbeats 4000000 in
theorem By_is (h : GIn w g G F) (side : Nat) {xa ya : Option Addr} {xl yl : List Int} {xc yc n m : Nat} (hx : WVin w F ⟨xa, xl, xc⟩) (hy : WVin w F ⟨ya, yl, yc⟩) (hn : xl.length = n) (hm : yl.length = m) (hyc : m ≤ yc) :
    Calls Try.prog 71 #[.pointer (some ⟨g, 0, none⟩), .int .u8 side, .slice xa n xc, .slice ya m yc] w fun e w' => ∃ v, e = .returned (.tuple #[v, .int .i64 (byG G side xl yl).2.2]) ∧ GVo w g (byG G side xl yl).1 [] F v (byG G side xl yl).2.1 w' := by
  have hok := h.ok
  have hpos := hok.wf.pos
  have hroom := hok.room
  have hmost := hok.most
  have hl := h.lt
  have hp0 : ((G.nodes.length : Int) == 0) = false := beqN (by omega)
  have hbad := fun e he => @byG_bad G side xl yl e he
  have hgood := @byG_ok G side xl yl
  have hck : chkBy G side xl yl = if side ≠ 1 ∧ side ≠ 2 then 251 else if rightB n = false ∨ rightB m = false then 250 else if badIn G xl = true ∨ badIn G yl = true then 200 else 0 := by unfold chkBy; rw [hn, hm]
  generalize hWW : byG G side xl yl = WW at *
  have HCK := Lib.hid hck; clear hck
  have HBAD := Lib.hid hbad; clear hbad
  have HGOOD := Lib.hid hgood; clear hgood
  have HWW := Lib.hid hWW; clear hWW
  have HOK := Lib.hid hok; clear hok
  have HL := Lib.hid hl; clear hl
  have H := Lib.hid h; clear h
  have HX := Lib.hid hx; clear hx
  have HY := Lib.hid hy; clear hy
  have HN := Lib.hid hn; clear hn
  have HM := Lib.hid hm; clear hm
  go_enter Try.func71, Try.ntmps71
  go_wp2_with fail
  refine moves25_is.mono ?_
  rintro e w1 ⟨mb, rfl, hum, hc1⟩
  have hc : Ch [] w w1 := ((Ch.refl [] w).alloc _).trans hc1 (by simp)
  have b1 : w1.cell? ⟨w.heap.size, 0, none⟩ = some (.pointer (some ⟨g, 0, none⟩)) := (hc1.cell (p := ⟨w.heap.size, 0, none⟩) (by simp) (by simp)).trans (by go_simp)
  have h1 := H.out.same hc (by simp)
  have hx1 := HX.out.ch hc
  have hy1 := HY.out.ch hc
  have hLen := Len_g h1
  have hR1 := right25_is (w := w1) n
  have hR2 := right25_is (w := w1) m
  have hC1 := CFref_is xc 132 #[.pointer (some ⟨w.heap.size, 0, none⟩)] (fun r => !right G.nodes r) hx1.ok.sl (fun r hr => By1_is h1 b1 r (hx1.ok.bd r hr).2) fnvBy1
  have hC2 := CFref_is yc 132 #[.pointer (some ⟨w.heap.size, 0, none⟩)] (fun r => !right G.nodes r) hy1.ok.sl (fun r hr => By1_is h1 b1 r (hy1.ok.bd r hr).2) fnvBy1
  simp only [HN.out, HM.out] at hC1 hC2
  rw [show xl.any (fun r => !right G.nodes r) = badIn G xl from rfl] at hC1
  rw [show yl.any (fun r => !right G.nodes r) = badIn G yl from rfl] at hC2
  have HC1 := Lib.hid hC1; clear hC1
  have HC2 := Lib.hid hC2; clear hC2
  have HR1 := Lib.hid hR1; clear hR1
  have HR2 := Lib.hid hR2; clear hR2
  have HLEN := Lib.hid hLen; clear hLen
  have HC := Lib.hid hc; clear hc hc1
  have H1 := Lib.hid h1; clear h1
  have HX1 := Lib.hid hx1; clear hx1
  have HY1 := Lib.hid hy1; clear hy1
  have hend : ∀ e, e ≠ 0 → chkBy G side xl yl = e → WW = (G, [], e) := fun e h1 h2 => HBAD.out e h2 h1
  have hnil : GVo w g G [] F (.slice none 0 0) [] w1 := GVo.nil (F' := F) H1.out (HC.out.mono (by simp)) (fun k hk => .inl hk) rfl
  have HNIL := Lib.hid hnil; clear hnil
  have HEND := Lib.hid hend; clear hend
  by_cases hs : side = 1 ∨ side = 2
  · have h7 := (sides_at hum hs).2
    generalize (if side = 1 then 190 else 191) = fid at h7
    have hck := HCK.out
    rw [if_neg (by omega)] at hck
    have HUM := Lib.hid hum; clear hum
    go_wp2_with fail
    refine HLEN.out.mono ?_
    rintro e w' ⟨rfl, rfl⟩
    go_wp2_with fail
    cases hr : rightB n
    · rw [if_pos (.inl hr)] at hck
      have hww := HEND.out 250 (by omega) hck
      have hR1 := HR1.out
      rw [hr] at hR1
      subst hww
      clear hck hr
      refine hR1.mono ?_
      rintro e w' ⟨rfl, rfl⟩
      go_wp2_with fail
      go_ret2
      exact ⟨_, rfl, HNIL.out⟩
    · have hR1 := HR1.out
      rw [hr] at hR1
      refine hR1.mono ?_
      rintro e w' ⟨rfl, rfl⟩
      clear hR1
      cases hr2 : rightB m
      · rw [if_pos (.inr hr2)] at hck
        have hww := HEND.out 250 (by omega) hck
        have hR2 := HR2.out
        rw [hr2] at hR2
        subst hww
        clear hck hr hr2
        go_wp2_with fail
        refine hR2.mono ?_
        rintro e w' ⟨rfl, rfl⟩
        go_wp2_with fail
        go_ret2
        exact ⟨_, rfl, HNIL.out⟩
      · rw [if_neg (by rw [hr, hr2]; simp)] at hck
        have hR2 := HR2.out
        rw [hr2] at hR2
        go_wp2_with fail
        refine hR2.mono ?_
        rintro e w' ⟨rfl, rfl⟩
        clear hR2
        cases hb : badIn G xl
        · have hC1 := HC1.out
          rw [hb] at hC1
          cases hb2 : badIn G yl
          · have hC2 := HC2.out
            rw [hb2] at hC2
            rw [if_neg (by rw [hb, hb2]; simp)] at hck
            have hww := HGOOD.out hck
            unfold rightB at hr hr2
            simp only [Bool.and_eq_true, decide_eq_true_eq] at hr hr2
            have hmv := move25_is H1.out hs HX1.out HY1.out HN.out HM.out (by omega) (by omega) (by omega) (by omega) hyc hb hb2
            have HMV := Lib.hid hmv; clear hmv
            have HWE := Lib.hid hww; clear hww
            clear hck hr hr2 hb hb2
            go_wp2_with fail
            refine hC1.mono ?_
            rintro e w' ⟨rfl, rfl⟩
            go_wp2_with fail
            refine hC2.mono ?_
            rintro e w' ⟨rfl, rfl⟩
            go_wp2_with fail
            refine HLEN.out.mono ?_
            rintro e w' ⟨rfl, rfl⟩
            go_wp2_with fail
            refine HMV.out.mono ?_
            rintro e w2 ⟨v, G1, l1, e1, rfl, hst, hv⟩
            have b2 : w2.cell? ⟨w.heap.size, 0, none⟩ = some (.pointer (some ⟨g, 0, none⟩)) := by
              obtain ⟨_, _, hch, _⟩ := hv
              exact (hch.cell (p := ⟨w.heap.size, 0, none⟩) (cell_lt b1) (by simp only [List.nil_append]; exact fun hk => by have := HL.out _ hk; omega)).trans b1
            obtain ⟨R, hR⟩ : ∃ R, R = moveF side (G, 0) (nats xl) (nats yl) := ⟨_, rfl⟩
            rw [← hR] at hst
            have hwe := HWE.out
            rw [← hR] at hwe
            have hsz1 := cell_lt b1
            simp only at hsz1
            clear hC1 hC2 b1 h7
            by_cases hz : R.1.2 = 0
            · obtain ⟨rfl, rfl, rfl⟩ := hst.yes hz
              have hw : wres G R = (R.1.1, R.2, 0) := by unfold wres; rw [if_neg (by simp [hz])]
              rw [hw] at hwe
              subst hwe
              have hv2 := GVo.since HC.out hv
              obtain ⟨va, vc, rfl⟩ := (show ∃ a c, v = .slice a R.2.length c from by obtain ⟨_, _, _, _, _, h5, _⟩ := hv; exact row.shape h5)
              have HV2 := Lib.hid hv2; clear hv2 hv hw hz hst hR
              go_wp2_with fail
              go_ret2
              exact ⟨_, rfl, HV2.out⟩
            · obtain ⟨rfl, he1⟩ := hst.no hz
              have h201 : e1 = 201 := by have := hst.err; omega
              subst h201
              have hw : wres G R = (G, [], 201) := by unfold wres; rw [if_pos hz, ← he1]
              rw [hw] at hwe
              subst hwe
              obtain ⟨F', k1, k2, k3, k4, k5, _⟩ := hv
              obtain ⟨va, vc, rfl⟩ := row.shape k5
              have hcut := Cut_g k1 G.nodes.length (by omega) (by omega)
              rw [doCut_back HOK.out hst.ext] at hcut
              have K2 := Lib.hid k2; clear k2
              have K3 := Lib.hid k3; clear k3
              have HCUT := Lib.hid hcut; clear hcut
              have hbF : w.heap.size ∉ F' := fun hk => (K3.out _ hk).elim (fun e => by have := HL.out _ e; omega) (fun e => by omega)
              have HBF := Lib.hid hbF; clear hbF
              clear hw hz hst hR k1 k5 he1
              go_wp2_with fail
              refine HCUT.out.mono ?_
              rintro e w4 ⟨rfl, F4, hg4, hc4, hF4, hF42⟩
              have hlast : GVo w g G [] F (.slice none 0 0) [] w4 := GVo.nil (F' := F4) hg4 ((HC.out.mono (by simp)).trans (K2.out.trans hc4 (fun k hk => by simpa using K3.out k hk)) (fun k hk => .inl hk)) (fun k hk => (hF4 k hk).elim (fun e => (K3.out k e).imp id (fun e => Nat.le_trans HC.out.size e)) (fun e => .inr (by have := HC.out.size; have := K2.out.size; omega))) (hF42.trans k4)
              have HLAST := Lib.hid hlast; clear hlast hg4 hc4 hF4 hF42
              go_wp2_with fail
              go_ret2
              exact ⟨_, rfl, HLAST.out⟩
          · have hC2 := HC2.out
            rw [hb2] at hC2
            rw [if_pos (.inr hb2)] at hck
            have hww := HEND.out 200 (by omega) hck
            subst hww
            clear hck hr hr2 hb hb2
            go_wp2_with fail
            refine hC1.mono ?_
            rintro e w' ⟨rfl, rfl⟩
            go_wp2_with fail
            refine hC2.mono ?_
            rintro e w' ⟨rfl, rfl⟩
            go_wp2_with fail
            go_ret2
            exact ⟨_, rfl, HNIL.out⟩
        · have hC1 := HC1.out
          rw [hb] at hC1
          rw [if_pos (.inl hb)] at hck
          have hww := HEND.out 200 (by omega) hck
          subst hww
          clear hck hr hr2 hb
          go_wp2_with fail
          refine hC1.mono ?_
          rintro e w' ⟨rfl, rfl⟩
          go_wp2_with fail
          go_ret2
          exact ⟨_, rfl, HNIL.out⟩
  · have h7 := (sides_no hum (side := side) (by omega)).2
    have hck := HCK.out
    rw [if_pos (by omega)] at hck
    have hww := HEND.out 251 (by omega) hck
    subst hww
    have HUM := Lib.hid hum; clear hum hck
    go_wp2_with fail
    refine HLEN.out.mono ?_
    rintro e w' ⟨rfl, rfl⟩
    go_wp2_with fail
    go_ret2
    exact ⟨_, rfl, HNIL.out⟩
set_option maxRecDepth 100000 in
set_option maxHeartbeats 1000000 in
theorem Shl_is (h : GIn w g G F) {xa ya : Option Addr} {xl yl : List Int} {xc yc n m : Nat} (hx : WVin w F ⟨xa, xl, xc⟩) (hy : WVin w F ⟨ya, yl, yc⟩) (hn : xl.length = n) (hm : yl.length = m) (hyc : m ≤ yc) :
    Calls Try.prog 62 #[.pointer (some ⟨g, 0, none⟩), .slice xa n xc, .slice ya m yc] w fun e w' => ∃ v, e = .returned (.tuple #[v, .int .i64 (byG G 1 xl yl).2.2]) ∧ GVo w g (byG G 1 xl yl).1 [] F v (byG G 1 xl yl).2.1 w' := by
  have hB := By_is h 1 hx hy hn hm hyc
  generalize byG G 1 xl yl = WW at *
  clear h hx hy hn hm
  have HB := Lib.hid hB; clear hB
  go_enter Try.func62, Try.ntmps62
  go_wp2_with fail
  refine HB.out.mono ?_
  rintro e w2 ⟨v, rfl, hv⟩
  obtain ⟨va, vc, rfl⟩ := (show ∃ a c, v = .slice a WW.2.1.length c from by obtain ⟨_, _, _, _, _, h5, _⟩ := hv; exact row.shape h5)
  have HV := Lib.hid hv; clear hv
  go_wp2_with fail
  go_ret2
  exact ⟨_, rfl, HV.out⟩
set_option maxRecDepth 100000 in
set_option maxHeartbeats 1000000 in
theorem Shr_is (h : GIn w g G F) {xa ya : Option Addr} {xl yl : List Int} {xc yc n m : Nat} (hx : WVin w F ⟨xa, xl, xc⟩) (hy : WVin w F ⟨ya, yl, yc⟩) (hn : xl.length = n) (hm : yl.length = m) (hyc : m ≤ yc) :
    Calls Try.prog 63 #[.pointer (some ⟨g, 0, none⟩), .slice xa n xc, .slice ya m yc] w fun e w' => ∃ v, e = .returned (.tuple #[v, .int .i64 (byG G 2 xl yl).2.2]) ∧ GVo w g (byG G 2 xl yl).1 [] F v (byG G 2 xl yl).2.1 w' := by
  have hB := By_is h 2 hx hy hn hm hyc
  generalize byG G 2 xl yl = WW at *
  clear h hx hy hn hm
  have HB := Lib.hid hB; clear hB
  go_enter Try.func63, Try.ntmps63
  go_wp2_with fail
  refine HB.out.mono ?_
  rintro e w2 ⟨v, rfl, hv⟩
  obtain ⟨va, vc, rfl⟩ := (show ∃ a c, v = .slice a WW.2.1.length c from by obtain ⟨_, _, _, _, _, h5, _⟩ := hv; exact row.shape h5)
  have HV := Lib.hid hv; clear hv
  go_wp2_with fail
  go_ret2
  exact ⟨_, rfl, HV.out⟩
end
end Go.Proofs.Ytnmfdiiehkkjcaa
namespace Go.Proofs.Ytnmfdiiehkkjcaa
open Go.RowKit Go.Mem Go.Aig
section
variable {w0 : Base} {w : World} {g : Nat} {G : Gra} {F : List Nat} {L : List (Value × List Int)}
theorem By_h (h : Hold w0 w g G F L) (side : Nat) {xa ya : Option Addr} {xl yl : List Int} {n m xc yc : Nat} (hx : (.slice xa n xc, xl) ∈ L) (hxn : xl.length = n) (hy : (.slice ya m yc, yl) ∈ L) (hym : yl.length = m) {G' : Gra} {l : List Nat} {e k : Nat} (hR : byG G side xl yl = (G', l, e)) (hk : l.length = k) (hb : ∀ r ∈ l, r ≤ 1000000) (hl : k ≤ 1000000) :
    Calls Try.prog 71 #[.pointer (some ⟨g, 0, none⟩), .int .u8 side, .slice xa n xc, .slice ya m yc] w fun en w' => ∃ a c F', en = .returned (.tuple #[.slice a k c, .int .i64 e]) ∧ Hold w0 w' g G' F' ((.slice a k c, natInts l) :: L) := by
  have hc := By_is h.own.gin side (h.at hx hxn) (h.at hy hym) hxn hym (h.held _ hy).cap
  exact Calls.word h hc hR hk hb hl
theorem Shl_h (h : Hold w0 w g G F L) {xa ya : Option Addr} {xl yl : List Int} {n m xc yc : Nat} (hx : (.slice xa n xc, xl) ∈ L) (hxn : xl.length = n) (hy : (.slice ya m yc, yl) ∈ L) (hym : yl.length = m) {G' : Gra} {l : List Nat} {e k : Nat} (hR : byG G 1 xl yl = (G', l, e)) (hk : l.length = k) (hb : ∀ r ∈ l, r ≤ 1000000) (hl : k ≤ 1000000) :
    Calls Try.prog 62 #[.pointer (some ⟨g, 0, none⟩), .slice xa n xc, .slice ya m yc] w fun en w' => ∃ a c F', en = .returned (.tuple #[.slice a k c, .int .i64 e]) ∧ Hold w0 w' g G' F' ((.slice a k c, natInts l) :: L) := by
  have hc := Shl_is h.own.gin (h.at hx hxn) (h.at hy hym) hxn hym (h.held _ hy).cap
  exact Calls.word h hc hR hk hb hl
theorem Shr_h (h : Hold w0 w g G F L) {xa ya : Option Addr} {xl yl : List Int} {n m xc yc : Nat} (hx : (.slice xa n xc, xl) ∈ L) (hxn : xl.length = n) (hy : (.slice ya m yc, yl) ∈ L) (hym : yl.length = m) {G' : Gra} {l : List Nat} {e k : Nat} (hR : byG G 2 xl yl = (G', l, e)) (hk : l.length = k) (hb : ∀ r ∈ l, r ≤ 1000000) (hl : k ≤ 1000000) :
    Calls Try.prog 63 #[.pointer (some ⟨g, 0, none⟩), .slice xa n xc, .slice ya m yc] w fun en w' => ∃ a c F', en = .returned (.tuple #[.slice a k c, .int .i64 e]) ∧ Hold w0 w' g G' F' ((.slice a k c, natInts l) :: L) := by
  have hc := Shr_is h.own.gin (h.at hx hxn) (h.at hy hym) hxn hym (h.held _ hy).cap
  exact Calls.word h hc hR hk hb hl
theorem Fixed_h (h : Hold w0 w g G F L) (side : Nat) {xa : Option Addr} {xl : List Int} {n xc : Nat} (hx : (.slice xa n xc, xl) ∈ L) (hxn : xl.length = n) (z : Int) {l : List Int} {e k : Nat} (hE : fixE side xl z = e) (hR : (if e = 0 then shL side xl (min z.toNat xl.length) else []) = l) (hk : l.length = k) :
    Calls Try.prog 124 #[.int .u8 side, .slice xa n xc, .int .i64 z] w fun en w' => ∃ a c, en = .returned (.tuple #[.slice a k c, .int .i64 e]) ∧ Hold w0 w' g G F ((.slice a k c, l) :: L) := by
  have hi := (h.at hx hxn).ok
  have hc := Fixed_is (side := side) xc z hi.sl hi.len
  simp only [hE, hR] at hc
  rw [hxn] at hc
  refine Calls.wnew h hc hk ?_ ?_
  · subst hR
    split
    · exact shL_bd hi.bd
    · simp
  · subst hR
    rw [← hk]
    split
    · rw [shL_len]; exact hi.len
    · simp
theorem Fixed_n (side : Nat) (z : Int) {e : Nat} (hE : fixE side [] z = e) (he : e ≠ 0) :
    Calls Try.prog 124 #[.int .u8 side, .slice none 0 0, .int .i64 z] w fun en w' => ∃ v, en = .returned (.tuple #[v, .int .i64 e]) ∧ Ch [] w w' := by
  have hc := Fixed_is (w := w) (side := side) (xa := none) (xl := []) 0 z ⟨fun i x hx => (by simp at hx), by simp⟩ (by simp)
  simp only [hE, if_neg he] at hc
  refine hc.mono ?_
  rintro en w' ⟨v, rfl, hv⟩
  exact ⟨v, rfl, hv.2.2⟩
theorem Turn_h (h : Hold w0 w g G F L) {xa : Option Addr} {xl : List Int} {n xc : Nat} (hx : (.slice xa n xc, xl) ∈ L) (hxn : xl.length = n) (z : Int) (hz : -9223372036854775808 ≤ z ∧ z ≤ 9223372036854775807) (hr : rightB n = true) {l : List Int} (hR : turnL xl z = l) :
    Calls Try.prog 125 #[.slice xa n xc, .int .i64 z] w fun en w' => ∃ a c, en = .returned (.tuple #[.slice a n c, .int .i64 0]) ∧ Hold w0 w' g G F ((.slice a n c, l) :: L) := by
  have hi := (h.at hx hxn).ok
  have hcap := (h.held _ hx).cap
  have hc := Turn_yes xc z hi.sl (by rw [hxn]; exact hcap) (by rw [hxn]; exact hr) hz
  rw [hR, hxn] at hc
  subst hR
  refine Calls.wnew (e := 0) h hc (by rw [turnL_len, hxn]) (fun r hr => hi.bd r ((turnL_perm xl z).mem_iff.1 hr)) (by rw [← hxn]; exact hi.len)
end
end Go.Proofs.Ytnmfdiiehkkjcaa
namespace Go.Proofs.Ytnmfdiiehkkjcaa
open Go.RowKit Go.Mem Go.Aig
set_option maxRecDepth 100000 in
set_option maxHeartbeats 4000000 in
theorem two25_is (w : World) (wd vd : Nat) (hw : wd ≤ 255) (hv : vd ≤ 255) : Calls Try.prog 61 #[.int .u8 wd, .int .u8 vd] w fun e w' => ∃ g F xa xc ya yc, e = .returned (.tuple #[.pointer (some ⟨g, 0, none⟩), .slice xa (wd % 9 + 1) xc, .slice ya (vd % 5 + 1) yc]) ∧
    Hold w w' g (gIn 4000 (wd % 9 + 1 + (vd % 5 + 1))) F [(.slice ya (vd % 5 + 1) yc, natInts (rIn (wd % 9 + 1) (vd % 5 + 1))), (.slice xa (wd % 9 + 1) xc, natInts (rIn 0 (wd % 9 + 1)))] := by
  obtain ⟨n, hn, hn9⟩ : ∃ n, wd % 9 + 1 = n ∧ n ≤ 9 := ⟨_, rfl, by omega⟩
  have hn1 : 1 ≤ n := by omega
  obtain ⟨m, hm, hm5⟩ : ∃ m, vd % 5 + 1 = m ∧ m ≤ 5 := ⟨_, rfl, by omega⟩
  have hm1 : 1 ≤ m := by omega
  rw [hn, hm]
  have hq : 1 + (wd : Int) % 9 = n := by omega
  have hq2 : 1 + (vd : Int) % 5 = m := by omega
  have hN := New_h (w := w) 4000 (by decide) (by decide)
  have HN := Lib.hid hN; clear hN
  clear hn hm
  go_enter Try.func61, Try.ntmps61
  go_wp2_with fail
  refine HN.out.mono ?_
  rintro e w1 ⟨g, F1, rfl, ho⟩
  have HO := Lib.hid ho; clear ho HN
  go_wp2_with fail
  refine (sInput_h HO.out n (G' := gIn 4000 n) (l := rIn 0 n) (e := 0) (k := n) (by have := inG_gIn (most := 4000) (s := 0) hn1 (by omega) (by omega); rw [Nat.zero_add] at this; exact this) (by simp) (fun r hr => by have := rIn_le hr; omega) (by omega)).mono ?_
  rintro e w2 ⟨xa, xc, F2, rfl, ho⟩
  clear HO; have HO := Lib.hid ho; clear ho
  go_wp2_with fail
  refine (sInput_h HO.out m (G' := gIn 4000 (n + m)) (l := rIn n m) (e := 0) (k := m) (inG_gIn (most := 4000) (s := n) hm1 (by omega) (by omega)) (by simp) (fun r hr => by have := rIn_le hr; omega) (by omega)).mono ?_
  rintro e w3 ⟨ya, yc, F3, rfl, ho⟩
  clear HO; have HO := Lib.hid ho; clear ho
  go_wp2_with fail
  go_ret3
  exact ⟨g, F3, xa, xc, ya, yc, rfl, HO.out⟩
end Go.Proofs.Ytnmfdiiehkkjcaa
namespace Go.Proofs.Ytnmfdiiehkkjcaa
open Go.RowKit Go.Mem Go.Aig
/-- words that are held, with no graph -/
structure Keeps (w0 w : World) (L : List (Value × List Int)) : Prop where
  ch : Ch [] w0 w
  held : ∀ p ∈ L, Held w0 w [] p.1 p.2
section
variable {w0 w : World} {L : List (Value × List Int)}
theorem Keeps.start (w : World) : Keeps w w [] := ⟨Ch.refl _ _, by simp⟩
theorem Keeps.same {w' : World} (h : Keeps w0 w L) (hc : Ch [] w w') : Keeps w0 w' L := ⟨h.ch.trans hc (by simp), fun p hp => (h.held p hp).keep hc (fun _ hk => by cases hk)⟩
theorem Keeps.new {w' : World} {v : Value} {l : List Int} (h : Keeps w0 w L) (ht : WNew w v (intCells l) w') (hb : ∀ r ∈ l, -9223372036854775808 ≤ r ∧ r ≤ 9223372036854775807) (hl : l.length ≤ 1000000) : ∃ a c, v = .slice a l.length c ∧ Keeps w0 w' ((.slice a l.length c, l) :: L) := by
  obtain ⟨h5, h6, h2⟩ := ht
  have e : (intCells l).length = l.length := by simp [intCells]
  rw [e] at h5
  obtain ⟨a, c, rfl⟩ := row.shape h5
  refine ⟨a, c, rfl, (h.same h2).ch, fun p hp => ?_⟩
  rcases List.mem_cons.1 hp with rfl | hp
  · exact ⟨h5, hl, hb, fun k hk => ⟨Nat.le_trans h.ch.size (h6 k (by simpa using hk)), by simp⟩⟩
  · exact (h.same h2).held p hp
theorem Keeps.fresh (h : Keeps w0 w L) {l : List Int} {n : Nat} (hn : l.length = n) (hb : ∀ r ∈ l, -9223372036854775808 ≤ r ∧ r ≤ 9223372036854775807) (hl : n ≤ 1000000) :
    Keeps w0 (w.alloc (.cells (intCells l).toArray 29)) ((.slice (some ⟨w.heap.size, 0, none⟩) n n, l) :: L) := by
  have hx : (w.alloc (.cells (intCells l).toArray 29)).heap[w.heap.size]? = some (.cells (intCells l).toArray 29 (0, 0)) := heap_alloc_new w _
  have hs := h.same ((Ch.refl [] w).alloc (.cells (intCells l).toArray 29))
  subst hn
  refine ⟨hs.ch, fun p hp => ?_⟩
  rcases List.mem_cons.1 hp with rfl | hp
  · refine ⟨⟨by simp [intCells], .inr ⟨w.heap.size, l.length, (intCells l).toArray, rfl, by simp, hx, Nat.le_refl _, by unfold maxLen; omega, by simp [intCells], by rw [Nat.mul_one]; exact List.take_of_length_le (by simp [intCells])⟩⟩, hl, hb, fun k hk => ?_⟩
    simp at hk; subst hk
    exact ⟨h.ch.size, by simp⟩
  · exact hs.held p hp
theorem Keeps.at (h : Keeps w0 w L) {a : Option Addr} {n c : Nat} {l : List Int} (hp : (.slice a n c, l) ∈ L) (hn : l.length = n) : WVin w [] ⟨a, l, c⟩ := (h.held _ hp).in hn
theorem Keeps.sl (h : Keeps w0 w L) {a : Option Addr} {n c : Nat} {l : List Int} (hp : (.slice a n c, l) ∈ L) (hn : l.length = n) : Sl w a l := (h.at hp hn).ok.sl
theorem Keeps.nil (h : Keeps w0 w L) : Keeps w0 w ((.slice none 0 0, []) :: L) := ⟨h.ch, fun p hp => by
  rcases List.mem_cons.1 hp with rfl | hp
  · exact ⟨⟨rfl, .inl ⟨rfl, rfl⟩⟩, by simp, by simp, fun k hk => by simp at hk⟩
  · exact h.held p hp⟩
theorem Keeps.sub {L' : List (Value × List Int)} (h : Keeps w0 w L) (hs : ∀ p ∈ L', p ∈ L) : Keeps w0 w L' := ⟨h.ch, fun q hq => h.held q (hs q hq)⟩
theorem Hold.keeps {B : Base} {g : Nat} {G : Gra} {F : List Nat} (h : Hold B w g G F L) : Keeps B.w w L := ⟨h.own.ch, fun p hp => ⟨(h.held p hp).row, (h.held p hp).len, (h.held p hp).bd, fun k hk => ⟨((h.held p hp).own k hk).1, by simp⟩⟩⟩
/-- a graph that is made beside words that are held -/
theorem Keeps.join {w' : World} {g : Nat} {G : Gra} {F : List Nat} {L' : List (Value × List Int)} (h : Keeps w0 w L) (h2 : Hold (w : Base) w' g G F L') : Hold (w0 : Base) w' g G F (L' ++ L) := by
  have hF : ∀ k ∈ F, w.heap.size ≤ k := h2.own.own
  refine ⟨⟨h2.own.gin, fun k hk => Nat.le_trans h.ch.size (hF k hk), h.ch.trans h2.own.ch (by simp)⟩, fun p hp => ?_, fun p hp => by cases hp⟩
  rcases List.mem_append.1 hp with hp | hp
  · have := h2.held p hp
    exact ⟨this.row, this.len, this.bd, fun k hk => ⟨Nat.le_trans h.ch.size (this.own k hk).1, (this.own k hk).2⟩⟩
  · exact (h.held p hp).keep h2.own.ch (fun k hk => .inr (hF k hk))
theorem Calls.wnewK {fid : FuncId} {args : Array Value} (h : Keeps w0 w L) {l : List Int} {e : Nat} (hC : Calls Try.prog fid args w fun en w' => ∃ v, en = .returned (.tuple #[v, .int .i64 e]) ∧ WNew w v (intCells l) w') {k : Nat} (hk : l.length = k) (hb : ∀ r ∈ l, -9223372036854775808 ≤ r ∧ r ≤ 9223372036854775807) (hl : k ≤ 1000000) :
    Calls Try.prog fid args w fun en w' => ∃ a c, en = .returned (.tuple #[.slice a k c, .int .i64 e]) ∧ Keeps w0 w' ((.slice a k c, l) :: L) := by
  subst hk
  refine hC.mono ?_
  rintro en w' ⟨v, rfl, hg⟩
  obtain ⟨a, c, rfl, hh⟩ := h.new hg hb hl
  exact ⟨a, c, rfl, hh⟩
theorem Fixed_k (h : Keeps w0 w L) (side : Nat) {xa : Option Addr} {xl : List Int} {n xc : Nat} (hx : (.slice xa n xc, xl) ∈ L) (hxn : xl.length = n) (z : Int) {l : List Int} {e k : Nat} (hE : fixE side xl z = e) (hR : (if e = 0 then shL side xl (min z.toNat xl.length) else []) = l) (hk : l.length = k) :
    Calls Try.prog 124 #[.int .u8 side, .slice xa n xc, .int .i64 z] w fun en w' => ∃ a c, en = .returned (.tuple #[.slice a k c, .int .i64 e]) ∧ Keeps w0 w' ((.slice a k c, l) :: L) := by
  have hi := (h.at hx hxn).ok
  have hc := Fixed_is (side := side) xc z hi.sl hi.len
  simp only [hE, hR] at hc
  rw [hxn] at hc
  refine Calls.wnewK h hc hk ?_ ?_
  · subst hR
    split
    · exact shL_bd hi.bd
    · simp
  · subst hR
    rw [← hk]
    split
    · rw [shL_len]; exact hi.len
    · simp
theorem Turn_k (h : Keeps w0 w L) {xa : Option Addr} {xl : List Int} {n xc : Nat} (hx : (.slice xa n xc, xl) ∈ L) (hxn : xl.length = n) (z : Int) (hz : -9223372036854775808 ≤ z ∧ z ≤ 9223372036854775807) (hr : rightB n = true) {l : List Int} (hR : turnL xl z = l) :
    Calls Try.prog 125 #[.slice xa n xc, .int .i64 z] w fun en w' => ∃ a c, en = .returned (.tuple #[.slice a n c, .int .i64 (0 : Nat)]) ∧ Keeps w0 w' ((.slice a n c, l) :: L) := by
  have hi := (h.at hx hxn).ok
  have hcap := (h.held _ hx).cap
  have hc := Turn_yes xc z hi.sl (by rw [hxn]; exact hcap) (by rw [hxn]; exact hr) hz
  rw [hR, hxn] at hc
  subst hR
  exact Calls.wnewK (e := 0) h hc (by rw [turnL_len, hxn]) (fun r hr => hi.bd r ((turnL_perm xl z).mem_iff.1 hr)) (by rw [← hxn]; exact hi.len)
theorem Eqref_k (h : Keeps w0 w L) {xa ya : Option Addr} {xl yl : List Int} {n m xc yc : Nat} (hx : (.slice xa n xc, xl) ∈ L) (hxn : xl.length = n) (hy : (.slice ya m yc, yl) ∈ L) (hym : yl.length = m) {q : Bool} (hq : decide (xl = yl) = q) : Calls Try.prog 53 #[.slice xa n xc, .slice ya m yc] w fun e w' => e = .returned (.bool q) ∧ Keeps w0 w' L := by
  subst hq
  have hc := Eqref_is (w := w) xc yc (h.sl hx hxn) (h.sl hy hym)
  simp only [hxn, hym] at hc
  refine hc.mono ?_
  rintro e w' ⟨rfl, hc⟩
  exact ⟨rfl, h.same hc⟩
theorem Steps_k (h : Keeps w0 w L) (n m : Int) {k e : Nat} (hk : (if rightB n && rightB m then stepsN n.toNat m.toNat else 0 : Nat) = k) (he : (if rightB n && rightB m then 0 else 250 : Nat) = e) :
    Calls Try.prog 126 #[.int .i64 n, .int .i64 m] w fun en w' => en = .returned (.tuple #[.int .i64 k, .int .i64 e]) ∧ Keeps w0 w' L := by
  subst hk he
  exact (Steps_is n m).mono fun en w' ⟨h1, h2⟩ => ⟨h1, h2 ▸ h⟩
end
end Go.Proofs.Ytnmfdiiehkkjcaa
namespace Go.Proofs.Ytnmfdiiehkkjcaa
open Go.RowKit Go.Mem Go.Aig
def ta1 : Gra := ⟨4000, [⟨1, 0, 0, 0⟩, ⟨2, 0, 0, 0⟩, ⟨2, 0, 0, 0⟩, ⟨3, 2, 5, 1⟩]⟩
theorem Not4_is (w : World) : Calls Try.prog 21 #[.int .i64 4] w fun e w' => e = .returned (.int .i64 5) ∧ w = w' := Not_any 4 w (by omega)
theorem Pair0_is (w : World) : Calls Try.prog 48 #[.int .u8 0] w fun e w' => ∃ g F xa xc ya yc, e = .returned (.tuple #[.pointer (some ⟨g, 0, none⟩), .slice xa 1 xc, .slice ya 1 yc]) ∧
    Hold w w' g (gIn 4000 2) F [(.slice ya 1 yc, natInts (rIn 1 1)), (.slice xa 1 xc, natInts (rIn 0 1))] := Pair_is w 0 (by decide)
theorem Pair2_is (w : World) : Calls Try.prog 48 #[.int .u8 2] w fun e w' => ∃ g F xa xc ya yc, e = .returned (.tuple #[.pointer (some ⟨g, 0, none⟩), .slice xa 3 xc, .slice ya 3 yc]) ∧
    Hold w w' g (gIn 4000 6) F [(.slice ya 3 yc, natInts (rIn 3 3)), (.slice xa 3 xc, natInts (rIn 0 3))] := Pair_is w 2 (by decide)
set_option maxRecDepth 100000 in
set_option maxHeartbeats 8000000 in
theorem awake25_is (w : World) : Calls Try.prog 60 #[] w fun e w' => e = .returned (.bool true) ∧ Ch [] w w' := by
  have HO := Lib.hid (Keeps.start w)
  go_enter Try.func60, Try.ntmps60
  go_wp2_with fail
  have ho := HO.out.fresh (l := [2, 4, 6]) (n := 3) rfl (by decide) (by decide)
  simp only [intCells, List.map_cons, List.map_nil] at ho
  clear HO; have HO := Lib.hid ho; clear ho
  go_wp2_with fail
  refine (Fixed_k HO.out 1 (xa := (some ⟨w.heap.size, 0, none⟩)) (xc := 3) (n := 3) (xl := [2, 4, 6]) (by simp) rfl 1 (l := [0, 2, 4]) (e := 0) (k := 3) (by decide) (by decide) rfl).mono ?_
  rintro e w1 ⟨aa, ac, rfl, ho⟩
  clear HO; have HO := Lib.hid ho; clear ho
  go_wp2_with fail
  refine (Fixed_k HO.out 2 (xa := (some ⟨w.heap.size, 0, none⟩)) (xc := 3) (n := 3) (xl := [2, 4, 6]) (by simp) rfl 2 (l := [6, 0, 0]) (e := 0) (k := 3) (by decide) (by decide) rfl).mono ?_
  rintro e w2 ⟨ba, bc, rfl, ho⟩
  clear HO; have HO := Lib.hid ho; clear ho
  go_wp2_with fail
  refine (Fixed_k HO.out 1 (xa := (some ⟨w.heap.size, 0, none⟩)) (xc := 3) (n := 3) (xl := [2, 4, 6]) (by simp) rfl 9 (l := [0, 0, 0]) (e := 0) (k := 3) (by decide) (by decide) rfl).mono ?_
  rintro e w3 ⟨ca, cc, rfl, ho⟩
  clear HO; have HO := Lib.hid ho; clear ho
  go_wp2_with fail
  refine (Turn_k HO.out (xa := (some ⟨w.heap.size, 0, none⟩)) (xc := 3) (n := 3) (xl := [2, 4, 6]) (by simp) rfl 1 (by decide) (by decide) (l := [4, 6, 2]) (by decide)).mono ?_
  rintro e w4 ⟨da, dc, rfl, ho⟩
  clear HO; have HO := Lib.hid ho; clear ho
  go_wp2_with fail
  refine (Turn_k HO.out (xa := (some ⟨w.heap.size, 0, none⟩)) (xc := 3) (n := 3) (xl := [2, 4, 6]) (by simp) rfl (-1) (by decide) (by decide) (l := [6, 2, 4]) (by decide)).mono ?_
  rintro e w5 ⟨fa, fc, rfl, ho⟩
  clear HO; have HO := Lib.hid ho; clear ho
  go_wp2_with fail
  refine (Steps_k HO.out 5 8 (k := 3) (e := 0) (by decide) (by decide)).mono ?_
  rintro e w6 ⟨rfl, ho⟩
  clear HO; have HO := Lib.hid ho; clear ho
  go_wp2_with fail
  refine (Steps_k HO.out 1 3 (k := 0) (e := 0) (by decide) (by decide)).mono ?_
  rintro e w7 ⟨rfl, ho⟩
  clear HO; have HO := Lib.hid ho; clear ho
  go_wp2_with fail
  have ho := HO.out.fresh (l := [0, 2, 4]) (n := 3) rfl (by decide) (by decide)
  simp only [intCells, List.map_cons, List.map_nil] at ho
  clear HO; have HO := Lib.hid ho; clear ho
  refine (Eqref_k HO.out (xa := aa) (xc := ac) (n := 3) (xl := [0, 2, 4]) (by simp) rfl (ya := (some ⟨w7.heap.size, 0, none⟩)) (yc := 3) (m := 3) (yl := [0, 2, 4]) (by simp) rfl (q := true) (by decide)).mono ?_
  rintro e w8 ⟨rfl, ho⟩
  clear HO; have HO := Lib.hid ho; clear ho
  go_wp2_with fail
  have ho := HO.out.fresh (l := [6, 0, 0]) (n := 3) rfl (by decide) (by decide)
  simp only [intCells, List.map_cons, List.map_nil] at ho
  clear HO; have HO := Lib.hid ho; clear ho
  refine (Eqref_k HO.out (xa := ba) (xc := bc) (n := 3) (xl := [6, 0, 0]) (by simp) rfl (ya := (some ⟨w8.heap.size, 0, none⟩)) (yc := 3) (m := 3) (yl := [6, 0, 0]) (by simp) rfl (q := true) (by decide)).mono ?_
  rintro e w9 ⟨rfl, ho⟩
  clear HO; have HO := Lib.hid ho; clear ho
  go_wp2_with fail
  have ho := HO.out.fresh (l := [0, 0, 0]) (n := 3) rfl (by decide) (by decide)
  simp only [intCells, List.map_cons, List.map_nil] at ho
  clear HO; have HO := Lib.hid ho; clear ho
  refine (Eqref_k HO.out (xa := ca) (xc := cc) (n := 3) (xl := [0, 0, 0]) (by simp) rfl (ya := (some ⟨w9.heap.size, 0, none⟩)) (yc := 3) (m := 3) (yl := [0, 0, 0]) (by simp) rfl (q := true) (by decide)).mono ?_
  rintro e w10 ⟨rfl, ho⟩
  clear HO; have HO := Lib.hid ho; clear ho
  go_wp2_with fail
  have ho := HO.out.fresh (l := [4, 6, 2]) (n := 3) rfl (by decide) (by decide)
  simp only [intCells, List.map_cons, List.map_nil] at ho
  clear HO; have HO := Lib.hid ho; clear ho
  refine (Eqref_k HO.out (xa := da) (xc := dc) (n := 3) (xl := [4, 6, 2]) (by simp) rfl (ya := (some ⟨w10.heap.size, 0, none⟩)) (yc := 3) (m := 3) (yl := [4, 6, 2]) (by simp) rfl (q := true) (by decide)).mono ?_
  rintro e w11 ⟨rfl, ho⟩
  clear HO; have HO := Lib.hid ho; clear ho
  go_wp2_with fail
  have ho := HO.out.fresh (l := [6, 2, 4]) (n := 3) rfl (by decide) (by decide)
  simp only [intCells, List.map_cons, List.map_nil] at ho
  clear HO; have HO := Lib.hid ho; clear ho
  refine (Eqref_k HO.out (xa := fa) (xc := fc) (n := 3) (xl := [6, 2, 4]) (by simp) rfl (ya := (some ⟨w11.heap.size, 0, none⟩)) (yc := 3) (m := 3) (yl := [6, 2, 4]) (by simp) rfl (q := true) (by decide)).mono ?_
  rintro e w12 ⟨rfl, ho⟩
  clear HO; have HO := Lib.hid ho; clear ho
  go_wp2_with fail
  refine (Pair0_is _).mono ?_
  rintro e w13 ⟨g, F1, pa, pc, qa, qc, rfl, ho0⟩
  have ho := HO.out.join ho0
  clear HO; have HO := Lib.hid ho; clear ho ho0
  go_wp2_with fail
  refine (Shr_h HO.out (xa := pa) (xc := pc) (n := 1) (xl := natInts (rIn 0 1)) (by simp) rfl (ya := qa) (yc := qc) (m := 1) (yl := natInts (rIn 1 1)) (by simp) rfl (G' := ta1) (l := [6]) (e := 0) (k := 1) (by kernel_rfl) rfl (by decide) (by decide)).mono ?_
  rintro e w14 ⟨ra, rc, F2, rfl, ho⟩
  clear HO; have HO := Lib.hid ho; clear ho
  obtain ⟨pb, po, rfl, hpc⟩ := (HO.out.sl (a := pa) (n := 1) (c := pc) (l := natInts (rIn 0 1)) (by simp) rfl).cells 0 2 rfl
  obtain ⟨qb, qo, rfl, hqc⟩ := (HO.out.sl (a := qa) (n := 1) (c := qc) (l := natInts (rIn 1 1)) (by simp) rfl).cells 0 4 rfl
  rw [Nat.add_zero] at hpc hqc
  have ho := HO.out.same (Ch.refl [] w14).drew
  have hA := And_h ho 2 5 (by decide) (by decide) (G' := ta1) (r := 6) (e := 0) (by kernel_rfl)
  have HA := Lib.hid hA; clear hA ho
  go_wp2_with fail
  refine Ord.St.door (fun _ => True) [.fl, .fl, .fl, .rd, .fl, .fl, .rd, .rd, .ef, .fl, .fl, .fl, .fl, .fl] [0, 0, 2, 6, 0, 16, 48, 112, 255, 511, 1023, 1023, 2047, 8191] [0, 1, 2, 3, 4, 5, 6, 7, 8, 9, 10, 11, 12, 13] mixed (by kernel_rfl) rfl ?_
  refine Ord.St.fl2 (T' := ?_) 0 [1, 2, 3, 4, 5, 6, 7, 8, 9, 10, 11, 12, 13] _ _ rfl (by kernel_rfl) rfl rfl rfl rfl (fun K w' hk => ?_) ?_
  rotate_left
  · go_step; exact hk
  refine Ord.St.fl2 (T' := ?_) 1 [2, 3, 4, 5, 6, 7, 8, 9, 10, 11, 12, 13] _ _ rfl (by kernel_rfl) rfl rfl rfl rfl (fun K w' hk => ?_) ?_
  rotate_left
  · go_step; exact hk
  refine Ord.St.fl2 (T' := ?_) 2 [3, 4, 5, 6, 7, 8, 9, 10, 11, 12, 13] _ _ rfl (by kernel_rfl) rfl rfl rfl rfl (fun K w' hk => ?_) ?_
  rotate_left
  · go_step; exact hk
  refine Ord.St.rd2 (T' := ?_) 3 [4, 5, 6, 7, 8, 9, 10, 11, 12, 13] _ _ rfl (by kernel_rfl) rfl rfl rfl rfl (fun K hk => ?_) ?_
  rotate_left
  · go_step; exact hk
  refine Ord.St.fl2 (T' := ?_) 4 [5, 6, 7, 8, 9, 10, 11, 12, 13] _ _ rfl (by kernel_rfl) rfl rfl rfl rfl (fun K w' hk => ?_) ?_
  rotate_left
  · go_step; exact hk
  refine Ord.St.fl2 (T' := ?_) 5 [6, 7, 8, 9, 10, 11, 12, 13] _ _ rfl (by kernel_rfl) rfl rfl rfl rfl (fun K w' hk => ?_) ?_
  rotate_left
  · go_step; exact hk
  refine Ord.St.rd2 (T' := ?_) 6 [7, 8, 9, 10, 11, 12, 13] _ _ rfl (by kernel_rfl) rfl rfl rfl rfl (fun K hk => ?_) ?_
  rotate_left
  · go_step; exact hk
  refine Ord.St.rd2 (T' := ?_) 7 [8, 9, 10, 11, 12, 13] _ _ rfl (by kernel_rfl) rfl rfl rfl rfl (fun K hk => ?_) ?_
  rotate_left
  · go_step; refine (Not4_is _).mono ?_; rintro e w'' ⟨rfl, rfl⟩; exact hk
  refine Ord.St.ef 8 [9, 10, 11, 12, 13] _ rfl (by kernel_rfl) (fun K hK => ?_)
  go_wp2_with fail
  refine HA.out.mono ?_
  rintro e wA ⟨F3, rfl, ho⟩
  clear HO; have HO := Lib.hid ho; clear ho
  go_wp2_with fail
  refine ⟨rfl, hK _ _ ?_⟩; clear hK K
  refine Ord.St.fl2 (T' := ?_) 9 [10, 11, 12, 13] _ _ rfl (by kernel_rfl) rfl rfl rfl rfl (fun K w' hk => ?_) ?_
  rotate_left
  · go_step; exact hk
  refine Ord.St.fl2 (T' := ?_) 10 [11, 12, 13] _ _ rfl (by kernel_rfl) rfl rfl rfl rfl (fun K w' hk => ?_) ?_
  rotate_left
  · go_step; exact hk
  refine Ord.St.fl2 (T' := ?_) 11 [12, 13] _ _ rfl (by kernel_rfl) rfl rfl rfl rfl (fun K w' hk => ?_) ?_
  rotate_left
  · go_step; exact hk
  refine Ord.St.fl2 (T' := ?_) 12 [13] _ _ rfl (by kernel_rfl) rfl rfl rfl rfl (fun K w' hk => ?_) ?_
  rotate_left
  · go_step; exact hk
  refine Ord.St.fl2 (T' := ?_) 13 [] _ _ rfl (by kernel_rfl) rfl rfl rfl rfl (fun K w' hk => ?_) ?_
  rotate_left
  · go_step; exact hk
  refine Ord.St.nil ?_
  clear HA hpc hqc
  go_wp2_with fail
  refine (Pair2_is _).mono ?_
  rintro e w15 ⟨h, F4, ya, yc, za, zc, rfl, ho0⟩
  have ho := HO.out.keeps.join ho0
  clear HO; have HO := Lib.hid ho; clear ho ho0
  go_wp2_with fail
  refine (sConst_h HO.out 1 (by decide) 3 rfl).mono ?_
  rintro e w16 ⟨oa, oc, rfl, ho⟩
  clear HO; have HO := Lib.hid ho; clear ho
  go_wp2_with fail
  refine (Shl_h HO.out (xa := ya) (xc := yc) (n := 3) (xl := natInts (rIn 0 3)) (by simp) rfl (ya := oa) (yc := oc) (m := 3) (yl := natInts (constL 1 3)) (by simp) rfl (G' := gIn 4000 6) (l := [0, 2, 4]) (e := 0) (k := 3) (by kernel_rfl) rfl (by decide) (by decide)).mono ?_
  rintro e w17 ⟨ta, tc, F5, rfl, ho⟩
  clear HO; have HO := Lib.hid ho; clear ho
  go_wp2_with fail
  refine (Fixed_h HO.out 1 (xa := ya) (xc := yc) (n := 3) (xl := natInts (rIn 0 3)) (by simp) rfl 1 (l := [0, 2, 4]) (e := 0) (k := 3) (by decide) (by decide) rfl).mono ?_
  rintro e w18 ⟨ua, uc, rfl, ho⟩
  clear HO; have HO := Lib.hid ho; clear ho
  go_wp2_with fail
  have ho := HO.out.same ((Ch.refl [] w18).alloc (.cells #[.int .i64 6] 29))
  clear HO; have HO := Lib.hid ho; clear ho
  refine (Eqref_c HO.out (xa := ra) (xc := rc) (n := 1) (xl := natInts [6]) (by simp) rfl (b := w18.heap.size) (m := 1) (ys := [6]) (blk.new' _ _ rfl) rfl (by decide) (q := true) (by decide)).mono ?_
  rintro e w19 ⟨rfl, ho⟩
  clear HO; have HO := Lib.hid ho; clear ho
  go_wp2_with fail
  refine (Eqref_h HO.out (xa := ta) (xc := tc) (n := 3) (xl := natInts [0, 2, 4]) (by simp) rfl (ya := ua) (yc := uc) (m := 3) (yl := [0, 2, 4]) (by simp) rfl (q := true) (by decide)).mono ?_
  rintro e w20 ⟨rfl, ho⟩
  clear HO; have HO := Lib.hid ho; clear ho
  go_wp2_with fail
  go_ret
  exact ⟨rfl, HO.out.ch⟩
end Go.Proofs.Ytnmfdiiehkkjcaa
namespace Go.Proofs.Ytnmfdiiehkkjcaa
open Go.RowKit Go.Mem Go.Aig
theorem castL_len (l : List Int) (n : Nat) : (castL l n).length = n := by unfold castL; rw [List.length_append, List.length_take, List.length_replicate]; omega
set_option maxRecDepth 100000 in
set_option maxHeartbeats 8000000 in
theorem ShiftsTwice_walk {w : World} (wd : Nat) (hw : wd ≤ 255) (vd : Nat) (hv : vd ≤ 255) : Calls Try.prog 13 #[.int .u8 wd, .int .u8 vd] w fun e w' => e = .returned (.bool true) ∧ Ch [] w w' := by
  obtain ⟨n, hn, hn1, hn5⟩ : ∃ n, wd % 5 + 1 = n ∧ 1 ≤ n ∧ n ≤ 5 := ⟨_, rfl, by omega, by omega⟩
  obtain ⟨m, hm, hm1, hm3⟩ : ∃ m, vd % 3 + 1 = m ∧ 1 ≤ m ∧ m ≤ 3 := ⟨_, rfl, by omega, by omega⟩
  have hq : 1 + (wd : Int) % 5 = n := by omega
  have hq2 : 1 + (vd : Int) % 3 = m := by omega
  obtain ⟨q, GG, l, hF⟩ := st_facts hn1 hn5 hm1 hm3
  have hrn : rightW n = true := by unfold rightW; simp; omega
  have hrm : rightW m = true := by unfold rightW; simp; omega
  have hrp : rightW (m + 1 : Nat) = true := by unfold rightW; simp; omega
  have HRN := Lib.hid hrn; clear hrn
  have HRM := Lib.hid hrm; clear hrm
  have HRP := Lib.hid hrp; clear hrp
  have HF := Lib.hid hF; clear hF
  have hN := fun W => New_h (w := W) 4000 (by decide) (by decide)
  have HN := Lib.hid hN; clear hN
  clear hn hm
  have HA := fun W => awake25_is W
  go_enter Try.func13, Try.ntmps13
  go_wp2_with fail
  refine (HA _).mono ?_
  rintro e w1 ⟨rfl, hc1⟩
  have HC1 := Lib.hid hc1; clear hc1 HA
  go_wp2_with fail
  refine (HN.out w1).mono ?_
  rintro e w2 ⟨g, F0, rfl, ho⟩
  have HO := Lib.hid ho; clear ho HN
  go_wp2_with fail
  refine (sInput_h HO.out n (G' := gIn 4000 n) (l := rIn 0 n) (e := 0) (k := n) (by have := inG_gIn (most := 4000) (s := 0) hn1 (by omega) (by omega); rw [Nat.zero_add] at this; exact this) (by simp) (fun r hr => by have := rIn_le hr; omega) (by omega)).mono ?_
  rintro e w3 ⟨xa, xc, F1, rfl, ho⟩
  clear HO; have HO := Lib.hid ho; clear ho
  go_wp2_with fail
  refine (sInput_h HO.out m (G' := gIn 4000 (n + m)) (l := rIn n m) (e := 0) (k := m) (inG_gIn (most := 4000) (s := n) hm1 (by omega) (by omega)) (by simp) (fun r hr => by have := rIn_le hr; omega) (by omega)).mono ?_
  rintro e w4 ⟨ya, yc, F2, rfl, ho⟩
  clear HO; have HO := Lib.hid ho; clear ho
  go_wp2_with fail
  refine (sInput_h HO.out m (G' := gIn 4000 (n + m + m)) (l := rIn (n + m) m) (e := 0) (k := m) (inG_gIn (most := 4000) (s := n + m) hm1 (by omega) (by omega)) (by simp) (fun r hr => by have := rIn_le hr; omega) (by omega)).mono ?_
  rintro e w5 ⟨za, zc, F3, rfl, ho⟩
  clear HO; have HO := Lib.hid ho; clear ho
  have e1 : ((n : Int) == 0) = false := beqN (by omega)
  have e2 : ((m : Int) == 0) = false := beqN (by omega)
  go_wp2_with fail
  refine (sCast_h HO.out (xa := ya) (xc := yc) (n := m) (xl := (natInts (rIn n m))) (by simp) (by simp) (m + 1) HRP.out HRM.out).mono ?_
  rintro e w6 ⟨pa, pc, rfl, ho⟩
  clear HO; have HO := Lib.hid ho; clear ho
  go_wp2_with fail
  refine (sCast_h HO.out (xa := za) (xc := zc) (n := m) (xl := (natInts (rIn (n + m) m))) (by simp) (by simp) (m + 1) HRP.out HRM.out).mono ?_
  rintro e w7 ⟨qa, qc, rfl, ho⟩
  clear HO; have HO := Lib.hid ho; clear ho
  go_wp2_with fail
  refine (sAdd_h HO.out (xa := pa) (xc := pc) (n := (m + 1)) (xl := (castL (natInts (rIn n m)) (m + 1))) (by simp) (castL_len _ _) (ya := qa) (yc := qc) (m := (m + 1)) (yl := (castL (natInts (rIn (n + m) m)) (m + 1))) (by simp) (castL_len _ _) (G' := GG 0 0) (l := q) (e := 0) (k := m + 1) HF.out.s HF.out.qn HF.out.qb (by omega)).mono ?_
  rintro e w8 ⟨sa, sc, F4, rfl, ho⟩
  clear HO; have HO := Lib.hid ho; clear ho
  go_wp2_with fail
  refine (sConst_h HO.out 0 (by decide) n HRN.out).mono ?_
  rintro e w9 ⟨oa, oc, rfl, ho⟩
  clear HO; have HO := Lib.hid ho; clear ho
  go_wp2_with fail
  refine (sConst_h HO.out 0 (by decide) m HRM.out).mono ?_
  rintro e w10 ⟨ra, rc, rfl, ho⟩
  clear HO; have HO := Lib.hid ho; clear ho
  go_wp2_with fail
  refine wp_alw ?_
  intro W0 hW0
  have ho := (HO.out.keepN (alw_ch hW0) (alw_blk (xs := [.int .u8 1, .int .u8 2]) hW0)).sub (L' := [(Value.slice ra m rc, natInts (constL 0 m)), (.slice oa n oc, natInts (constL 0 n)), (.slice sa (m + 1) sc, natInts q), (.slice za m zc, natInts (rIn (n + m) m)), (.slice ya m yc, natInts (rIn n m)), (.slice xa n xc, natInts (rIn 0 n))]) (by intro p hp; simp only [List.mem_cons, List.not_mem_nil, or_false] at hp ⊢; rcases hp with rfl | rfl | rfl | rfl | rfl | rfl <;> simp)
  clear hW0 HO; have HO := Lib.hid ho; clear ho
  generalize w10.heap.size = pb at HO ⊢
  have hmX : (Value.slice xa n xc, natInts (rIn 0 n)) ∈ [(Value.slice ra m rc, natInts (constL 0 m)), (.slice oa n oc, natInts (constL 0 n)), (.slice sa (m + 1) sc, natInts q), (.slice za m zc, natInts (rIn (n + m) m)), (.slice ya m yc, natInts (rIn n m)), (.slice xa n xc, natInts (rIn 0 n))] := by simp
  have hmY : (Value.slice ya m yc, natInts (rIn n m)) ∈ [(Value.slice ra m rc, natInts (constL 0 m)), (.slice oa n oc, natInts (constL 0 n)), (.slice sa (m + 1) sc, natInts q), (.slice za m zc, natInts (rIn (n + m) m)), (.slice ya m yc, natInts (rIn n m)), (.slice xa n xc, natInts (rIn 0 n))] := by simp
  have hmZ : (Value.slice za m zc, natInts (rIn (n + m) m)) ∈ [(Value.slice ra m rc, natInts (constL 0 m)), (.slice oa n oc, natInts (constL 0 n)), (.slice sa (m + 1) sc, natInts q), (.slice za m zc, natInts (rIn (n + m) m)), (.slice ya m yc, natInts (rIn n m)), (.slice xa n xc, natInts (rIn 0 n))] := by simp
  have hmS : (Value.slice sa (m + 1) sc, natInts q) ∈ [(Value.slice ra m rc, natInts (constL 0 m)), (.slice oa n oc, natInts (constL 0 n)), (.slice sa (m + 1) sc, natInts q), (.slice za m zc, natInts (rIn (n + m) m)), (.slice ya m yc, natInts (rIn n m)), (.slice xa n xc, natInts (rIn 0 n))] := by simp
  have hmO : (Value.slice oa n oc, natInts (constL 0 n)) ∈ [(Value.slice ra m rc, natInts (constL 0 m)), (.slice oa n oc, natInts (constL 0 n)), (.slice sa (m + 1) sc, natInts q), (.slice za m zc, natInts (rIn (n + m) m)), (.slice ya m yc, natInts (rIn n m)), (.slice xa n xc, natInts (rIn 0 n))] := by simp
  have hmR : (Value.slice ra m rc, natInts (constL 0 m)) ∈ [(Value.slice ra m rc, natInts (constL 0 m)), (.slice oa n oc, natInts (constL 0 n)), (.slice sa (m + 1) sc, natInts q), (.slice za m zc, natInts (rIn (n + m) m)), (.slice ya m yc, natInts (rIn n m)), (.slice xa n xc, natInts (rIn 0 n))] := by simp
  generalize hLL : [(Value.slice ra m rc, natInts (constL 0 m)), (.slice oa n oc, natInts (constL 0 n)), (.slice sa (m + 1) sc, natInts q), (.slice za m zc, natInts (rIn (n + m) m)), (.slice ya m yc, natInts (rIn n m)), (.slice xa n xc, natInts (rIn 0 n))] = LL at HO hmX hmY hmZ hmS hmO hmR
  clear hLL
  have HMX := Lib.hid hmX; clear hmX
  have HMY := Lib.hid hmY; clear hmY
  have HMZ := Lib.hid hmZ; clear hmZ
  have HMS := Lib.hid hmS; clear hmS
  have HMO := Lib.hid hmO; clear hmO
  have HMR := Lib.hid hmR; clear hmR
  obtain ⟨GS, hGS⟩ : ∃ GS : Nat → Gra, GS = fun j => match j with | 0 => GG 0 0 | 1 => GG 0 5 | _ => GG 1 5 := ⟨_, rfl⟩
  have hG0 : GG 0 0 = GS 0 := by subst hGS; rfl
  have hGj : ∀ j, j < 2 → GG j 0 = GS j ∧ GG j 5 = GS (j + 1) := fun j hj => by
    rw [hGS]
    rcases (by omega : j = 0 ∨ j = 1) with rfl | rfl
    · exact ⟨rfl, rfl⟩
    · exact ⟨HF.out.g, rfl⟩
  have HGJ := Lib.hid hGj; clear hGj
  rw [hG0] at HO
  clear hGS hG0
  go_loopw [139] (fun i wq => ∃ (j : Nat) (FQ : List Nat), j ≤ 2 ∧ i = .int .i64 j ∧ Hold ((Base.mk w1 []).add pb [.int .u8 1, .int .u8 2]) wq g (GS j) FQ LL) (fun i _ => 2 - (intOf i).toNat)
  case atStart => exact ⟨0, _, by omega, rfl, HO.out⟩
  case round =>
    obtain ⟨j, FQ, hj, rfl, ho⟩ := hrel
    clear HO; have HO := Lib.hid ho; clear ho
    by_cases hj2 : j < 2
    · have d3 : decide ((j : Int) < 2) = true := decide_eq_true (by omega)
      obtain ⟨sd, hsd⟩ : ∃ sd, j + 1 = sd := ⟨_, rfl⟩
      have hR := HF.out.r j hj2
      obtain ⟨g1, g2⟩ := HGJ.out j hj2
      rw [hsd] at hR g2
      have k0 := (HO.out.kb0).cell (i := j) (v := .int .u8 sd) (by
        rcases (by omega : j = 0 ∨ j = 1) with rfl | rfl <;> subst hsd <;> rfl)
      have hgs := hR.a
      rw [g1] at hgs
      have HGS := Lib.hid hgs; clear hgs g1
      have HG2 := Lib.hid g2; clear g2
      generalize GG j = GJ at *
      generalize l j = lj at *
      have HR := Lib.hid hR; clear hR
      have HSD := Lib.hid hsd; clear hsd
      go_wp2_with fail
      refine (By_h HO.out sd (xa := xa) (xc := xc) (n := n) (xl := (natInts (rIn 0 n))) HMX.out (by simp) (ya := ya) (yc := yc) (m := m) (yl := (natInts (rIn n m))) HMY.out (by simp) (G' := GJ 1) (l := lj 1) (e := 0) (k := n) HGS.out (HR.out.len 1 (by decide) (by decide)).1 (HR.out.len 1 (by decide) (by decide)).2 (by omega)).mono ?_
      rintro e w21 ⟨b1, c1, G1, rfl, ho⟩
      clear HO; have HO := Lib.hid ho; clear ho
      clear k0
      go_wp2_with fail
      refine (By_h HO.out sd (xa := b1) (xc := c1) (n := n) (xl := (natInts (lj 1))) (List.mem_cons_self ..) (by rw [natInts_len]; exact (HR.out.len 1 (by decide) (by decide)).1) (ya := za) (yc := zc) (m := m) (yl := (natInts (rIn (n + m) m))) (List.mem_cons_of_mem _ HMZ.out) (by simp) (G' := GJ 2) (l := lj 2) (e := 0) (k := n) HR.out.b (HR.out.len 2 (by decide) (by decide)).1 (HR.out.len 2 (by decide) (by decide)).2 (by omega)).mono ?_
      rintro e w22 ⟨b2, c2, G2, rfl, ho⟩
      clear HO; have HO := Lib.hid ho; clear ho
      go_wp2_with fail
      refine (By_h HO.out sd (xa := xa) (xc := xc) (n := n) (xl := (natInts (rIn 0 n))) (List.mem_cons_of_mem _ (List.mem_cons_of_mem _ HMX.out)) (by simp) (ya := sa) (yc := sc) (m := (m + 1)) (yl := (natInts q)) (List.mem_cons_of_mem _ (List.mem_cons_of_mem _ HMS.out)) (by rw [natInts_len]; exact HF.out.qn) (G' := GJ 3) (l := lj 3) (e := 0) (k := n) HR.out.c (HR.out.len 3 (by decide) (by decide)).1 (HR.out.len 3 (by decide) (by decide)).2 (by omega)).mono ?_
      rintro e w23 ⟨b3, c3, G3, rfl, ho⟩
      clear HO; have HO := Lib.hid ho; clear ho
      go_wp2_with fail
      refine (By_h HO.out sd (xa := oa) (xc := oc) (n := n) (xl := (natInts (constL 0 n))) (List.mem_cons_of_mem _ (List.mem_cons_of_mem _ (List.mem_cons_of_mem _ HMO.out))) (by simp [constL]) (ya := ya) (yc := yc) (m := m) (yl := (natInts (rIn n m))) (List.mem_cons_of_mem _ (List.mem_cons_of_mem _ (List.mem_cons_of_mem _ HMY.out))) (by simp) (G' := GJ 4) (l := lj 4) (e := 0) (k := n) HR.out.d (HR.out.len 4 (by decide) (by decide)).1 (HR.out.len 4 (by decide) (by decide)).2 (by omega)).mono ?_
      rintro e w24 ⟨b4, c4, G4, rfl, ho⟩
      clear HO; have HO := Lib.hid ho; clear ho
      go_wp2_with fail
      refine (By_h HO.out sd (xa := xa) (xc := xc) (n := n) (xl := (natInts (rIn 0 n))) (List.mem_cons_of_mem _ (List.mem_cons_of_mem _ (List.mem_cons_of_mem _ (List.mem_cons_of_mem _ HMX.out)))) (by simp) (ya := ra) (yc := rc) (m := m) (yl := (natInts (constL 0 m))) (List.mem_cons_of_mem _ (List.mem_cons_of_mem _ (List.mem_cons_of_mem _ (List.mem_cons_of_mem _ HMR.out)))) (by simp [constL]) (G' := GJ 5) (l := lj 5) (e := 0) (k := n) HR.out.e (HR.out.len 5 (by decide) (by decide)).1 (HR.out.len 5 (by decide) (by decide)).2 (by omega)).mono ?_
      rintro e w25 ⟨b5, c5, G5, rfl, ho⟩
      clear HO; have HO := Lib.hid ho; clear ho
      go_wp2_with fail
      refine (Eqref_h HO.out (xa := b4) (xc := c4) (n := n) (xl := (natInts (lj 4))) (by simp) (by rw [natInts_len]; exact (HR.out.len 4 (by decide) (by decide)).1) (ya := oa) (yc := oc) (m := n) (yl := (natInts (constL 0 n))) (List.mem_cons_of_mem _ (List.mem_cons_of_mem _ (List.mem_cons_of_mem _ (List.mem_cons_of_mem _ (List.mem_cons_of_mem _ HMO.out))))) (by simp [constL]) (q := true) (by rw [HR.out.d2]; exact decide_eq_true rfl)).mono ?_
      rintro e w26 ⟨rfl, ho⟩
      clear HO; have HO := Lib.hid ho; clear ho
      go_wp2_with fail
      refine (Eqref_h HO.out (xa := b5) (xc := c5) (n := n) (xl := (natInts (lj 5))) (by simp) (by rw [natInts_len]; exact (HR.out.len 5 (by decide) (by decide)).1) (ya := xa) (yc := xc) (m := n) (yl := (natInts (rIn 0 n))) (List.mem_cons_of_mem _ (List.mem_cons_of_mem _ (List.mem_cons_of_mem _ (List.mem_cons_of_mem _ (List.mem_cons_of_mem _ HMX.out))))) (by simp) (q := true) (by rw [HR.out.e2]; exact decide_eq_true rfl)).mono ?_
      rintro e w27 ⟨rfl, ho⟩
      clear HO; have HO := Lib.hid ho; clear ho
      go_wp2_with fail
      go_loopw [221] (fun i wt => ∃ k : Nat, k ≤ n ∧ i = .int .i64 k ∧ Hold ((Base.mk w1 []).add pb [.int .u8 1, .int .u8 2]) wt g (GJ 5) G5 ((.slice b5 n c5, natInts (lj 5)) :: (.slice b4 n c4, natInts (lj 4)) :: (.slice b3 n c3, natInts (lj 3)) :: (.slice b2 n c2, natInts (lj 2)) :: (Value.slice b1 n c1, natInts (lj 1)) :: LL)) (fun i _ => n - (intOf i).toNat)
      case atStart => exact ⟨0, by omega, rfl, HO.out⟩
      case round =>
        obtain ⟨k, hk, rfl, ho⟩ := hrel
        clear HO; have HO := Lib.hid ho; clear ho
        by_cases hkn : k < n
        · have hpp := HR.out.p k hkn
          have hul : (natInts (lj 2))[k]? = some (((lj 2).getD k 0 : Nat) : Int) := by
            unfold natInts
            rw [List.getElem?_map, List.getD_eq_getElem?_getD, List.getElem?_eq_getElem (show k < (lj 2).length by rw [(HR.out.len 2 (by decide) (by decide)).1]; exact hkn)]
            rfl
          have hvl : (natInts (lj 3))[k]? = some (((lj 3).getD k 0 : Nat) : Int) := by
            unfold natInts
            rw [List.getElem?_map, List.getD_eq_getElem?_getD, List.getElem?_eq_getElem (show k < (lj 3).length by rw [(HR.out.len 3 (by decide) (by decide)).1]; exact hkn)]
            rfl
          have hub : (lj 2).getD k 0 ≤ 1000000 := by
            rw [List.getD_eq_getElem?_getD, List.getElem?_eq_getElem (show k < (lj 2).length by rw [(HR.out.len 2 (by decide) (by decide)).1]; exact hkn)]
            exact (HR.out.len 2 (by decide) (by decide)).2 _ (List.getElem_mem _)
          have hvb : (lj 3).getD k 0 ≤ 1000000 := by
            rw [List.getD_eq_getElem?_getD, List.getElem?_eq_getElem (show k < (lj 3).length by rw [(HR.out.len 3 (by decide) (by decide)).1]; exact hkn)]
            exact (HR.out.len 3 (by decide) (by decide)).2 _ (List.getElem_mem _)
          obtain ⟨bu, ou, rfl, cu⟩ := (HO.out.sl (a := b2) (n := n) (c := c2) (l := natInts (lj 2)) (by simp) (by rw [natInts_len]; exact (HR.out.len 2 (by decide) (by decide)).1)).cells k _ hul
          obtain ⟨bv, ov, rfl, cv⟩ := (HO.out.sl (a := b3) (n := n) (c := c3) (l := natInts (lj 3)) (by simp) (by rw [natInts_len]; exact (HR.out.len 3 (by decide) (by decide)).1)).cells k _ hvl
          generalize (lj 2).getD k 0 = ur at *
          generalize (lj 3).getD k 0 = vr at *
          have HPK := Lib.hid hpp; clear hpp hul hvl
          go_wp2_with fail
          refine (simParts_l HO.out ur vr hub hvb HPK.out).mono ?_
          rintro e W2 ⟨pa, pc, rfl, ho⟩
          clear HO cu cv; have HO := Lib.hid ho; clear ho
          go_wp2_with fail
          go_roundw
          case rel => exact ⟨k + 1, by omega, by go_num, HO.out⟩
          case measure => simp [intOf]; omega
        · have ho := HO.out.sub (L' := LL) (by intro p hp; simp [hp])
          rw [HG2.out] at ho
          clear HO; have HO := Lib.hid ho; clear ho
          have hsd := HSD.out
          subst hsd
          go_wp2_with fail
          go_roundw
          case rel => exact ⟨j + 1, _, by omega, by go_num, HO.out⟩
          case measure => simp [intOf]; omega
    · go_wp2_with fail
      go_ret
      exact ⟨rfl, HC1.out.trans HO.out.own.ch (by simp)⟩
end Go.Proofs.Ytnmfdiiehkkjcaa
