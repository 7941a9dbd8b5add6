/-
  Turns of a word, plainly: one after the other, and shifts by constants, by evaluation. No program in sight. Conditions: none beyond the hypotheses.
  What ShiftsIs asks, plainly: for words of one to nine bits, shifted by words of one to five, all assignments at once, by evaluation. No program in sight. Conditions: none beyond the hypotheses.
  Reads of words for values of the inputs; the values of the inputs of chapter 25's law. Conditions: a graph in memory, words of 1 to 16 bits.
  Walk over move of shifts: a word shifted by another one. Conditions: a graph in memory, words of its references.
  Walks over By, Shl, Shr of shifts. Conditions: a graph in memory, words of any integers.
  The functions of shifts beside a graph and words that are held. Conditions: none beyond the hypotheses.
  Walk over two of chapter 25's law: a graph with two words of new inputs. Conditions: none.
  Words that are held, with no graph: what is known along a law's walk ahead of a graph, and what stays of it beside one. Conditions: none beyond the hypotheses.
  Walk over the chapter's examples (awake of shifts): true. Conditions: none.
  Walk over ShiftsIs: true, whatever comes in. Conditions: numbers in range, a slice of any numbers.
-/
import Derived.Test.YtnmfdiiehkkjcaaQF
import Derived.Test.YtnmfdiiehkkjcaaQD
namespace Go.Aig
theorem turnL_k {x : List Int} (hx : 0 < x.length) (n : Int) : ∃ k : Nat, k < x.length ∧ (k : Int) = n % x.length ∧ turnL x n = x.drop k ++ x.take k := by
  have h1 := Int.emod_nonneg n (show (x.length : Int) ≠ 0 by omega)
  have h2 := Int.emod_lt_of_pos n (show (0 : Int) < x.length by omega)
  refine ⟨(n % x.length).toNat, by omega, by omega, ?_⟩
  unfold turnL
  rfl
@[simp] theorem turnL_len (x : List Int) (n : Int) : (turnL x n).length = x.length := by
  unfold turnL
  dsimp only
  by_cases hx : 0 < x.length
  · have h1 := Int.emod_nonneg n (show (x.length : Int) ≠ 0 by omega)
    have h2 := Int.emod_lt_of_pos n (show (0 : Int) < x.length by omega)
    have e : n.emod x.length = n % x.length := rfl
    rw [List.length_append, List.length_drop, List.length_take]
    omega
  · have : x = [] := List.eq_nil_of_length_eq_zero (by omega)
    subst this
    simp
theorem turnL_at {x : List Int} {n : Int} {i : Nat} (hi : i < x.length) : (turnL x n)[i]? = x[((i + n) % x.length).toNat]? := by
  obtain ⟨k, hk, he, ht⟩ := turnL_k (Nat.lt_of_le_of_lt (Nat.zero_le _) hi) n
  rw [ht]
  have hx : (0 : Int) < x.length := by omega
  by_cases hik : i < x.length - k
  · rw [List.getElem?_append_left (by rw [List.length_drop]; omega), List.getElem?_drop]
    congr 1
    have : ((i : Int) + n) % x.length = i + k := by
      rw [← Int.add_emod_emod, ← he]
      exact Int.emod_eq_of_lt (by omega) (by omega)
    omega
  · rw [List.getElem?_append_right (by rw [List.length_drop]; omega), List.length_drop, List.getElem?_take_of_lt (by omega)]
    congr 1
    have : ((i : Int) + n) % x.length = i + k - x.length := by
      rw [← Int.add_emod_emod, ← he, ← Int.sub_emod_right]
      exact Int.emod_eq_of_lt (by omega) (by omega)
    omega
theorem turnL_congr {x : List Int} {n m : Int} (h : n % x.length = m % x.length) : turnL x n = turnL x m := by
  have e : ∀ q : Int, q.emod x.length = q % x.length := fun _ => rfl
  unfold turnL
  rw [e, e, h]
theorem turnL_turnL (x : List Int) (n m : Int) : turnL (turnL x n) m = turnL x (n + m) := by
  refine List.ext_getElem? fun i => ?_
  by_cases hi : i < x.length
  · have hx : (0 : Int) < x.length := by omega
    have h1 := Int.emod_nonneg ((i : Int) + m) (show (x.length : Int) ≠ 0 by omega)
    have h2 := Int.emod_lt_of_pos ((i : Int) + m) hx
    rw [turnL_at (by simpa using hi), turnL_at hi]
    simp only [turnL_len]
    rw [turnL_at (by omega)]
    congr 2
    rw [Int.toNat_of_nonneg h1, Int.emod_add_emod]
    congr 1
    omega
  · rw [List.getElem?_eq_none (by simp; omega), List.getElem?_eq_none (by simp; omega)]
theorem turnL_zero (x : List Int) : turnL x 0 = x := by
  unfold turnL
  have e : (0 : Int).emod x.length = 0 := Int.zero_emod _
  dsimp only
  rw [e]
  simp
theorem turnL_perm (x : List Int) (n : Int) : (turnL x n).Perm x := by
  unfold turnL
  dsimp only
  exact (List.perm_append_comm).trans (by rw [List.take_append_drop])
/-! ### shifts by constants -/
instance : DecidableEq Gra := fun a b => decidable_of_iff (a.most = b.most ∧ a.nodes = b.nodes) ⟨fun h => by cases a; cases b; simp_all, fun h => by subst h; exact ⟨rfl, rfl⟩⟩
def fixedB (n k side : Nat) : Bool := decide (byG (gIn 4000 (n + 1)) side (natInts (rIn 0 n)) (natInts (constL k 6)) = (gIn 4000 (n + 1), shN side (rIn 0 n) (min k n), 0))
set_option maxRecDepth 100000 in
theorem fixed_all : (List.range 9).all (fun n => (List.range 21).all fun k => fixedB (n + 1) k 1 && fixedB (n + 1) k 2) = true := by decide +kernel
theorem fixed_facts {n k side : Nat} (h1 : 1 ≤ n) (h9 : n ≤ 9) (hk : k ≤ 20) (hs : side = 1 ∨ side = 2) : byG (gIn 4000 (n + 1)) side (natInts (rIn 0 n)) (natInts (constL k 6)) = (gIn 4000 (n + 1), shN side (rIn 0 n) (min k n), 0) := by
  have h := List.all_eq_true.1 fixed_all (n - 1) (List.mem_range.2 (by omega))
  have h := List.all_eq_true.1 h k (List.mem_range.2 (by omega))
  rw [show n - 1 + 1 = n by omega, Bool.and_eq_true] at h
  rcases hs with rfl | rfl
  · exact of_decide_eq_true h.1
  · exact of_decide_eq_true h.2
/-- shifted twice to one side -/
theorem shL_shL {side : Nat} (x : List Int) (n m : Nat) : shL side (shL side x (min n x.length)) (min m x.length) = shL side x (min (n + m) x.length) := by
  refine List.ext_getElem? fun i => ?_
  by_cases hi : i < x.length
  · have g : ∀ (y : List Int) (j k : Nat), (shL side y k).getD j 0 = if j < y.length then (if side = 1 then (if k ≤ j then y.getD (j - k) 0 else 0) else y.getD (j + k) 0) else 0 := fun y j k => by
      rw [List.getD_eq_getElem?_getD]
      split
      · rename_i h; rw [shL_at h]; rfl
      · rename_i h; rw [List.getElem?_eq_none (by simp; omega)]; rfl
    have z : ∀ j, x.length ≤ j → x.getD j 0 = 0 := fun j hj => by rw [List.getD_eq_getElem?_getD, List.getElem?_eq_none hj]; rfl
    rw [shL_at (by simpa using hi), shL_at hi]
    congr 1
    rw [g, g]
    split
    · by_cases h1 : min (n + m) x.length ≤ i
      · rw [if_pos h1, if_pos (by omega), if_pos (by omega), if_pos (by omega)]
        congr 1; omega
      · rw [if_neg h1]
        split
        · rw [if_pos (by omega), if_neg (by omega)]
        · rfl
    · by_cases h1 : i + (n + m) < x.length
      · rw [if_pos (by omega)]
        congr 1; omega
      · rw [z (i + min (n + m) x.length) (by omega)]
        split
        · exact z _ (by omega)
        · rfl
  · rw [List.getElem?_eq_none (by simp; omega), List.getElem?_eq_none (by simp; omega)]
end Go.Aig
namespace Go.Aig
/-- numbers of L bits each, side by side -/
def joinB (L : Nat) (ds : List Nat) : Nat := ds.foldr (fun d r => 2 ^ L * r + d) 0
theorem join_bit (L : Nat) : ∀ (ds : List Nat) (b a : Nat), (∀ d ∈ ds, d < 2 ^ L) → b < ds.length → a < L → (joinB L ds).testBit (L * b + a) = (ds.getD b 0).testBit a
  | [], b, a, _, hb, _ => by simp at hb
  | d :: ds, b, a, hd, hb, ha => by
    show (2 ^ L * joinB L ds + d).testBit _ = _
    rw [Nat.testBit_two_pow_mul_add _ (hd d (List.mem_cons_self ..))]
    cases b with
    | zero => rw [if_pos (by omega)]; simp
    | succ b =>
      rw [if_neg (by rw [Nat.mul_add]; omega), show L * (b + 1) + a - L = L * b + a by rw [Nat.mul_add]; omega, join_bit L ds b a (fun d hd' => hd d (List.mem_cons_of_mem _ hd')) (by simpa using hb) ha]
      simp
/-- bit i of a word of n bits shifted by b, for all words at once -/
def shPat (side n i b : Nat) : Nat := if side = 1 then (if b ≤ i then pat n (i - b) else 0) else if i + b < n then pat n (i + b) else 0
theorem shPat_lt (side n i b : Nat) : shPat side n i b < 2 ^ 2 ^ n := by
  have hp : 0 < 2 ^ 2 ^ n := Nat.two_pow_pos _
  unfold shPat
  (repeat' split) <;> first | exact pat_lt _ _ | exact hp
theorem shPat_bit {side n i b a : Nat} (hs : side = 1 ∨ side = 2) (hi : i < n) (ha : a < 2 ^ n) : (shPat side n i b).testBit a = if side = 1 then decide (b ≤ i) && a.testBit (i - b) else a.testBit (i + b) := by
  unfold shPat
  rcases hs with rfl | rfl
  · show (if b ≤ i then pat n (i - b) else 0).testBit a = (decide (b ≤ i) && a.testBit (i - b))
    split
    · rename_i h
      rw [decide_eq_true h, Bool.true_and]
      exact pat_bit n _ a (by omega) ha
    · rename_i h
      rw [decide_eq_false h, Bool.false_and, Nat.zero_testBit]
  · show (if i + b < n then pat n (i + b) else 0).testBit a = a.testBit (i + b)
    split
    · rename_i h
      exact pat_bit n _ a h ha
    · rename_i h
      rw [Nat.zero_testBit, Nat.testBit_lt_two_pow (Nat.lt_of_lt_of_le ha (Nat.pow_le_pow_right (by omega) (by omega)))]
def shVal (side n a b : Nat) : Nat := if side = 1 then a <<< b % 2 ^ n else a >>> b
def outB (side n m : Nat) (V l : List Nat) : Bool := l.length == n && (List.range n).all fun i => wref (2 ^ 2 ^ (n + m) - 1) V (l.getD i 0) == joinB (2 ^ n) ((List.range (2 ^ m)).map (shPat side n i))
theorem out_val {side n m : Nat} {V l : List Nat} (hs : side = 1 ∨ side = 2) (h : outB side n m V l = true) {a b : Nat} (ha : a < 2 ^ n) (hb : b < 2 ^ m) :
    bitsVal (l.map fun r => (wref (2 ^ 2 ^ (n + m) - 1) V r).testBit (2 ^ n * b + a)) = shVal side n a b := by
  unfold outB at h
  rw [Bool.and_eq_true] at h
  obtain ⟨h1, h2⟩ := h
  have hl : l.length = n := eq_of_beq h1
  apply Nat.eq_of_testBit_eq
  intro i
  rw [bitsVal_bit, List.getD_eq_getElem?_getD, List.getElem?_map]
  by_cases hi : i < n
  · have h3 : wref (2 ^ 2 ^ (n + m) - 1) V (l.getD i 0) = _ := eq_of_beq (List.all_eq_true.1 h2 i (List.mem_range.2 hi))
    have hli : l[i]? = some (l.getD i 0) := by rw [List.getD_eq_getElem?_getD, List.getElem?_eq_getElem (show i < l.length by omega)]; rfl
    rw [hli]
    show (wref _ V (l.getD i 0)).testBit _ = _
    rw [h3, join_bit (2 ^ n) _ b a (fun d hd => by
      obtain ⟨c, _, rfl⟩ := List.mem_map.1 hd
      exact shPat_lt side n i c) (by simpa using hb) ha, List.getD_eq_getElem?_getD, List.getElem?_map, List.getElem?_range hb]
    show (shPat side n i b).testBit a = _
    rw [shPat_bit hs hi ha]
    unfold shVal
    rcases hs with rfl | rfl
    · rw [if_pos rfl, if_pos rfl, Nat.testBit_mod_two_pow, decide_eq_true hi, Bool.true_and, Nat.testBit_shiftLeft]
    · rw [if_neg (by omega), if_neg (by omega), Nat.testBit_shiftRight, Nat.add_comm]
  · rw [List.getElem?_eq_none (by omega)]
    unfold shVal
    rcases hs with rfl | rfl
    · rw [if_pos rfl, Nat.testBit_mod_two_pow, decide_eq_false hi]; rfl
    · rw [if_neg (by omega), Nat.testBit_shiftRight, Nat.testBit_lt_two_pow (Nat.lt_of_lt_of_le ha (Nat.pow_le_pow_right (by omega) (by omega)))]; rfl
def sisB (n m : Nat) : Bool :=
  let A := byG (gIn 4000 (n + m)) 1 (natInts (rIn 0 n)) (natInts (rIn n m))
  let B := byG A.1 2 (natInts (rIn 0 n)) (natInts (rIn n m))
  A.2.2 == 0 && B.2.2 == 0 && (inputs B.1.nodes).length == n + m && !badIn B.1 (natInts A.2.1) && !badIn B.1 (natInts B.2.1) && A.2.1.all (fun r => decide (r ≤ 1000000)) && B.2.1.all (fun r => decide (r ≤ 1000000)) && outB 1 n m (allV (n + m) B.1.nodes) A.2.1 && outB 2 n m (allV (n + m) B.1.nodes) B.2.1
set_option maxRecDepth 100000 in
theorem sis_all : (List.range 9).all (fun n => (List.range 5).all fun m => sisB (n + 1) (m + 1)) = true := by decide +kernel
structure SisF (n m : Nat) (G1 G2 : Gra) (l1 l2 : List Nat) : Prop where
  r1 : byG (gIn 4000 (n + m)) 1 (natInts (rIn 0 n)) (natInts (rIn n m)) = (G1, l1, 0)
  r2 : byG G1 2 (natInts (rIn 0 n)) (natInts (rIn n m)) = (G2, l2, 0)
  n1 : l1.length = n
  n2 : l2.length = n
  b1 : ∀ r ∈ l1, r ≤ 1000000
  b2 : ∀ r ∈ l2, r ≤ 1000000
  v1 : ∀ a b, a < 2 ^ n → b < 2 ^ m → ∃ B, Go.Proofs.Ytnmfdiiehkkjcaa.bitsR G2 (givenL n m a b) (natInts l1) = (B, 0) ∧ B.length = n ∧ bitsVal B = a <<< b % 2 ^ n
  v2 : ∀ a b, a < 2 ^ n → b < 2 ^ m → ∃ B, Go.Proofs.Ytnmfdiiehkkjcaa.bitsR G2 (givenL n m a b) (natInts l2) = (B, 0) ∧ B.length = n ∧ bitsVal B = a >>> b
theorem sis_facts {n m : Nat} (h1 : 1 ≤ n) (h9 : n ≤ 9) (m1 : 1 ≤ m) (m5 : m ≤ 5) : ∃ G1 G2 l1 l2, SisF n m G1 G2 l1 l2 := by
  have h := List.all_eq_true.1 (List.all_eq_true.1 sis_all (n - 1) (List.mem_range.2 (by omega))) (m - 1) (List.mem_range.2 (by omega))
  rw [show n - 1 + 1 = n by omega, show m - 1 + 1 = m by omega] at h
  unfold sisB at h
  dsimp only at h
  generalize hA : byG (gIn 4000 (n + m)) 1 (natInts (rIn 0 n)) (natInts (rIn n m)) = A at h
  generalize hB : byG A.1 2 (natInts (rIn 0 n)) (natInts (rIn n m)) = B at h
  obtain ⟨G1, l1, e1⟩ := A
  obtain ⟨G2, l2, e2⟩ := B
  simp only [Bool.and_eq_true, Bool.not_eq_true', beq_iff_eq] at h
  obtain ⟨⟨⟨⟨⟨⟨⟨⟨rfl, rfl⟩, hi⟩, hb1⟩, hb2⟩, hr1⟩, hr2⟩, ho1⟩, ho2⟩ := h
  have hl1 : l1.length = n := by unfold outB at ho1; rw [Bool.and_eq_true] at ho1; exact eq_of_beq ho1.1
  have hl2 : l2.length = n := by unfold outB at ho2; rw [Bool.and_eq_true] at ho2; exact eq_of_beq ho2.1
  refine ⟨G1, G2, l1, l2, hA, hB, hl1, hl2, fun r hr => of_decide_eq_true (List.all_eq_true.1 hr1 r hr), fun r hr => of_decide_eq_true (List.all_eq_true.1 hr2 r hr), fun a b ha hb => ⟨_, bits_all ha hb hb1 hi, by simp [hl1], ?_⟩, fun a b ha hb => ⟨_, bits_all ha hb hb2 hi, by simp [hl2], ?_⟩⟩
  · rw [out_val (.inl rfl) ho1 ha hb]; unfold shVal; rw [if_pos rfl]
  · rw [out_val (.inr rfl) ho2 ha hb]; unfold shVal; rw [if_neg (by omega)]
end Go.Aig
namespace Go.Proofs.Ytnmfdiiehkkjcaa
open Go.RowKit Go.Mem Go.Aig
section
variable {w : World} {g : Nat} {G : Gra} {F : List Nat}
set_option maxRecDepth 100000 in
set_option maxHeartbeats 2000000 in
theorem Reads_is (h : GIn w g G F) {a : Option Addr} {l : List Int} {m c : Nat} (hm : l.length = m) (hL : Sl w a l) (hbd : ∀ r ∈ l, -9223372036854775808 ≤ r ∧ r ≤ 9223372036854775807) {xa : Option Addr} {ins : List Bool} {k xc : Nat} (hk : ins.length = k) (hI : Sb w xa ins) (hkl : k ≤ 1000) {B : List Bool} (hR : bitsR G ins l = (B, 0)) (hB : B.length = m) (h1 : 1 ≤ m) (h16 : m ≤ 16) :
    Calls Try.prog 66 #[.pointer (some ⟨g, 0, none⟩), .slice a m c, .slice xa k xc] w fun e w' => e = .returned (.tuple #[.int .u32 (bitsVal B), .bool true]) ∧ Ch [] w w' := by
  have HB := simBits_is h (xa := xa) (ins := ins) k xc hk hI (by omega) m c hm hL hbd (by omega)
  rw [hR] at HB
  have HV := fun (W : World) (ba : Option Addr) (bc : Nat) (hS : Sb W ba B) => sValue_is (w := W) (x := ⟨a, l, c⟩) (by show l.length ≤ _; omega) bc (by omega) hS
  simp only [WV.val, hB, hm, h1, h16, and_self, if_true] at HV
  clear hI hL
  go_enter Try.func66, Try.ntmps66
  go_wp2_with fail
  refine HB.mono ?_
  rintro e w1 ⟨v, rfl, hrow, hown, hch⟩
  obtain ⟨ba, bc, rfl⟩ := hrow.parts (by show 0 < B.length; omega)
  have hS : Sb w1 (some ⟨ba, 0, none⟩) B := row.sv hrow rfl (by show B.length ≤ _; omega)
  simp only [hB]
  go_wp2_with fail
  refine (HV w1 _ bc hS).mono ?_
  rintro e w2 ⟨rfl, rfl⟩
  go_wp2_with fail
  go_ret2
  exact ⟨rfl, hch⟩
end
theorem given_snoc1 (n m a b k : Nat) (hk : k < n) : (givenL n m a b).take (k + 1) = (givenL n m a b).take k ++ [a.testBit k] := by
  rw [List.take_add_one]
  congr 1
  unfold givenL
  rw [List.getElem?_append_left (by simpa using hk), List.getElem?_map, List.getElem?_range hk]
  rfl
theorem given_snoc2 (n m a b k : Nat) (hk : k < m) : (givenL n m a b).take (n + k + 1) = (givenL n m a b).take (n + k) ++ [b.testBit k] := by
  rw [List.take_add_one]
  congr 1
  unfold givenL
  rw [List.getElem?_append_right (by simp), List.getElem?_map]
  simp only [List.length_map, List.length_range, Nat.add_sub_cancel_left]
  rw [List.getElem?_range hk]
  rfl
set_option maxRecDepth 100000 in
set_option maxHeartbeats 4000000 in
theorem bits25_is {w : World} (n m a b : Nat) (hn : n ≤ 60) (hm : m ≤ 60) (ha : a ≤ 1000000) (hb : b ≤ 1000000) :
    Calls Try.prog 65 #[.int .i64 n, .int .i64 m, .int .i64 a, .int .i64 b] w fun e w' => ∃ v, e = .returned v ∧ row w' 4 1 v (n + m) (bools (givenL n m a b)) ∧ (∀ q ∈ v.ownBlock.toList, w.heap.size ≤ q) ∧ Ch [] w w' := by
  have HS1 := Lib.hid (given_snoc1 n m a b)
  have HS2 := Lib.hid (given_snoc2 n m a b)
  have hlen := givenL_len n m a b
  obtain ⟨GL, hGL⟩ : ∃ GL, GL = givenL n m a b := ⟨_, rfl⟩
  rw [← hGL] at HS1 HS2 hlen ⊢
  clear hGL
  go_enter Try.func65, Try.ntmps65
  go_wp2_with fail
  go_loopw [9, 13] (fun o i wr => ∃ s : Nat, s ≤ n ∧ i = .int .i64 s ∧ Ch [] w wr ∧ row wr 4 1 o s (bools (GL.take s)) ∧ ∀ q ∈ o.ownBlock.toList, w.heap.size ≤ q) (fun _ i _ => n - (intOf i).toNat)
  case atStart => exact ⟨0, by omega, rfl, Ch.refl _ _, ⟨rfl, .inl ⟨rfl, rfl⟩⟩, by simp⟩
  case round =>
    obtain ⟨s, hs, rfl, hc, hrow, hlo⟩ := hrel
    obtain ⟨oa, oc, rfl⟩ := row.shape hrow
    have HROW := Lib.hid hrow; clear hrow
    by_cases hlt2 : s < n
    · have hsn := HS1.out s hlt2
      have hbit := bit_i64 a s (by omega)
      rw [← Nat.testBit_eq_decide_div_mod_eq] at hbit
      have HC2 := Lib.hid hc; clear hc
      have HLO := Lib.hid hlo; clear hlo
      generalize a.testBit s = tb' at hsn hbit
      have hcA : Ch [] wr (wr.alloc (.cells #[.bool tb'] 4)) := (Ch.refl _ _).alloc _
      have hrA := HROW.out.ch hcA (by simp)
      have hbA : blk (wr.alloc (.cells #[.bool tb'] 4)) wr.heap.size [.bool tb'] := blk.new' _ _ rfl
      have HSU := Lib.hid hsn; clear hsn
      have HRA := Lib.hid hrA; clear hrA
      have HBA := Lib.hid hbA; clear hbA
      have HCA := Lib.hid hcA; clear hcA
      go_wp2_with (at_builtin; go_loud (refine wpList_append_row slBools rfl _ _ rfl (v := .slice oa s oc) (n := s) (xs := bools (GL.take s)) rfl HRA.out (ad := ⟨wr.heap.size, 0, none⟩) (m := 1) (c := 1) (news := [.bool tb']) rfl rfl (news_blk HBA.out) (by simp [Value.oneCell']) (by omega) (by omega) ?_; intro v' w5 hown4 hC4 hf4; have HO4 := Lib.hid hown4; clear hown4; have HCC4 := Lib.hid hC4; clear hC4; have HF4 := Lib.hid hf4; clear hf4))
      go_roundw
      case rel =>
        obtain ⟨q1, q2⟩ := app_step HC2.out HCA.out HLO.out HCC4.out HF4.out
        refine ⟨s + 1, by omega, by go_num, q1, ?_, q2⟩
        rw [HSU.out, show bools (GL.take s ++ [tb']) = bools (GL.take s) ++ [.bool tb'] by simp [bools]]
        exact HO4.out
      case measure => simp [intOf]; omega
    · have hsn : s = n := by omega
      subst hsn
      have HC1 := Lib.hid hc; clear hc
      have HLO1 := Lib.hid hlo; clear hlo
      obtain ⟨wo, hwo⟩ : ∃ wo, wo = wr := ⟨_, rfl⟩
      subst hwo
      go_wp2_with fail
      go_loopw [9, 26] (fun o i wr => ∃ t : Nat, t ≤ m ∧ i = .int .i64 t ∧ Ch [] w wr ∧ row wr 4 1 o (s + t) (bools (GL.take (s + t))) ∧ ∀ q ∈ o.ownBlock.toList, w.heap.size ≤ q) (fun _ i _ => m - (intOf i).toNat)
      case atStart => exact ⟨0, by omega, rfl, HC1.out, HROW.out, HLO1.out⟩
      case round =>
        clear HROW HC1 HLO1
        obtain ⟨t, ht, rfl, hc, hrow, hlo⟩ := hrel
        obtain ⟨oa, oc, rfl⟩ := row.shape hrow
        have HROW := Lib.hid hrow; clear hrow
        by_cases hlt3 : t < m
        · have hsn := HS2.out t hlt3
          have hbit := bit_i64 b t (by omega)
          rw [← Nat.testBit_eq_decide_div_mod_eq] at hbit
          have HC2 := Lib.hid hc; clear hc
          have HLO := Lib.hid hlo; clear hlo
          generalize b.testBit t = tb' at hsn hbit
          have hcA : Ch [] wr (wr.alloc (.cells #[.bool tb'] 4)) := (Ch.refl _ _).alloc _
          have hrA := HROW.out.ch hcA (by simp)
          have hbA : blk (wr.alloc (.cells #[.bool tb'] 4)) wr.heap.size [.bool tb'] := blk.new' _ _ rfl
          have HSU := Lib.hid hsn; clear hsn
          have HRA := Lib.hid hrA; clear hrA
          have HBA := Lib.hid hbA; clear hbA
          have HCA := Lib.hid hcA; clear hcA
          go_wp2_with (at_builtin; go_loud (refine wpList_append_row slBools rfl _ _ rfl (v := .slice oa (s + t) oc) (n := s + t) (xs := bools (GL.take (s + t))) rfl HRA.out (ad := ⟨wr.heap.size, 0, none⟩) (m := 1) (c := 1) (news := [.bool tb']) rfl rfl (news_blk HBA.out) (by simp [Value.oneCell']) (by omega) (by omega) ?_; intro v' w5 hown4 hC4 hf4; have HO4 := Lib.hid hown4; clear hown4; have HCC4 := Lib.hid hC4; clear hC4; have HF4 := Lib.hid hf4; clear hf4))
          go_roundw
          case rel =>
            obtain ⟨q1, q2⟩ := app_step HC2.out HCA.out HLO.out HCC4.out HF4.out
            refine ⟨t + 1, by omega, by go_num, q1, ?_, q2⟩
            rw [show s + (t + 1) = s + t + 1 by omega, HSU.out, show bools (GL.take (s + t) ++ [tb']) = bools (GL.take (s + t)) ++ [.bool tb'] by simp [bools]]
            exact HO4.out
          case measure => simp [intOf]; omega
        · have htm : t = m := by omega
          subst htm
          have hrow := HROW.out
          rw [List.take_of_length_le (by omega)] at hrow
          have HR := Lib.hid hrow; clear hrow HROW
          have HC2 := Lib.hid hc; clear hc
          have HLO := Lib.hid hlo; clear hlo
          go_wp2_with fail
          go_ret
          exact ⟨_, rfl, HR.out, HLO.out, HC2.out⟩
end Go.Proofs.Ytnmfdiiehkkjcaa
namespace Go.Proofs.Ytnmfdiiehkkjcaa
open Go.RowKit Go.Mem Go.Aig
theorem GVo.next {w w1 w2 : World} {g : Nat} {G1 : Gra} {F F' : List Nat} {v : Value} {l : List Nat} (hc : Ch F w w1) (hF : ∀ k ∈ F', k ∈ F ∨ w.heap.size ≤ k) (h2 : F'[2]? = F[2]?) (h : GVo w1 g G1 [] F' v l w2) : GVo w g G1 [] F v l w2 := by
  obtain ⟨F1, a1, a2, a3, a4, a5, a6⟩ := h
  refine ⟨F1, a1, hc.trans a2 (fun k hk => hF k hk), fun k hk => (a3 k hk).elim (hF k) (fun e => .inr (Nat.le_trans hc.size e)), a4.trans h2, a5, fun k hk => ⟨Nat.le_trans hc.size (a6 k hk).1, (a6 k hk).2⟩⟩
theorem badIn_nats {G : Gra} {x : List Int} (h : badIn G x = false) : natInts (nats x) = x ∧ ∀ r ∈ nats x, r < 2 * G.nodes.length := badIn_no h
/-- the word in which bits are taken back: what is known between two rounds -/
structure E8 (w : World) (g : Nat) (F : List Nat) (W : World) (b n c : Nat) (Gp : Gra) (l : List Nat) (F' : List Nat) : Prop where
  gin : GIn W g Gp F'
  ch : Ch F w W
  own : ∀ k ∈ F', k ∈ F ∨ w.heap.size ≤ k
  f2 : F'[2]? = F[2]?
  lo : w.heap.size ≤ b
  nb : b ∉ F'
  row : Go.Mem.row W 29 1 (.slice (some ⟨b, 0, none⟩) n c) n (refsCells l)
theorem E8.done {w W : World} {g : Nat} {F F' : List Nat} {b n c : Nat} {Gp : Gra} {l : List Nat} (h : E8 w g F W b n c Gp l F') (hn : l.length = n) : GVo w g Gp [] F (.slice (some ⟨b, 0, none⟩) n c) l W := by
  refine ⟨F', h.gin, h.ch, h.own, h.f2, by rw [hn]; exact h.row, fun k hk => ?_⟩
  cases hk
  exact ⟨h.lo, h.nb⟩
theorem E8.bad {w W : World} {g : Nat} {F F' : List Nat} {b n c : Nat} {Gp : Gra} {l : List Nat} (h : E8 w g F W b n c Gp l F') : GVo w g Gp [] F (.slice none 0 0) [] W := GVo.nil (F' := F') h.gin h.ch h.own h.f2
/-- the graph grows; the word stays -/
theorem E8.to {w W W' : World} {g : Nat} {F F' : List Nat} {b n c : Nat} {Gp G' : Gra} {l : List Nat} (h : E8 w g F W b n c Gp l F') (ht : GTo W g G' F' W') : ∃ F1, E8 w g F W' b n c G' l F1 := by
  obtain ⟨F1, a1, a2, a3, a4⟩ := ht
  have hbW : b < W.heap.size := (h.row.lt b rfl).2
  exact ⟨F1, a1, h.ch.trans a2 (fun q hq => h.own q hq), fun q hq => (a3 q hq).elim (h.own q) (fun e => .inr (Nat.le_trans h.ch.size e)), a4.trans h.f2, h.lo, fun hk => (a3 b hk).elim h.nb (fun e => by omega), h.row.ch a2 (fun q hq hq2 => by cases hq; exact h.nb hq2)⟩
theorem E8.put {w W : World} {g : Nat} {F F' : List Nat} {b n c : Nat} {Gp : Gra} {l : List Nat} (h : E8 w g F W b n c Gp l F') (k r : Nat) : E8 w g F (W.setCell ⟨b, k, none⟩ (.int .i64 r)) b n c Gp (l.set k r) F' := by
  have hcb : Ch [b] W (W.setCell ⟨b, k, none⟩ (.int .i64 r)) := (Ch.refl _ _).setCell (.inl (by simp)) _
  refine ⟨h.gin.same hcb (fun q hq hq2 => h.nb (by rw [List.mem_singleton.1 hq2] at hq; exact hq)), h.ch.setCell (.inr h.lo) _, h.own, h.f2, h.lo, h.nb, ?_⟩
  have e : refsCells (l.set k r) = (refsCells l).set k (.int .i64 r) := by unfold refsCells; rw [List.map_set]
  rw [e]
  exact row.set h.row _
theorem E8.at {w W : World} {g : Nat} {F F' : List Nat} {b n c : Nat} {Gp : Gra} {l : List Nat} (h : E8 w g F W b n c Gp l F') {k r : Nat} (hk : l[k]? = some r) (hn : 0 < n) : W.cell? ⟨b, k, none⟩ = some (.int .i64 r) ∧ W.frozen? ⟨b, k, none⟩ = false :=
  ⟨row_at2 h.row (by simp [refsCells, hk]), row_fz h.row hn k⟩
section
variable {w : World} {g : Nat} {G : Gra} {F : List Nat}
/-- one step of move: a shift by a number, and a choice -/
theorem step_in {wr : World} {Gp : Gra} {va : Option Addr} {vc : Nat} {l : List Nat} {n : Nat} (hn : l.length = n) (hnm : n ≤ 1000) (hv : GVo w g Gp [] F (.slice va n vc) l wr) {w2 : World} {side q : Nat} {ua : Option Addr} {uc : Nat} (hu : WNew wr (.slice ua n uc) (intCells (shL side (natInts l) q)) w2)
    {c : Nat} (hok : Ok Gp) (hc : c < 2 * Gp.nodes.length) (hlt : ∀ r ∈ l, r < 2 * Gp.nodes.length) :
    Calls Try.prog 193 #[.pointer (some ⟨g, 0, none⟩), .int .i64 c, .slice va n vc, .slice ua n uc] w2 fun e W' => ∃ (v : Value) (G1 : Gra) (l1 : List Nat) (e1 : Nat), e = .returned (.tuple #[v, .int .i64 e1]) ∧ Step5 Gp (eachF (rop (muxOf c)) (Gp, 0) (l.zip (shN side l q))) G1 l1 e1 ∧ GVo w g G1 [] F v l1 W' := by
  subst hn
  obtain ⟨F', h1, h2, h3, h4, h5, h6⟩ := hv
  obtain ⟨u1, u2, u3⟩ := hu
  have e1 : (intCells (shL side (natInts l) q)).length = l.length := by simp [intCells]
  rw [e1] at u1
  have hsl : Sl w2 va (l.map fun (r : Nat) => (r : Int)) := by
    have := h5.ch u3 (by simp)
    rw [refs_natInts] at this
    exact Sl.of_ints this (by omega)
  have hsu : Sl w2 ua ((shN side l q).map fun (r : Nat) => (r : Int)) := by
    rw [shL_nat] at u1
    exact Sl.of_ints u1 (by omega)
  refine (step25_is (h1.same u3 (by simp)) hc l.length vc uc rfl (by simp) hnm hsl hsu (fun k hk => ?_) (fun k hk => ?_) hlt (shN_lt hlt (by have := hok.wf.pos; omega))).mono ?_
  · cases va with
    | none => simp [ablk] at hk
    | some p =>
      simp only [ablk, List.mem_singleton] at hk
      subst hk
      exact ⟨(h6 p.block rfl).2, by have := (h5.lt p.block rfl).2; have := u3.size; omega⟩
  · cases ua with
    | none => simp [ablk] at hk
    | some p =>
      simp only [ablk, List.mem_singleton] at hk
      subst hk
      have hge := u2 p.block (by simp [Value.ownBlock])
      exact ⟨fun hk2 => by have := h1.lt p.block hk2; omega, (u1.lt p.block rfl).2⟩
  · rintro e W' ⟨v, G1, l1, e1, rfl, hs, hg⟩
    have hg2 := (GVo.since u3 hg).next h2 h3 h4
    exact ⟨v, G1, l1, e1, rfl, hs, hg2⟩
set_option maxRecDepth 100000 in
set_option maxHeartbeats 3000000 in
theorem move25_is (h : GIn w g G F) {side : Nat} (hs : side = 1 ∨ side = 2) {xa ya : Option Addr} {xl yl : List Int} {xc yc n m : Nat} (hx : WVin w F ⟨xa, xl, xc⟩) (hy : WVin w F ⟨ya, yl, yc⟩) (hn : xl.length = n) (hm : yl.length = m) (hn1 : 1 ≤ n) (hn16 : n ≤ 16) (hm1 : 1 ≤ m) (hm16 : m ≤ 16) (hyc : m ≤ yc) (hbx : badIn G xl = false) (hby : badIn G yl = false) :
    Calls Try.prog 136 #[.pointer (some ⟨g, 0, none⟩), .int .u8 side, .slice xa n xc, .slice ya m yc] w fun e W' => ∃ (v : Value) (G1 : Gra) (l1 : List Nat) (e1 : Nat), e = .returned (.tuple #[v, .int .i64 e1]) ∧ Step5 G (moveF side (G, 0) (nats xl) (nats yl)) G1 l1 e1 ∧ GVo w g G1 [] F v l1 W' := by
  have hl := h.lt
  have hok := h.ok
  have hG := hok.small
  obtain ⟨hxe, hxlt⟩ := badIn_nats hbx
  obtain ⟨hye, hylt⟩ := badIn_nats hby
  have hcl := Clref_w hx.ok n hn
  obtain ⟨yb, yo, hya, hyat⟩ := hy.ok.sl.at (by show 0 < yl.length; omega)
  simp only at hya
  subst hya
  have hyF := hy.apart yb (by simp [ablk])
  have hxn : (nats xl).length = n := by simp [hn]
  have hyn : (nats yl).length = m := by simp [hm]
  obtain ⟨X, hX⟩ : ∃ X, X = nats xl := ⟨_, rfl⟩
  obtain ⟨Y, hY⟩ : ∃ Y, Y = nats yl := ⟨_, rfl⟩
  rw [← hX] at hxe hxlt hxn ⊢
  rw [← hY] at hye hylt hyn ⊢
  clear hX hY
  have hst := fun W => steps25_is (w := W) n m (by omega) (by omega)
  have hsle := stepsN_le n m
  obtain ⟨K, hK⟩ : ∃ K, K = stepsN n m := ⟨_, rfl⟩
  have hmf := @moveF_full side (G, 0) X Y
  have hmh := @moveF_high side (G, 0) X Y
  have hmb := @moveF_bad side (G, 0) X Y
  rw [hxn, hyn, ← hK] at hmf hmh hmb
  rw [← hK] at hst hsle
  clear hK
  have hmF := fun cs => movF_lok hok (side := side) (x := X) (cs := cs) hxlt
  have hmL := fun cs => movF_len side (G, 0) X cs
  rw [hxn] at hmL
  have H := Lib.hid h; clear h
  have HL := Lib.hid hl; clear hl
  have HOK := Lib.hid hok; clear hok
  have HXE := Lib.hid hxe; clear hxe
  have HXLT := Lib.hid hxlt; clear hxlt
  have HYE := Lib.hid hye; clear hye
  have HYLT := Lib.hid hylt; clear hylt
  have HYAT := Lib.hid hyat; clear hyat
  have HYF := Lib.hid hyF; clear hyF
  have HXN := Lib.hid hxn; clear hxn
  have HYN := Lib.hid hyn; clear hyn
  have HMF := Lib.hid hmf; clear hmf
  have HMH := Lib.hid hmh; clear hmh
  have HMB := Lib.hid hmb; clear hmb
  have HLOK := Lib.hid hmF; clear hmF
  have HML := Lib.hid hmL; clear hmL
  have HHN := Lib.hid hn; clear hn
  have HHM := Lib.hid hm; clear hm
  have HHS := Lib.hid hs; clear hs
  have HST := Lib.hid hst; clear hst
  clear hx hy hbx hby
  go_enter Try.func136, Try.ntmps136
  go_wp2_with fail
  refine wp_scope_straight ?_
  go_wp2_with fail
  refine hcl.mono ?_
  rintro e w1 ⟨v, rfl, hv⟩
  have hv0 : GVo w g G [] F v X w1 := by
    refine ⟨F, H.out.same hv.2.2 (by simp), hv.2.2.mono (by simp), fun k hk => .inl hk, rfl, ?_, fun k hk => ?_⟩
    · have := hv.1
      rw [refs_natInts, HXE.out]
      simpa [intCells, HXN.out, HHN.out] using this
    · have h1 := hv.2.1 k (by simp [hk])
      exact ⟨h1, fun hk2 => by have := HL.out k hk2; omega⟩
  have HV0 := Lib.hid hv0; clear hv0 hv hcl
  go_wp2_with fail
  refine (HST.out _).mono ?_
  rintro e w1' ⟨rfl, rfl⟩
  go_wp2_with fail
  refine wp_label ?_
  go_wp2_with fail
  go_loopw [10, 11, 29] (fun o e i wr => ∃ (k : Nat) (va : Option Addr) (vc : Nat) (Gp : Gra) (l : List Nat), k ≤ K ∧ i = .int .i64 k ∧ o = .slice va n vc ∧ e = .int .i64 (0 : Nat) ∧ movF side (G, 0) X (Y.take k) = ((Gp, 0), l) ∧ GVo w g Gp [] F (.slice va n vc) l wr) (fun _ _ i _ => K - (intOf i).toNat)
  case atStart =>
    have hv0 := HV0.out
    obtain ⟨va, vc, hv⟩ := (show ∃ a c, v = .slice a X.length c from by obtain ⟨_, _, _, _, _, h5, _⟩ := hv0; exact row.shape h5)
    rw [HXN.out] at hv
    subst hv
    exact ⟨0, va, vc, G, X, by omega, rfl, rfl, rfl, rfl, hv0⟩
  case round =>
    obtain ⟨k, va, vc, Gp, l, hk, rfl, rfl, rfl, hmv, hv⟩ := hrel
    have hlok := HLOK.out (Y.take k)
    have hll := HML.out (Y.take k)
    rw [hmv] at hlok hll
    have hop : Ok Gp := hlok.s.ok
    have hext : Ext G Gp := hlok.s.ext
    have hlt : ∀ r ∈ l, r < 2 * Gp.nodes.length := hlok.lt
    simp only at hll
    clear hlok
    by_cases hkK : k < K
    · obtain ⟨c, hc⟩ : ∃ c, Y[k]? = some c := ⟨_, List.getElem?_eq_getElem (by have := HYN.out; omega)⟩
      have hclt := hext.lt (HYLT.out c (List.mem_of_getElem? hc))
      have hyk : yl[k]? = some (c : Int) := by rw [← HYE.out]; simp [natInts, hc]
      have c0 : wr.cell? ⟨yb, yo + k, none⟩ = some (.int .i64 c) := by
        have h0 := HYAT.out k c hyk
        obtain ⟨_, _, hch, _⟩ := hv
        exact (hch.cell (cell_lt h0) (by simpa using HYF.out.1)).trans h0
      have htk : Y.take (k + 1) = Y.take k ++ [c] := by rw [List.take_add_one, hc]; rfl
      have hnx := movF_snoc side (G, 0) X (Y.take k) c
      rw [← htk, hmv, show (Y.take k).length = k by rw [List.length_take]; have := HYN.out; omega] at hnx
      have hpw : (2 : Nat) ^ k ≤ 2 ^ 16 := Nat.pow_le_pow_right (by omega) (by omega)
      have hpc : ((2 ^ k : Nat) : Int) = (2 : Int) ^ k := by push_cast; rfl
      have hw : wrap64 ((2 : Int) ^ k) = ((2 ^ k : Nat) : Int) := by rw [← hpc]; exact IntWalk.wrap64_in _ ⟨Int.le_trans (by decide) (Int.natCast_nonneg _), Int.le_trans (Int.ofNat_le.2 hpw) (by decide)⟩
      have hsh : Calls Try.prog 170 #[.int .u8 side, .slice va n vc, .int .i64 ((2 ^ k : Nat) : Int)] wr fun e w' => ∃ v, e = .returned v ∧ WNew wr v (intCells (shL side (natInts l) (2 ^ k))) w' := by
        obtain ⟨_, _, _, _, _, h5, _⟩ := hv
        rw [refs_natInts, hll] at h5
        have := shifted_is HHS.out (xl := natInts l) vc (2 ^ k) (Sl.of_ints h5 (by omega)) (by simp; omega) (Nat.le_trans hpw (by decide))
        rw [natInts_len, hll] at this
        exact this
      rw [← hw] at hsh
      have HSH := Lib.hid hsh; clear hsh
      have HV := Lib.hid hv; clear hv
      have HNX := Lib.hid hnx; clear hnx
      have HMV := Lib.hid hmv; clear hmv
      have HLT := Lib.hid hlt; clear hlt
      have HLL := Lib.hid hll; clear hll
      have HOP := Lib.hid hop; clear hop
      have HEXT := Lib.hid hext; clear hext
      have HCLT := Lib.hid hclt; clear hclt
      have HTK := Lib.hid htk; clear htk
      clear hw hpc hpw hyk hc HV0 HST
      go_wp2_with fail
      refine HSH.out.mono ?_
      rintro e w2 ⟨u, rfl, hu⟩
      obtain ⟨ua, uc, rfl⟩ := (show ∃ a c, u = .slice a n c from by have := row.shape hu.1; simpa [intCells, HLL.out] using this)
      have hstep := step_in HLL.out (by omega) HV.out hu HOP.out HCLT.out HLT.out
      have HSTEP := Lib.hid hstep; clear hstep hu HSH
      go_wp2_with fail
      refine HSTEP.out.mono ?_
      rintro e w3 ⟨v3, G1, l1, e1, rfl, hst, hv3⟩
      have hR : movF side (G, 0) X (Y.take (k + 1)) = eachF (rop (muxOf c)) (Gp, 0) (l.zip (shN side l (2 ^ k))) := HNX.out
      rw [← hR] at hst
      clear HSTEP hR
      by_cases hz : (movF side (G, 0) X (Y.take (k + 1))).1.2 = 0
      · obtain ⟨a1, a2, rfl⟩ := hst.yes hz
        have hmv2 : movF side (G, 0) X (Y.take (k + 1)) = ((G1, 0), l1) := by rw [a1, a2]; exact Prod.ext (Prod.ext rfl hz) rfl
        have hll1 := HML.out (Y.take (k + 1))
        rw [← a2] at hll1
        obtain ⟨wa, wc, rfl⟩ := (show ∃ a c, v3 = .slice a n c from by obtain ⟨_, _, _, _, _, h5, _⟩ := hv3; rw [hll1] at h5; exact row.shape h5)
        have HMV2 := Lib.hid hmv2; clear hmv2 a1 a2 hz hst
        have HV3 := Lib.hid hv3; clear hv3
        go_wp2_with fail
        go_roundw
        case rel => exact ⟨k + 1, wa, wc, G1, l1, by omega, by go_num, rfl, by trivial, HMV2.out, HV3.out⟩
        case measure => simp [intOf]; omega
      · obtain ⟨rfl, h201⟩ := hst.no hz
        have herr := hst.err
        have he1 : e1 = 201 := by omega
        subst he1
        have hpre : Y.take (k + 1) ++ (Y.take K).drop (k + 1) = Y.take K := by
          have e0 : Y.take (k + 1) = (Y.take K).take (k + 1) := by rw [List.take_take]; congr 1; omega
          rw [e0, List.take_append_drop]
        have hb1 := movF_bad side (G, 0) X (Y.take (k + 1)) ((Y.take K).drop (k + 1)) hz
        rw [hpre] at hb1
        have hb2 := HMB.out (by rw [hb1]; exact hz)
        have hfin : Step5 G (moveF side (G, 0) X Y) G1 [] 201 := ⟨fun h0 => absurd (by rw [hb2, hb1] at h0; exact h0) hz, fun _ => ⟨rfl, by rw [hb2, hb1]; omega⟩, .inr (by rw [hb2, hb1]; omega), HEXT.out.trans hst.ext, hst.ok⟩
        obtain ⟨wa, wc, rfl⟩ := (show ∃ a c, v3 = .slice a 0 c from by obtain ⟨_, _, _, _, _, h5, _⟩ := hv3; exact row.shape h5)
        have HFIN := Lib.hid hfin; clear hfin hb1 hb2 hpre herr h201 hst hz
        have HV3 := Lib.hid hv3; clear hv3
        go_wp2_with fail
        rw [Exit.noGoto_ret]
        go_ret2
        exact ⟨_, _, _, _, rfl, HFIN.out, HV3.out⟩
    · have hkk : k = K := by omega
      subst hkk
      by_cases hKm : k = m
      · have hf := HMF.out hKm
        rw [hmv] at hf
        have hfin : Step5 G (moveF side (G, 0) X Y) Gp l 0 := by
          rw [hf]; exact ⟨fun _ => ⟨rfl, rfl, rfl⟩, fun h0 => absurd rfl h0, .inl rfl, hext, hop⟩
        have HFIN := Lib.hid hfin; clear hfin hf
        have HV := Lib.hid hv; clear hv
        have hkb : ((k : Int) == (m : Int)) = true := beqI (by omega)
        clear hmv hlt hkK
        go_wp2_with fail
        rw [Exit.noGoto_ret]
        go_ret2
        exact ⟨_, _, _, _, rfl, HFIN.out, HV.out⟩
      · have hkb : ((k : Int) == (m : Int)) = false := by rw [beq_eq_false_iff_ne]; omega
        have hf := HMH.out hKm hmv
        obtain ⟨HI, hHI⟩ : ∃ HI, HI = Y.drop k := ⟨_, rfl⟩
        rw [← hHI] at hf
        have hHIlt : ∀ r ∈ HI, r < 2 * Gp.nodes.length := fun r hr => by rw [hHI] at hr; exact hext.lt (HYLT.out r (List.mem_of_mem_drop hr))
        have hHIl : HI.length = m - k := by rw [hHI, List.length_drop, HYN.out]
        obtain ⟨F', h1, h2, h3, h4, h5, h6⟩ := hv
        have hany := Any_g h1 (a := some ⟨yb, yo + k, none⟩) (l := natInts HI) (m - k) (yc - k) (by simp [hHIl]) ⟨fun i x hx => by
          refine ⟨yb, yo + k, rfl, ?_⟩
          have hx2 : yl[k + i]? = some x := by
            rw [← HYE.out]
            rw [hHI] at hx
            simpa [natInts, List.getElem?_drop] using hx
          have h0 := HYAT.out (k + i) x hx2
          rw [Nat.add_assoc]
          exact (h2.cell (cell_lt h0) (by simpa using HYF.out.1)).trans h0, by simp; omega⟩ (fun x hx => by obtain ⟨r, hr, rfl⟩ := List.mem_map.1 hx; have := hHIlt r hr; have := hop.small; omega) (fun p hp => by
          cases hp
          exact ⟨Nat.lt_of_lt_of_le (show yb < w.heap.size from HYF.out.2) h2.size, fun hk2 => (h3 yb hk2).elim HYF.out.1 (fun e => by have : yb < w.heap.size := HYF.out.2; omega)⟩)
        rw [natInts, doAny_r hHIlt] at hany
        have hfull := rAny_full hop hHIlt
        have hvv : GVo w g Gp [] F (.slice va n vc) l wr := ⟨F', h1, h2, h3, h4, h5, h6⟩
        obtain ⟨R, hR⟩ : ∃ R, R = rAny Gp HI := ⟨_, rfl⟩
        rw [← hR] at hany hfull hf
        have HANY := Lib.hid hany; clear hany
        have HF := Lib.hid hf; clear hf
        have HFU := Lib.hid hfull; clear hfull
        have HVV := Lib.hid hvv; clear hvv
        have HOP := Lib.hid hop; clear hop
        have HEXT := Lib.hid hext; clear hext
        have HLT := Lib.hid hlt; clear hlt
        have HLL := Lib.hid hll; clear hll
        have HH5 := Lib.hid h5; clear h5
        have HH2 := Lib.hid h2; clear h2
        have HH6 := Lib.hid h6; clear h6
        have HH3 := Lib.hid h3; clear h3
        have HH1 := Lib.hid h1; clear h1
        have hkm : k < m := by omega
        clear hmv hHI hHIlt hHIl hR HV0 HST hKm hkK
        go_wp2_with fail
        refine HANY.out.mono ?_
        rintro e w3 ⟨rfl, hto⟩
        clear HANY
        obtain ⟨b, rfl⟩ : ∃ b, va = some ⟨b, 0, none⟩ := by
          obtain ⟨b, cap, e⟩ := row.parts HH5.out (by rw [HLL.out]; omega)
          cases e
          exact ⟨b, rfl⟩
        have hE0 : ∃ F1, E8 w g F w3 b n vc R.1 l F1 := by
          have h5 := HH5.out
          rw [HLL.out] at h5
          have hbb := HH6.out b rfl
          exact (E8.to ⟨HH1.out, HH2.out, HH3.out, h4, hbb.1, hbb.2, h5⟩ hto)
        obtain ⟨F1, hE0⟩ := hE0
        have HE0 := Lib.hid hE0; clear hE0 hto
        by_cases hq : R.2.2 = 0
        · have hz : ((R.2.2 : Int) != 0) = false := by rw [hq]; rfl
          have hf := HF.out
          rw [rstep_ok rfl hq] at hf
          simp only at hf
          have hRR : 2 * R.1.nodes.length ≤ 131072 := HFU.out.ok.ok.small
          have hRl := HFU.out.ok.lt
          obtain ⟨z, hzz⟩ : ∃ z, z = R.2.1 := ⟨_, rfl⟩
          have hNot := fun W => Not_any z W (by omega)
          rw [← hzz] at hf hRl ⊢
          have HNOT := Lib.hid hNot; clear hNot
          have hzlt : neg z < 2 * R.1.nodes.length := neg_lt hRl
          have hLl : ∀ r ∈ l, r < 2 * R.1.nodes.length := fun r hr => HFU.out.ok.ext.lt (HLT.out r hr)
          have hlokA := fun j => eachF_lok HFU.out.ok.ok full_and2 ((l.take j).map fun r => (r, neg z)) (fun p hp => by
            obtain ⟨r, hr, rfl⟩ := List.mem_map.1 hp
            exact ⟨hLl r (List.mem_of_mem_take hr), hzlt⟩)
          have hlenA := fun j => eachF_lenT (rop and) (R.1, 0) ((l.take j).map fun r => (r, neg z))
          have HF2 := Lib.hid hf; clear hf
          have HLOKA := Lib.hid hlokA; clear hlokA
          have HLENA := Lib.hid hlenA; clear hlenA
          have HZLT := Lib.hid hzlt; clear hzlt
          have HLL2 := Lib.hid hLl; clear hLl hRl HF hzz hRR
          go_wp2_with fail
          go_loopw [11, 72] (fun e i wr => ∃ (j : Nat) (Gq : Gra) (mm F2 : List Nat), j ≤ n ∧ i = .int .i64 j ∧ e = .int .i64 (0 : Nat) ∧ eachF (rop and) (R.1, 0) ((l.take j).map fun r => (r, neg z)) = ((Gq, 0), mm) ∧ E8 w g F wr b n vc Gq (mm ++ l.drop j) F2) (fun _ i _ => n - (intOf i).toNat)
          case atStart => exact ⟨0, R.1, [], F1, by omega, rfl, by simp, rfl, HE0.out⟩
          case round =>
            obtain ⟨j, Gq, mm, F2, hj, rfl, rfl, heq, hE⟩ := hrel
            have hlj := HLOKA.out j
            have hlnj := HLENA.out j
            rw [heq] at hlj hlnj
            simp only [List.length_map, List.length_take] at hlnj
            have hmm : mm.length = j := by rw [hlnj]; have := HLL.out; omega
            by_cases hjn : j < n
            · obtain ⟨a, ha⟩ : ∃ a, l[j]? = some a := ⟨_, List.getElem?_eq_getElem (by rw [HLL.out]; exact hjn)⟩
              have hat : (mm ++ l.drop j)[j]? = some a := by
                rw [List.getElem?_append_right (by omega), hmm, Nat.sub_self, List.getElem?_drop, Nat.add_zero, ha]
              obtain ⟨c0, c1⟩ := hE.at hat (by omega)
              have halt := hlj.s.ext.lt (HLL2.out a (List.mem_of_getElem? ha))
              have hzl := hlj.s.ext.lt HZLT.out
              have hAnd := And_r hE.gin halt hzl
              have hfa := and_full hlj.s.ok halt hzl
              have hsn : (l.take (j + 1)).map (fun r => (r, neg z)) = (l.take j).map (fun r => (r, neg z)) ++ [(a, neg z)] := by rw [List.take_add_one, ha]; simp
              have hnx := eachF_snoc (rop and) (R.1, 0) ((l.take j).map fun r => (r, neg z)) (a, neg z)
              rw [heq, ← hsn] at hnx
              have hset : ∀ r, (mm ++ l.drop j).set j r = (mm ++ [r]) ++ l.drop (j + 1) := fun r => by
                rw [List.set_append_right _ _ (by omega), hmm, Nat.sub_self]
                have hd : l.drop j = a :: l.drop (j + 1) := by
                  have hlt := (List.getElem?_eq_some_iff.1 ha).1
                  rw [List.drop_eq_getElem_cons hlt]
                  congr 1
                  exact (List.getElem?_eq_some_iff.1 ha).2
                rw [hd, List.set_cons_zero, List.append_assoc]
                rfl
              obtain ⟨Q, hQ⟩ : ∃ Q, Q = and Gq a (neg z) := ⟨_, rfl⟩
              have hopq : rop and (Gq, 0) a (neg z) = rstep (Gq, 0) Q := by rw [hQ]; rfl
              rw [← hQ] at hAnd hfa
              have HAND := Lib.hid hAnd; clear hAnd
              have HFA := Lib.hid hfa; clear hfa
              have HNX := Lib.hid hnx; clear hnx
              have HSET := Lib.hid hset; clear hset
              have HE := Lib.hid hE; clear hE
              have HEQ := Lib.hid heq; clear heq
              have HOPQ := Lib.hid hopq; clear hopq
              have HLJ := Lib.hid hlj; clear hlj
              have HSN := Lib.hid hsn; clear hsn
              clear hat halt hzl hQ hlnj hmm HE0
              go_wp2_with fail
              refine (HNOT.out _).mono ?_
              rintro e w5 ⟨rfl, rfl⟩
              go_wp2_with fail
              refine HAND.out.mono ?_
              rintro e w6 ⟨rfl, hto⟩
              obtain ⟨F3, hE3⟩ := HE.out.to hto
              obtain ⟨d0, d1⟩ := hE3.at (show (mm ++ l.drop j)[j]? = some a by
                have := congrArg List.length (congrArg Prod.snd HEQ.out)
                rw [HLENA.out j] at this
                simp only [List.length_map, List.length_take] at this
                rw [List.getElem?_append_right (by have := HLL.out; omega), show j - mm.length = 0 by have := HLL.out; omega, List.getElem?_drop, Nat.add_zero, ha]) (by omega)
              have hE4 := hE3.put j Q.2.1
              rw [HSET.out] at hE4
              have HE4 := Lib.hid hE4; clear hE4 hto hE3
              by_cases hq2 : Q.2.2 = 0
              · have hz2 : ((Q.2.2 : Int) != 0) = false := by rw [hq2]; rfl
                have hnx := HNX.out
                unfold eachS at hnx
                simp only [HOPQ.out, rstep_ok (s := (Gq, 0)) rfl hq2] at hnx
                have HNX2 := Lib.hid hnx; clear hnx
                have HQ2 := Lib.hid hq2; clear hq2
                clear ha
                go_wp2_with fail
                go_roundw
                case rel => exact ⟨j + 1, Q.1, mm ++ [Q.2.1], F3, by omega, by go_num, by rw [HQ2.out], HNX2.out, HE4.out⟩
                case measure => simp [intOf]; omega
              · have hQ := HFA.out.keep hq2
                subst hQ
                have hnx := HNX.out
                unfold eachS at hnx
                simp only [HOPQ.out, rstep_no (s := (Gq, 0)) rfl hq2] at hnx
                have hb2 := eachF_bad and (R.1, 0) ((l.take (j + 1)).map fun r => (r, neg z)) ((l.drop (j + 1)).map fun r => (r, neg z)) (by rw [hnx]; simp)
                rw [← List.map_append, List.take_append_drop, hnx] at hb2
                have hf := HF2.out
                have hfin : Step5 G (moveF side (G, 0) X Y) Gq [] 201 := by
                  rw [hf]
                  refine ⟨fun h0 => ?_, fun _ => ⟨rfl, ?_⟩, .inr ?_, (HEXT.out.trans HFU.out.ok.ext).trans HLJ.out.s.ext, HLJ.out.s.ok⟩
                  · rw [hb2] at h0; cases h0
                  · rw [hb2]
                  · rw [hb2]
                have HFIN := Lib.hid hfin
                clear hfin hf hb2 hnx hq2 ha
                go_wp2_with fail
                rw [Exit.noGoto_ret]
                go_ret2
                exact ⟨_, _, _, _, rfl, HFIN.out, HE4.out.bad⟩
            · have hjn2 : j = n := by omega
              have hall : l.take j = l := List.take_of_length_le (by have := HLL.out; omega)
              have hdr : l.drop j = [] := List.drop_eq_nil_of_le (by have := HLL.out; omega)
              rw [hall] at heq
              rw [hdr, List.append_nil] at hE
              have hf := HF2.out
              rw [heq] at hf
              have hfin : Step5 G (moveF side (G, 0) X Y) Gq mm 0 := by
                rw [hf]; exact ⟨fun _ => ⟨rfl, rfl, rfl⟩, fun h0 => absurd rfl h0, .inl rfl, (HEXT.out.trans HFU.out.ok.ext).trans hlj.s.ext, hlj.s.ok⟩
              have HFIN := Lib.hid hfin
              have HDONE := Lib.hid (hE.done (by omega))
              clear hfin hf hE heq hall hdr hlj hlnj HE0
              go_wp2_with fail
              rw [Exit.noGoto_ret]
              go_ret2
              exact ⟨_, _, _, _, rfl, HFIN.out, HDONE.out⟩
        · have hQ := HFU.out.keep hq
          subst hQ
          have hf := HF.out
          rw [rstep_no (s := (Gp, 0)) rfl hq] at hf
          have hb2 := eachF_bad' and (s := (Gp, 201)) (by simp) (l.map fun r => (r, neg 0))
          have hfin : Step5 G (moveF side (G, 0) X Y) Gp [] 201 := by
            rw [hf]
            refine ⟨fun h0 => ?_, fun _ => ⟨rfl, ?_⟩, .inr ?_, HEXT.out, HOP.out⟩
            · rw [hb2] at h0; cases h0
            · rw [hb2]
            · rw [hb2]
          have HFIN := Lib.hid hfin
          clear hfin hf hb2 hq
          go_wp2_with fail
          rw [Exit.noGoto_ret]
          go_ret2
          exact ⟨_, _, _, _, rfl, HFIN.out, HE0.out.bad⟩
end
end Go.Proofs.Ytnmfdiiehkkjcaa
namespace Go.Proofs.Ytnmfdiiehkkjcaa
open Go.RowKit Go.Mem Go.Aig
section
variable {w : World} {g : Nat} {G : Gra} {F : List Nat}
theorem fnvBy1 : Fnv 132 := fnv_of Try.func132 (by simp [Try.f132]) (by simp [Try.f132])
set_option maxRecDepth 100000 in
set_option maxHeartbeats 1000000 in
theorem By1_is (h : GIn w g G F) {bx : Nat} (hb : w.cell? ⟨bx, 0, none⟩ = some (.pointer (some ⟨g, 0, none⟩))) (r : Int) (hr : r ≤ 9223372036854775807) :
    Calls Try.prog 132 (#[.int .i64 r] ++ #[.pointer (some ⟨bx, 0, none⟩)]) w fun e w' => e = .returned (.bool (!right G.nodes r)) ∧ w = w' := by
  show Calls Try.prog 132 #[.int .i64 r, .pointer (some ⟨bx, 0, none⟩)] w _
  have HR := Right_g h r hr
  clear h
  generalize right G.nodes r = q at *
  go_enter Try.func132, Try.ntmps132
  go_wp2_with fail
  refine HR.mono ?_
  rintro e w' ⟨rfl, rfl⟩
  go_wp2_with fail
  go_ret
  exact ⟨ret_bool rfl, rfl⟩
theorem byG_bad {side : Nat} {x y : List Int} {e : Nat} (h : chkBy G side x y = e) (he : e ≠ 0) : byG G side x y = (G, [], e) := by unfold byG; rw [h, if_pos he]
theorem byG_ok {side : Nat} {x y : List Int} (h : chkBy G side x y = 0) : byG G side x y = wres G (moveF side (G, 0) (nats x) (nats y)) := by unfold byG; rw [h, if_neg (by simp)]
set_option maxRecDepth 100000 in
set_option maxHeartbeats 4000000 in
theorem By_is (h : GIn w g G F) (side : Nat) {xa ya : Option Addr} {xl yl : List Int} {xc yc n m : Nat} (hx : WVin w F ⟨xa, xl, xc⟩) (hy : WVin w F ⟨ya, yl, yc⟩) (hn : xl.length = n) (hm : yl.length = m) (hyc : m ≤ yc) :
    Calls Try.prog 71 #[.pointer (some ⟨g, 0, none⟩), .int .u8 side, .slice xa n xc, .slice ya m yc] w fun e w' => ∃ v, e = .returned (.tuple #[v, .int .i64 (byG G side xl yl).2.2]) ∧ GVo w g (byG G side xl yl).1 [] F v (byG G side xl yl).2.1 w' := by
  have hok := h.ok
  have hpos := hok.wf.pos
  have hroom := hok.room
  have hmost := hok.most
  have hl := h.lt
  have hp0 : ((G.nodes.length : Int) == 0) = false := beqN (by omega)
  have hbad := fun e he => @byG_bad G side xl yl e he
  have hgood := @byG_ok G side xl yl
  have hck : chkBy G side xl yl = if side ≠ 1 ∧ side ≠ 2 then 251 else if rightB n = false ∨ rightB m = false then 250 else if badIn G xl = true ∨ badIn G yl = true then 200 else 0 := by unfold chkBy; rw [hn, hm]
  generalize hWW : byG G side xl yl = WW at *
  have HCK := Lib.hid hck; clear hck
  have HBAD := Lib.hid hbad; clear hbad
  have HGOOD := Lib.hid hgood; clear hgood
  have HWW := Lib.hid hWW; clear hWW
  have HOK := Lib.hid hok; clear hok
  have HL := Lib.hid hl; clear hl
  have H := Lib.hid h; clear h
  have HX := Lib.hid hx; clear hx
  have HY := Lib.hid hy; clear hy
  have HN := Lib.hid hn; clear hn
  have HM := Lib.hid hm; clear hm
  go_enter Try.func71, Try.ntmps71
  go_wp2_with fail
  refine moves25_is.mono ?_
  rintro e w1 ⟨mb, rfl, hum, hc1⟩
  have hc : Ch [] w w1 := ((Ch.refl [] w).alloc _).trans hc1 (by simp)
  have b1 : w1.cell? ⟨w.heap.size, 0, none⟩ = some (.pointer (some ⟨g, 0, none⟩)) := (hc1.cell (p := ⟨w.heap.size, 0, none⟩) (by simp) (by simp)).trans (by go_simp)
  have h1 := H.out.same hc (by simp)
  have hx1 := HX.out.ch hc
  have hy1 := HY.out.ch hc
  have hLen := Len_g h1
  have hR1 := right25_is (w := w1) n
  have hR2 := right25_is (w := w1) m
  have hC1 := CFref_is xc 132 #[.pointer (some ⟨w.heap.size, 0, none⟩)] (fun r => !right G.nodes r) hx1.ok.sl (fun r hr => By1_is h1 b1 r (hx1.ok.bd r hr).2) fnvBy1
  have hC2 := CFref_is yc 132 #[.pointer (some ⟨w.heap.size, 0, none⟩)] (fun r => !right G.nodes r) hy1.ok.sl (fun r hr => By1_is h1 b1 r (hy1.ok.bd r hr).2) fnvBy1
  simp only [HN.out, HM.out] at hC1 hC2
  rw [show xl.any (fun r => !right G.nodes r) = badIn G xl from rfl] at hC1
  rw [show yl.any (fun r => !right G.nodes r) = badIn G yl from rfl] at hC2
  have HC1 := Lib.hid hC1; clear hC1
  have HC2 := Lib.hid hC2; clear hC2
  have HR1 := Lib.hid hR1; clear hR1
  have HR2 := Lib.hid hR2; clear hR2
  have HLEN := Lib.hid hLen; clear hLen
  have HC := Lib.hid hc; clear hc hc1
  have H1 := Lib.hid h1; clear h1
  have HX1 := Lib.hid hx1; clear hx1
  have HY1 := Lib.hid hy1; clear hy1
  have hend : ∀ e, e ≠ 0 → chkBy G side xl yl = e → WW = (G, [], e) := fun e h1 h2 => HBAD.out e h2 h1
  have hnil : GVo w g G [] F (.slice none 0 0) [] w1 := GVo.nil (F' := F) H1.out (HC.out.mono (by simp)) (fun k hk => .inl hk) rfl
  have HNIL := Lib.hid hnil; clear hnil
  have HEND := Lib.hid hend; clear hend
  by_cases hs : side = 1 ∨ side = 2
  · have h7 := (sides_at hum hs).2
    generalize (if side = 1 then 190 else 191) = fid at h7
    have hck := HCK.out
    rw [if_neg (by omega)] at hck
    have HUM := Lib.hid hum; clear hum
    go_wp2_with fail
    refine HLEN.out.mono ?_
    rintro e w' ⟨rfl, rfl⟩
    go_wp2_with fail
    cases hr : rightB n
    · rw [if_pos (.inl hr)] at hck
      have hww := HEND.out 250 (by omega) hck
      have hR1 := HR1.out
      rw [hr] at hR1
      subst hww
      clear hck hr
      refine hR1.mono ?_
      rintro e w' ⟨rfl, rfl⟩
      go_wp2_with fail
      go_ret2
      exact ⟨_, rfl, HNIL.out⟩
    · have hR1 := HR1.out
      rw [hr] at hR1
      refine hR1.mono ?_
      rintro e w' ⟨rfl, rfl⟩
      clear hR1
      cases hr2 : rightB m
      · rw [if_pos (.inr hr2)] at hck
        have hww := HEND.out 250 (by omega) hck
        have hR2 := HR2.out
        rw [hr2] at hR2
        subst hww
        clear hck hr hr2
        go_wp2_with fail
        refine hR2.mono ?_
        rintro e w' ⟨rfl, rfl⟩
        go_wp2_with fail
        go_ret2
        exact ⟨_, rfl, HNIL.out⟩
      · rw [if_neg (by rw [hr, hr2]; simp)] at hck
        have hR2 := HR2.out
        rw [hr2] at hR2
        go_wp2_with fail
        refine hR2.mono ?_
        rintro e w' ⟨rfl, rfl⟩
        clear hR2
        cases hb : badIn G xl
        · have hC1 := HC1.out
          rw [hb] at hC1
          cases hb2 : badIn G yl
          · have hC2 := HC2.out
            rw [hb2] at hC2
            rw [if_neg (by rw [hb, hb2]; simp)] at hck
            have hww := HGOOD.out hck
            unfold rightB at hr hr2
            simp only [Bool.and_eq_true, decide_eq_true_eq] at hr hr2
            have hmv := move25_is H1.out hs HX1.out HY1.out HN.out HM.out (by omega) (by omega) (by omega) (by omega) hyc hb hb2
            have HMV := Lib.hid hmv; clear hmv
            have HWE := Lib.hid hww; clear hww
            clear hck hr hr2 hb hb2
            go_wp2_with fail
            refine hC1.mono ?_
            rintro e w' ⟨rfl, rfl⟩
            go_wp2_with fail
            refine hC2.mono ?_
            rintro e w' ⟨rfl, rfl⟩
            go_wp2_with fail
            refine HLEN.out.mono ?_
            rintro e w' ⟨rfl, rfl⟩
            go_wp2_with fail
            refine HMV.out.mono ?_
            rintro e w2 ⟨v, G1, l1, e1, rfl, hst, hv⟩
            have b2 : w2.cell? ⟨w.heap.size, 0, none⟩ = some (.pointer (some ⟨g, 0, none⟩)) := by
              obtain ⟨_, _, hch, _⟩ := hv
              exact (hch.cell (p := ⟨w.heap.size, 0, none⟩) (cell_lt b1) (by simp only [List.nil_append]; exact fun hk => by have := HL.out _ hk; omega)).trans b1
            obtain ⟨R, hR⟩ : ∃ R, R = moveF side (G, 0) (nats xl) (nats yl) := ⟨_, rfl⟩
            rw [← hR] at hst
            have hwe := HWE.out
            rw [← hR] at hwe
            have hsz1 := cell_lt b1
            simp only at hsz1
            clear hC1 hC2 b1 h7
            by_cases hz : R.1.2 = 0
            · obtain ⟨rfl, rfl, rfl⟩ := hst.yes hz
              have hw : wres G R = (R.1.1, R.2, 0) := by unfold wres; rw [if_neg (by simp [hz])]
              rw [hw] at hwe
              subst hwe
              have hv2 := GVo.since HC.out hv
              obtain ⟨va, vc, rfl⟩ := (show ∃ a c, v = .slice a R.2.length c from by obtain ⟨_, _, _, _, _, h5, _⟩ := hv; exact row.shape h5)
              have HV2 := Lib.hid hv2; clear hv2 hv hw hz hst hR
              go_wp2_with fail
              go_ret2
              exact ⟨_, rfl, HV2.out⟩
            · obtain ⟨rfl, he1⟩ := hst.no hz
              have h201 : e1 = 201 := by have := hst.err; omega
              subst h201
              have hw : wres G R = (G, [], 201) := by unfold wres; rw [if_pos hz, ← he1]
              rw [hw] at hwe
              subst hwe
              obtain ⟨F', k1, k2, k3, k4, k5, _⟩ := hv
              obtain ⟨va, vc, rfl⟩ := row.shape k5
              have hcut := Cut_g k1 G.nodes.length (by omega) (by omega)
              rw [doCut_back HOK.out hst.ext] at hcut
              have K2 := Lib.hid k2; clear k2
              have K3 := Lib.hid k3; clear k3
              have HCUT := Lib.hid hcut; clear hcut
              have hbF : w.heap.size ∉ F' := fun hk => (K3.out _ hk).elim (fun e => by have := HL.out _ e; omega) (fun e => by omega)
              have HBF := Lib.hid hbF; clear hbF
              clear hw hz hst hR k1 k5 he1
              go_wp2_with fail
              refine HCUT.out.mono ?_
              rintro e w4 ⟨rfl, F4, hg4, hc4, hF4, hF42⟩
              have hlast : GVo w g G [] F (.slice none 0 0) [] w4 := GVo.nil (F' := F4) hg4 ((HC.out.mono (by simp)).trans (K2.out.trans hc4 (fun k hk => by simpa using K3.out k hk)) (fun k hk => .inl hk)) (fun k hk => (hF4 k hk).elim (fun e => (K3.out k e).imp id (fun e => Nat.le_trans HC.out.size e)) (fun e => .inr (by have := HC.out.size; have := K2.out.size; omega))) (hF42.trans k4)
              have HLAST := Lib.hid hlast; clear hlast hg4 hc4 hF4 hF42
              go_wp2_with fail
              go_ret2
              exact ⟨_, rfl, HLAST.out⟩
          · have hC2 := HC2.out
            rw [hb2] at hC2
            rw [if_pos (.inr hb2)] at hck
            have hww := HEND.out 200 (by omega) hck
            subst hww
            clear hck hr hr2 hb hb2
            go_wp2_with fail
            refine hC1.mono ?_
            rintro e w' ⟨rfl, rfl⟩
            go_wp2_with fail
            refine hC2.mono ?_
            rintro e w' ⟨rfl, rfl⟩
            go_wp2_with fail
            go_ret2
            exact ⟨_, rfl, HNIL.out⟩
        · have hC1 := HC1.out
          rw [hb] at hC1
          rw [if_pos (.inl hb)] at hck
          have hww := HEND.out 200 (by omega) hck
          subst hww
          clear hck hr hr2 hb
          go_wp2_with fail
          refine hC1.mono ?_
          rintro e w' ⟨rfl, rfl⟩
          go_wp2_with fail
          go_ret2
          exact ⟨_, rfl, HNIL.out⟩
  · have h7 := (sides_no hum (side := side) (by omega)).2
    have hck := HCK.out
    rw [if_pos (by omega)] at hck
    have hww := HEND.out 251 (by omega) hck
    subst hww
    have HUM := Lib.hid hum; clear hum hck
    go_wp2_with fail
    refine HLEN.out.mono ?_
    rintro e w' ⟨rfl, rfl⟩
    go_wp2_with fail
    go_ret2
    exact ⟨_, rfl, HNIL.out⟩
set_option maxRecDepth 100000 in
set_option maxHeartbeats 1000000 in
theorem Shl_is (h : GIn w g G F) {xa ya : Option Addr} {xl yl : List Int} {xc yc n m : Nat} (hx : WVin w F ⟨xa, xl, xc⟩) (hy : WVin w F ⟨ya, yl, yc⟩) (hn : xl.length = n) (hm : yl.length = m) (hyc : m ≤ yc) :
    Calls Try.prog 62 #[.pointer (some ⟨g, 0, none⟩), .slice xa n xc, .slice ya m yc] w fun e w' => ∃ v, e = .returned (.tuple #[v, .int .i64 (byG G 1 xl yl).2.2]) ∧ GVo w g (byG G 1 xl yl).1 [] F v (byG G 1 xl yl).2.1 w' := by
  have hB := By_is h 1 hx hy hn hm hyc
  generalize byG G 1 xl yl = WW at *
  clear h hx hy hn hm
  have HB := Lib.hid hB; clear hB
  go_enter Try.func62, Try.ntmps62
  go_wp2_with fail
  refine HB.out.mono ?_
  rintro e w2 ⟨v, rfl, hv⟩
  obtain ⟨va, vc, rfl⟩ := (show ∃ a c, v = .slice a WW.2.1.length c from by obtain ⟨_, _, _, _, _, h5, _⟩ := hv; exact row.shape h5)
  have HV := Lib.hid hv; clear hv
  go_wp2_with fail
  go_ret2
  exact ⟨_, rfl, HV.out⟩
set_option maxRecDepth 100000 in
set_option maxHeartbeats 1000000 in
theorem Shr_is (h : GIn w g G F) {xa ya : Option Addr} {xl yl : List Int} {xc yc n m : Nat} (hx : WVin w F ⟨xa, xl, xc⟩) (hy : WVin w F ⟨ya, yl, yc⟩) (hn : xl.length = n) (hm : yl.length = m) (hyc : m ≤ yc) :
    Calls Try.prog 63 #[.pointer (some ⟨g, 0, none⟩), .slice xa n xc, .slice ya m yc] w fun e w' => ∃ v, e = .returned (.tuple #[v, .int .i64 (byG G 2 xl yl).2.2]) ∧ GVo w g (byG G 2 xl yl).1 [] F v (byG G 2 xl yl).2.1 w' := by
  have hB := By_is h 2 hx hy hn hm hyc
  generalize byG G 2 xl yl = WW at *
  clear h hx hy hn hm
  have HB := Lib.hid hB; clear hB
  go_enter Try.func63, Try.ntmps63
  go_wp2_with fail
  refine HB.out.mono ?_
  rintro e w2 ⟨v, rfl, hv⟩
  obtain ⟨va, vc, rfl⟩ := (show ∃ a c, v = .slice a WW.2.1.length c from by obtain ⟨_, _, _, _, _, h5, _⟩ := hv; exact row.shape h5)
  have HV := Lib.hid hv; clear hv
  go_wp2_with fail
  go_ret2
  exact ⟨_, rfl, HV.out⟩
end
end Go.Proofs.Ytnmfdiiehkkjcaa
namespace Go.Proofs.Ytnmfdiiehkkjcaa
open Go.RowKit Go.Mem Go.Aig
section
variable {w0 : Base} {w : World} {g : Nat} {G : Gra} {F : List Nat} {L : List (Value × List Int)}
theorem By_h (h : Hold w0 w g G F L) (side : Nat) {xa ya : Option Addr} {xl yl : List Int} {n m xc yc : Nat} (hx : (.slice xa n xc, xl) ∈ L) (hxn : xl.length = n) (hy : (.slice ya m yc, yl) ∈ L) (hym : yl.length = m) {G' : Gra} {l : List Nat} {e k : Nat} (hR : byG G side xl yl = (G', l, e)) (hk : l.length = k) (hb : ∀ r ∈ l, r ≤ 1000000) (hl : k ≤ 1000000) :
    Calls Try.prog 71 #[.pointer (some ⟨g, 0, none⟩), .int .u8 side, .slice xa n xc, .slice ya m yc] w fun en w' => ∃ a c F', en = .returned (.tuple #[.slice a k c, .int .i64 e]) ∧ Hold w0 w' g G' F' ((.slice a k c, natInts l) :: L) := by
  have hc := By_is h.own.gin side (h.at hx hxn) (h.at hy hym) hxn hym (h.held _ hy).cap
  exact Calls.word h hc hR hk hb hl
theorem Shl_h (h : Hold w0 w g G F L) {xa ya : Option Addr} {xl yl : List Int} {n m xc yc : Nat} (hx : (.slice xa n xc, xl) ∈ L) (hxn : xl.length = n) (hy : (.slice ya m yc, yl) ∈ L) (hym : yl.length = m) {G' : Gra} {l : List Nat} {e k : Nat} (hR : byG G 1 xl yl = (G', l, e)) (hk : l.length = k) (hb : ∀ r ∈ l, r ≤ 1000000) (hl : k ≤ 1000000) :
    Calls Try.prog 62 #[.pointer (some ⟨g, 0, none⟩), .slice xa n xc, .slice ya m yc] w fun en w' => ∃ a c F', en = .returned (.tuple #[.slice a k c, .int .i64 e]) ∧ Hold w0 w' g G' F' ((.slice a k c, natInts l) :: L) := by
  have hc := Shl_is h.own.gin (h.at hx hxn) (h.at hy hym) hxn hym (h.held _ hy).cap
  exact Calls.word h hc hR hk hb hl
theorem Shr_h (h : Hold w0 w g G F L) {xa ya : Option Addr} {xl yl : List Int} {n m xc yc : Nat} (hx : (.slice xa n xc, xl) ∈ L) (hxn : xl.length = n) (hy : (.slice ya m yc, yl) ∈ L) (hym : yl.length = m) {G' : Gra} {l : List Nat} {e k : Nat} (hR : byG G 2 xl yl = (G', l, e)) (hk : l.length = k) (hb : ∀ r ∈ l, r ≤ 1000000) (hl : k ≤ 1000000) :
    Calls Try.prog 63 #[.pointer (some ⟨g, 0, none⟩), .slice xa n xc, .slice ya m yc] w fun en w' => ∃ a c F', en = .returned (.tuple #[.slice a k c, .int .i64 e]) ∧ Hold w0 w' g G' F' ((.slice a k c, natInts l) :: L) := by
  have hc := Shr_is h.own.gin (h.at hx hxn) (h.at hy hym) hxn hym (h.held _ hy).cap
  exact Calls.word h hc hR hk hb hl
theorem Fixed_h (h : Hold w0 w g G F L) (side : Nat) {xa : Option Addr} {xl : List Int} {n xc : Nat} (hx : (.slice xa n xc, xl) ∈ L) (hxn : xl.length = n) (z : Int) {l : List Int} {e k : Nat} (hE : fixE side xl z = e) (hR : (if e = 0 then shL side xl (min z.toNat xl.length) else []) = l) (hk : l.length = k) :
    Calls Try.prog 124 #[.int .u8 side, .slice xa n xc, .int .i64 z] w fun en w' => ∃ a c, en = .returned (.tuple #[.slice a k c, .int .i64 e]) ∧ Hold w0 w' g G F ((.slice a k c, l) :: L) := by
  have hi := (h.at hx hxn).ok
  have hc := Fixed_is (side := side) xc z hi.sl hi.len
  simp only [hE, hR] at hc
  rw [hxn] at hc
  refine Calls.wnew h hc hk ?_ ?_
  · subst hR
    split
    · exact shL_bd hi.bd
    · simp
  · subst hR
    rw [← hk]
    split
    · rw [shL_len]; exact hi.len
    · simp
theorem Fixed_n (side : Nat) (z : Int) {e : Nat} (hE : fixE side [] z = e) (he : e ≠ 0) :
    Calls Try.prog 124 #[.int .u8 side, .slice none 0 0, .int .i64 z] w fun en w' => ∃ v, en = .returned (.tuple #[v, .int .i64 e]) ∧ Ch [] w w' := by
  have hc := Fixed_is (w := w) (side := side) (xa := none) (xl := []) 0 z ⟨fun i x hx => (by simp at hx), by simp⟩ (by simp)
  simp only [hE, if_neg he] at hc
  refine hc.mono ?_
  rintro en w' ⟨v, rfl, hv⟩
  exact ⟨v, rfl, hv.2.2⟩
theorem Turn_h (h : Hold w0 w g G F L) {xa : Option Addr} {xl : List Int} {n xc : Nat} (hx : (.slice xa n xc, xl) ∈ L) (hxn : xl.length = n) (z : Int) (hz : -9223372036854775808 ≤ z ∧ z ≤ 9223372036854775807) (hr : rightB n = true) {l : List Int} (hR : turnL xl z = l) :
    Calls Try.prog 125 #[.slice xa n xc, .int .i64 z] w fun en w' => ∃ a c, en = .returned (.tuple #[.slice a n c, .int .i64 0]) ∧ Hold w0 w' g G F ((.slice a n c, l) :: L) := by
  have hi := (h.at hx hxn).ok
  have hcap := (h.held _ hx).cap
  have hc := Turn_yes xc z hi.sl (by rw [hxn]; exact hcap) (by rw [hxn]; exact hr) hz
  rw [hR, hxn] at hc
  subst hR
  refine Calls.wnew (e := 0) h hc (by rw [turnL_len, hxn]) (fun r hr => hi.bd r ((turnL_perm xl z).mem_iff.1 hr)) (by rw [← hxn]; exact hi.len)
end
end Go.Proofs.Ytnmfdiiehkkjcaa
namespace Go.Proofs.Ytnmfdiiehkkjcaa
open Go.RowKit Go.Mem Go.Aig
set_option maxRecDepth 100000 in
set_option maxHeartbeats 4000000 in
theorem two25_is (w : World) (wd vd : Nat) (hw : wd ≤ 255) (hv : vd ≤ 255) : Calls Try.prog 61 #[.int .u8 wd, .int .u8 vd] w fun e w' => ∃ g F xa xc ya yc, e = .returned (.tuple #[.pointer (some ⟨g, 0, none⟩), .slice xa (wd % 9 + 1) xc, .slice ya (vd % 5 + 1) yc]) ∧
    Hold w w' g (gIn 4000 (wd % 9 + 1 + (vd % 5 + 1))) F [(.slice ya (vd % 5 + 1) yc, natInts (rIn (wd % 9 + 1) (vd % 5 + 1))), (.slice xa (wd % 9 + 1) xc, natInts (rIn 0 (wd % 9 + 1)))] := by
  obtain ⟨n, hn, hn9⟩ : ∃ n, wd % 9 + 1 = n ∧ n ≤ 9 := ⟨_, rfl, by omega⟩
  have hn1 : 1 ≤ n := by omega
  obtain ⟨m, hm, hm5⟩ : ∃ m, vd % 5 + 1 = m ∧ m ≤ 5 := ⟨_, rfl, by omega⟩
  have hm1 : 1 ≤ m := by omega
  rw [hn, hm]
  have hq : 1 + (wd : Int) % 9 = n := by omega
  have hq2 : 1 + (vd : Int) % 5 = m := by omega
  have hN := New_h (w := w) 4000 (by decide) (by decide)
  have HN := Lib.hid hN; clear hN
  clear hn hm
  go_enter Try.func61, Try.ntmps61
  go_wp2_with fail
  refine HN.out.mono ?_
  rintro e w1 ⟨g, F1, rfl, ho⟩
  have HO := Lib.hid ho; clear ho HN
  go_wp2_with fail
  refine (sInput_h HO.out n (G' := gIn 4000 n) (l := rIn 0 n) (e := 0) (k := n) (by have := inG_gIn (most := 4000) (s := 0) hn1 (by omega) (by omega); rw [Nat.zero_add] at this; exact this) (by simp) (fun r hr => by have := rIn_le hr; omega) (by omega)).mono ?_
  rintro e w2 ⟨xa, xc, F2, rfl, ho⟩
  clear HO; have HO := Lib.hid ho; clear ho
  go_wp2_with fail
  refine (sInput_h HO.out m (G' := gIn 4000 (n + m)) (l := rIn n m) (e := 0) (k := m) (inG_gIn (most := 4000) (s := n) hm1 (by omega) (by omega)) (by simp) (fun r hr => by have := rIn_le hr; omega) (by omega)).mono ?_
  rintro e w3 ⟨ya, yc, F3, rfl, ho⟩
  clear HO; have HO := Lib.hid ho; clear ho
  go_wp2_with fail
  go_ret3
  exact ⟨g, F3, xa, xc, ya, yc, rfl, HO.out⟩
end Go.Proofs.Ytnmfdiiehkkjcaa
namespace Go.Proofs.Ytnmfdiiehkkjcaa
open Go.RowKit Go.Mem Go.Aig
/-- words that are held, with no graph -/
structure Keeps (w0 w : World) (L : List (Value × List Int)) : Prop where
  ch : Ch [] w0 w
  held : ∀ p ∈ L, Held w0 w [] p.1 p.2
section
variable {w0 w : World} {L : List (Value × List Int)}
theorem Keeps.start (w : World) : Keeps w w [] := ⟨Ch.refl _ _, by simp⟩
theorem Keeps.same {w' : World} (h : Keeps w0 w L) (hc : Ch [] w w') : Keeps w0 w' L := ⟨h.ch.trans hc (by simp), fun p hp => (h.held p hp).keep hc (fun _ hk => by cases hk)⟩
theorem Keeps.new {w' : World} {v : Value} {l : List Int} (h : Keeps w0 w L) (ht : WNew w v (intCells l) w') (hb : ∀ r ∈ l, -9223372036854775808 ≤ r ∧ r ≤ 9223372036854775807) (hl : l.length ≤ 1000000) : ∃ a c, v = .slice a l.length c ∧ Keeps w0 w' ((.slice a l.length c, l) :: L) := by
  obtain ⟨h5, h6, h2⟩ := ht
  have e : (intCells l).length = l.length := by simp [intCells]
  rw [e] at h5
  obtain ⟨a, c, rfl⟩ := row.shape h5
  refine ⟨a, c, rfl, (h.same h2).ch, fun p hp => ?_⟩
  rcases List.mem_cons.1 hp with rfl | hp
  · exact ⟨h5, hl, hb, fun k hk => ⟨Nat.le_trans h.ch.size (h6 k (by simpa using hk)), by simp⟩⟩
  · exact (h.same h2).held p hp
theorem Keeps.fresh (h : Keeps w0 w L) {l : List Int} {n : Nat} (hn : l.length = n) (hb : ∀ r ∈ l, -9223372036854775808 ≤ r ∧ r ≤ 9223372036854775807) (hl : n ≤ 1000000) :
    Keeps w0 (w.alloc (.cells (intCells l).toArray 29)) ((.slice (some ⟨w.heap.size, 0, none⟩) n n, l) :: L) := by
  have hx : (w.alloc (.cells (intCells l).toArray 29)).heap[w.heap.size]? = some (.cells (intCells l).toArray 29 (0, 0)) := heap_alloc_new w _
  have hs := h.same ((Ch.refl [] w).alloc (.cells (intCells l).toArray 29))
  subst hn
  refine ⟨hs.ch, fun p hp => ?_⟩
  rcases List.mem_cons.1 hp with rfl | hp
  · refine ⟨⟨by simp [intCells], .inr ⟨w.heap.size, l.length, (intCells l).toArray, rfl, by simp, hx, Nat.le_refl _, by unfold maxLen; omega, by simp [intCells], by rw [Nat.mul_one]; exact List.take_of_length_le (by simp [intCells])⟩⟩, hl, hb, fun k hk => ?_⟩
    simp at hk; subst hk
    exact ⟨h.ch.size, by simp⟩
  · exact hs.held p hp
theorem Keeps.at (h : Keeps w0 w L) {a : Option Addr} {n c : Nat} {l : List Int} (hp : (.slice a n c, l) ∈ L) (hn : l.length = n) : WVin w [] ⟨a, l, c⟩ := (h.held _ hp).in hn
theorem Keeps.sl (h : Keeps w0 w L) {a : Option Addr} {n c : Nat} {l : List Int} (hp : (.slice a n c, l) ∈ L) (hn : l.length = n) : Sl w a l := (h.at hp hn).ok.sl
theorem Keeps.nil (h : Keeps w0 w L) : Keeps w0 w ((.slice none 0 0, []) :: L) := ⟨h.ch, fun p hp => by
  rcases List.mem_cons.1 hp with rfl | hp
  · exact ⟨⟨rfl, .inl ⟨rfl, rfl⟩⟩, by simp, by simp, fun k hk => by simp at hk⟩
  · exact h.held p hp⟩
theorem Keeps.sub {L' : List (Value × List Int)} (h : Keeps w0 w L) (hs : ∀ p ∈ L', p ∈ L) : Keeps w0 w L' := ⟨h.ch, fun q hq => h.held q (hs q hq)⟩
theorem Hold.keeps {B : Base} {g : Nat} {G : Gra} {F : List Nat} (h : Hold B w g G F L) : Keeps B.w w L := ⟨h.own.ch, fun p hp => ⟨(h.held p hp).row, (h.held p hp).len, (h.held p hp).bd, fun k hk => ⟨((h.held p hp).own k hk).1, by simp⟩⟩⟩
/-- a graph that is made beside words that are held -/
theorem Keeps.join {w' : World} {g : Nat} {G : Gra} {F : List Nat} {L' : List (Value × List Int)} (h : Keeps w0 w L) (h2 : Hold (w : Base) w' g G F L') : Hold (w0 : Base) w' g G F (L' ++ L) := by
  have hF : ∀ k ∈ F, w.heap.size ≤ k := h2.own.own
  refine ⟨⟨h2.own.gin, fun k hk => Nat.le_trans h.ch.size (hF k hk), h.ch.trans h2.own.ch (by simp)⟩, fun p hp => ?_, fun p hp => by cases hp⟩
  rcases List.mem_append.1 hp with hp | hp
  · have := h2.held p hp
    exact ⟨this.row, this.len, this.bd, fun k hk => ⟨Nat.le_trans h.ch.size (this.own k hk).1, (this.own k hk).2⟩⟩
  · exact (h.held p hp).keep h2.own.ch (fun k hk => .inr (hF k hk))
theorem Calls.wnewK {fid : FuncId} {args : Array Value} (h : Keeps w0 w L) {l : List Int} {e : Nat} (hC : Calls Try.prog fid args w fun en w' => ∃ v, en = .returned (.tuple #[v, .int .i64 e]) ∧ WNew w v (intCells l) w') {k : Nat} (hk : l.length = k) (hb : ∀ r ∈ l, -9223372036854775808 ≤ r ∧ r ≤ 9223372036854775807) (hl : k ≤ 1000000) :
    Calls Try.prog fid args w fun en w' => ∃ a c, en = .returned (.tuple #[.slice a k c, .int .i64 e]) ∧ Keeps w0 w' ((.slice a k c, l) :: L) := by
  subst hk
  refine hC.mono ?_
  rintro en w' ⟨v, rfl, hg⟩
  obtain ⟨a, c, rfl, hh⟩ := h.new hg hb hl
  exact ⟨a, c, rfl, hh⟩
theorem Fixed_k (h : Keeps w0 w L) (side : Nat) {xa : Option Addr} {xl : List Int} {n xc : Nat} (hx : (.slice xa n xc, xl) ∈ L) (hxn : xl.length = n) (z : Int) {l : List Int} {e k : Nat} (hE : fixE side xl z = e) (hR : (if e = 0 then shL side xl (min z.toNat xl.length) else []) = l) (hk : l.length = k) :
    Calls Try.prog 124 #[.int .u8 side, .slice xa n xc, .int .i64 z] w fun en w' => ∃ a c, en = .returned (.tuple #[.slice a k c, .int .i64 e]) ∧ Keeps w0 w' ((.slice a k c, l) :: L) := by
  have hi := (h.at hx hxn).ok
  have hc := Fixed_is (side := side) xc z hi.sl hi.len
  simp only [hE, hR] at hc
  rw [hxn] at hc
  refine Calls.wnewK h hc hk ?_ ?_
  · subst hR
    split
    · exact shL_bd hi.bd
    · simp
  · subst hR
    rw [← hk]
    split
    · rw [shL_len]; exact hi.len
    · simp
theorem Turn_k (h : Keeps w0 w L) {xa : Option Addr} {xl : List Int} {n xc : Nat} (hx : (.slice xa n xc, xl) ∈ L) (hxn : xl.length = n) (z : Int) (hz : -9223372036854775808 ≤ z ∧ z ≤ 9223372036854775807) (hr : rightB n = true) {l : List Int} (hR : turnL xl z = l) :
    Calls Try.prog 125 #[.slice xa n xc, .int .i64 z] w fun en w' => ∃ a c, en = .returned (.tuple #[.slice a n c, .int .i64 (0 : Nat)]) ∧ Keeps w0 w' ((.slice a n c, l) :: L) := by
  have hi := (h.at hx hxn).ok
  have hcap := (h.held _ hx).cap
  have hc := Turn_yes xc z hi.sl (by rw [hxn]; exact hcap) (by rw [hxn]; exact hr) hz
  rw [hR, hxn] at hc
  subst hR
  exact Calls.wnewK (e := 0) h hc (by rw [turnL_len, hxn]) (fun r hr => hi.bd r ((turnL_perm xl z).mem_iff.1 hr)) (by rw [← hxn]; exact hi.len)
theorem Eqref_k (h : Keeps w0 w L) {xa ya : Option Addr} {xl yl : List Int} {n m xc yc : Nat} (hx : (.slice xa n xc, xl) ∈ L) (hxn : xl.length = n) (hy : (.slice ya m yc, yl) ∈ L) (hym : yl.length = m) {q : Bool} (hq : decide (xl = yl) = q) : Calls Try.prog 53 #[.slice xa n xc, .slice ya m yc] w fun e w' => e = .returned (.bool q) ∧ Keeps w0 w' L := by
  subst hq
  have hc := Eqref_is (w := w) xc yc (h.sl hx hxn) (h.sl hy hym)
  simp only [hxn, hym] at hc
  refine hc.mono ?_
  rintro e w' ⟨rfl, hc⟩
  exact ⟨rfl, h.same hc⟩
theorem Steps_k (h : Keeps w0 w L) (n m : Int) {k e : Nat} (hk : (if rightB n && rightB m then stepsN n.toNat m.toNat else 0 : Nat) = k) (he : (if rightB n && rightB m then 0 else 250 : Nat) = e) :
    Calls Try.prog 126 #[.int .i64 n, .int .i64 m] w fun en w' => en = .returned (.tuple #[.int .i64 k, .int .i64 e]) ∧ Keeps w0 w' L := by
  subst hk he
  exact (Steps_is n m).mono fun en w' ⟨h1, h2⟩ => ⟨h1, h2 ▸ h⟩
end
end Go.Proofs.Ytnmfdiiehkkjcaa
namespace Go.Proofs.Ytnmfdiiehkkjcaa
open Go.RowKit Go.Mem Go.Aig
def ta1 : Gra := ⟨4000, [⟨1, 0, 0, 0⟩, ⟨2, 0, 0, 0⟩, ⟨2, 0, 0, 0⟩, ⟨3, 2, 5, 1⟩]⟩
theorem Not4_is (w : World) : Calls Try.prog 21 #[.int .i64 4] w fun e w' => e = .returned (.int .i64 5) ∧ w = w' := Not_any 4 w (by omega)
theorem Pair0_is (w : World) : Calls Try.prog 48 #[.int .u8 0] w fun e w' => ∃ g F xa xc ya yc, e = .returned (.tuple #[.pointer (some ⟨g, 0, none⟩), .slice xa 1 xc, .slice ya 1 yc]) ∧
    Hold w w' g (gIn 4000 2) F [(.slice ya 1 yc, natInts (rIn 1 1)), (.slice xa 1 xc, natInts (rIn 0 1))] := Pair_is w 0 (by decide)
theorem Pair2_is (w : World) : Calls Try.prog 48 #[.int .u8 2] w fun e w' => ∃ g F xa xc ya yc, e = .returned (.tuple #[.pointer (some ⟨g, 0, none⟩), .slice xa 3 xc, .slice ya 3 yc]) ∧
    Hold w w' g (gIn 4000 6) F [(.slice ya 3 yc, natInts (rIn 3 3)), (.slice xa 3 xc, natInts (rIn 0 3))] := Pair_is w 2 (by decide)
set_option maxRecDepth 100000 in
set_option maxHeartbeats 8000000 in
theorem awake25_is (w : World) : Calls Try.prog 60 #[] w fun e w' => e = .returned (.bool true) ∧ Ch [] w w' := by
  have HO := Lib.hid (Keeps.start w)
  go_enter Try.func60, Try.ntmps60
  go_wp2_with fail
  have ho := HO.out.fresh (l := [2, 4, 6]) (n := 3) rfl (by decide) (by decide)
  simp only [intCells, List.map_cons, List.map_nil] at ho
  clear HO; have HO := Lib.hid ho; clear ho
  go_wp2_with fail
  refine (Fixed_k HO.out 1 (xa := (some ⟨w.heap.size, 0, none⟩)) (xc := 3) (n := 3) (xl := [2, 4, 6]) (by simp) rfl 1 (l := [0, 2, 4]) (e := 0) (k := 3) (by decide) (by decide) rfl).mono ?_
  rintro e w1 ⟨aa, ac, rfl, ho⟩
  clear HO; have HO := Lib.hid ho; clear ho
  go_wp2_with fail
  refine (Fixed_k HO.out 2 (xa := (some ⟨w.heap.size, 0, none⟩)) (xc := 3) (n := 3) (xl := [2, 4, 6]) (by simp) rfl 2 (l := [6, 0, 0]) (e := 0) (k := 3) (by decide) (by decide) rfl).mono ?_
  rintro e w2 ⟨ba, bc, rfl, ho⟩
  clear HO; have HO := Lib.hid ho; clear ho
  go_wp2_with fail
  refine (Fixed_k HO.out 1 (xa := (some ⟨w.heap.size, 0, none⟩)) (xc := 3) (n := 3) (xl := [2, 4, 6]) (by simp) rfl 9 (l := [0, 0, 0]) (e := 0) (k := 3) (by decide) (by decide) rfl).mono ?_
  rintro e w3 ⟨ca, cc, rfl, ho⟩
  clear HO; have HO := Lib.hid ho; clear ho
  go_wp2_with fail
  refine (Turn_k HO.out (xa := (some ⟨w.heap.size, 0, none⟩)) (xc := 3) (n := 3) (xl := [2, 4, 6]) (by simp) rfl 1 (by decide) (by decide) (l := [4, 6, 2]) (by decide)).mono ?_
  rintro e w4 ⟨da, dc, rfl, ho⟩
  clear HO; have HO := Lib.hid ho; clear ho
  go_wp2_with fail
  refine (Turn_k HO.out (xa := (some ⟨w.heap.size, 0, none⟩)) (xc := 3) (n := 3) (xl := [2, 4, 6]) (by simp) rfl (-1) (by decide) (by decide) (l := [6, 2, 4]) (by decide)).mono ?_
  rintro e w5 ⟨fa, fc, rfl, ho⟩
  clear HO; have HO := Lib.hid ho; clear ho
  go_wp2_with fail
  refine (Steps_k HO.out 5 8 (k := 3) (e := 0) (by decide) (by decide)).mono ?_
  rintro e w6 ⟨rfl, ho⟩
  clear HO; have HO := Lib.hid ho; clear ho
  go_wp2_with fail
  refine (Steps_k HO.out 1 3 (k := 0) (e := 0) (by decide) (by decide)).mono ?_
  rintro e w7 ⟨rfl, ho⟩
  clear HO; have HO := Lib.hid ho; clear ho
  go_wp2_with fail
  have ho := HO.out.fresh (l := [0, 2, 4]) (n := 3) rfl (by decide) (by decide)
  simp only [intCells, List.map_cons, List.map_nil] at ho
  clear HO; have HO := Lib.hid ho; clear ho
  refine (Eqref_k HO.out (xa := aa) (xc := ac) (n := 3) (xl := [0, 2, 4]) (by simp) rfl (ya := (some ⟨w7.heap.size, 0, none⟩)) (yc := 3) (m := 3) (yl := [0, 2, 4]) (by simp) rfl (q := true) (by decide)).mono ?_
  rintro e w8 ⟨rfl, ho⟩
  clear HO; have HO := Lib.hid ho; clear ho
  go_wp2_with fail
  have ho := HO.out.fresh (l := [6, 0, 0]) (n := 3) rfl (by decide) (by decide)
  simp only [intCells, List.map_cons, List.map_nil] at ho
  clear HO; have HO := Lib.hid ho; clear ho
  refine (Eqref_k HO.out (xa := ba) (xc := bc) (n := 3) (xl := [6, 0, 0]) (by simp) rfl (ya := (some ⟨w8.heap.size, 0, none⟩)) (yc := 3) (m := 3) (yl := [6, 0, 0]) (by simp) rfl (q := true) (by decide)).mono ?_
  rintro e w9 ⟨rfl, ho⟩
  clear HO; have HO := Lib.hid ho; clear ho
  go_wp2_with fail
  have ho := HO.out.fresh (l := [0, 0, 0]) (n := 3) rfl (by decide) (by decide)
  simp only [intCells, List.map_cons, List.map_nil] at ho
  clear HO; have HO := Lib.hid ho; clear ho
  refine (Eqref_k HO.out (xa := ca) (xc := cc) (n := 3) (xl := [0, 0, 0]) (by simp) rfl (ya := (some ⟨w9.heap.size, 0, none⟩)) (yc := 3) (m := 3) (yl := [0, 0, 0]) (by simp) rfl (q := true) (by decide)).mono ?_
  rintro e w10 ⟨rfl, ho⟩
  clear HO; have HO := Lib.hid ho; clear ho
  go_wp2_with fail
  have ho := HO.out.fresh (l := [4, 6, 2]) (n := 3) rfl (by decide) (by decide)
  simp only [intCells, List.map_cons, List.map_nil] at ho
  clear HO; have HO := Lib.hid ho; clear ho
  refine (Eqref_k HO.out (xa := da) (xc := dc) (n := 3) (xl := [4, 6, 2]) (by simp) rfl (ya := (some ⟨w10.heap.size, 0, none⟩)) (yc := 3) (m := 3) (yl := [4, 6, 2]) (by simp) rfl (q := true) (by decide)).mono ?_
  rintro e w11 ⟨rfl, ho⟩
  clear HO; have HO := Lib.hid ho; clear ho
  go_wp2_with fail
  have ho := HO.out.fresh (l := [6, 2, 4]) (n := 3) rfl (by decide) (by decide)
  simp only [intCells, List.map_cons, List.map_nil] at ho
  clear HO; have HO := Lib.hid ho; clear ho
  refine (Eqref_k HO.out (xa := fa) (xc := fc) (n := 3) (xl := [6, 2, 4]) (by simp) rfl (ya := (some ⟨w11.heap.size, 0, none⟩)) (yc := 3) (m := 3) (yl := [6, 2, 4]) (by simp) rfl (q := true) (by decide)).mono ?_
  rintro e w12 ⟨rfl, ho⟩
  clear HO; have HO := Lib.hid ho; clear ho
  go_wp2_with fail
  refine (Pair0_is _).mono ?_
  rintro e w13 ⟨g, F1, pa, pc, qa, qc, rfl, ho0⟩
  have ho := HO.out.join ho0
  clear HO; have HO := Lib.hid ho; clear ho ho0
  go_wp2_with fail
  refine (Shr_h HO.out (xa := pa) (xc := pc) (n := 1) (xl := natInts (rIn 0 1)) (by simp) rfl (ya := qa) (yc := qc) (m := 1) (yl := natInts (rIn 1 1)) (by simp) rfl (G' := ta1) (l := [6]) (e := 0) (k := 1) (by kernel_rfl) rfl (by decide) (by decide)).mono ?_
  rintro e w14 ⟨ra, rc, F2, rfl, ho⟩
  clear HO; have HO := Lib.hid ho; clear ho
  obtain ⟨pb, po, rfl, hpc⟩ := (HO.out.sl (a := pa) (n := 1) (c := pc) (l := natInts (rIn 0 1)) (by simp) rfl).cells 0 2 rfl
  obtain ⟨qb, qo, rfl, hqc⟩ := (HO.out.sl (a := qa) (n := 1) (c := qc) (l := natInts (rIn 1 1)) (by simp) rfl).cells 0 4 rfl
  rw [Nat.add_zero] at hpc hqc
  have ho := HO.out.same (Ch.refl [] w14).drew
  have hA := And_h ho 2 5 (by decide) (by decide) (G' := ta1) (r := 6) (e := 0) (by kernel_rfl)
  have HA := Lib.hid hA; clear hA ho
  go_wp2_with fail
  refine Ord.St.door (fun _ => True) [.fl, .fl, .fl, .rd, .fl, .fl, .rd, .rd, .ef, .fl, .fl, .fl, .fl, .fl] [0, 0, 2, 6, 0, 16, 48, 112, 255, 511, 1023, 1023, 2047, 8191] [0, 1, 2, 3, 4, 5, 6, 7, 8, 9, 10, 11, 12, 13] mixed (by kernel_rfl) rfl ?_
  refine Ord.St.fl2 (T' := ?_) 0 [1, 2, 3, 4, 5, 6, 7, 8, 9, 10, 11, 12, 13] _ _ rfl (by kernel_rfl) rfl rfl rfl rfl (fun K w' hk => ?_) ?_
  rotate_left
  · go_step; exact hk
  refine Ord.St.fl2 (T' := ?_) 1 [2, 3, 4, 5, 6, 7, 8, 9, 10, 11, 12, 13] _ _ rfl (by kernel_rfl) rfl rfl rfl rfl (fun K w' hk => ?_) ?_
  rotate_left
  · go_step; exact hk
  refine Ord.St.fl2 (T' := ?_) 2 [3, 4, 5, 6, 7, 8, 9, 10, 11, 12, 13] _ _ rfl (by kernel_rfl) rfl rfl rfl rfl (fun K w' hk => ?_) ?_
  rotate_left
  · go_step; exact hk
  refine Ord.St.rd2 (T' := ?_) 3 [4, 5, 6, 7, 8, 9, 10, 11, 12, 13] _ _ rfl (by kernel_rfl) rfl rfl rfl rfl (fun K hk => ?_) ?_
  rotate_left
  · go_step; exact hk
  refine Ord.St.fl2 (T' := ?_) 4 [5, 6, 7, 8, 9, 10, 11, 12, 13] _ _ rfl (by kernel_rfl) rfl rfl rfl rfl (fun K w' hk => ?_) ?_
  rotate_left
  · go_step; exact hk
  refine Ord.St.fl2 (T' := ?_) 5 [6, 7, 8, 9, 10, 11, 12, 13] _ _ rfl (by kernel_rfl) rfl rfl rfl rfl (fun K w' hk => ?_) ?_
  rotate_left
  · go_step; exact hk
  refine Ord.St.rd2 (T' := ?_) 6 [7, 8, 9, 10, 11, 12, 13] _ _ rfl (by kernel_rfl) rfl rfl rfl rfl (fun K hk => ?_) ?_
  rotate_left
  · go_step; exact hk
  refine Ord.St.rd2 (T' := ?_) 7 [8, 9, 10, 11, 12, 13] _ _ rfl (by kernel_rfl) rfl rfl rfl rfl (fun K hk => ?_) ?_
  rotate_left
  · go_step; refine (Not4_is _).mono ?_; rintro e w'' ⟨rfl, rfl⟩; exact hk
  refine Ord.St.ef 8 [9, 10, 11, 12, 13] _ rfl (by kernel_rfl) (fun K hK => ?_)
  go_wp2_with fail
  refine HA.out.mono ?_
  rintro e wA ⟨F3, rfl, ho⟩
  clear HO; have HO := Lib.hid ho; clear ho
  go_wp2_with fail
  refine ⟨rfl, hK _ _ ?_⟩; clear hK K
  refine Ord.St.fl2 (T' := ?_) 9 [10, 11, 12, 13] _ _ rfl (by kernel_rfl) rfl rfl rfl rfl (fun K w' hk => ?_) ?_
  rotate_left
  · go_step; exact hk
  refine Ord.St.fl2 (T' := ?_) 10 [11, 12, 13] _ _ rfl (by kernel_rfl) rfl rfl rfl rfl (fun K w' hk => ?_) ?_
  rotate_left
  · go_step; exact hk
  refine Ord.St.fl2 (T' := ?_) 11 [12, 13] _ _ rfl (by kernel_rfl) rfl rfl rfl rfl (fun K w' hk => ?_) ?_
  rotate_left
  · go_step; exact hk
  refine Ord.St.fl2 (T' := ?_) 12 [13] _ _ rfl (by kernel_rfl) rfl rfl rfl rfl (fun K w' hk => ?_) ?_
  rotate_left
  · go_step; exact hk
  refine Ord.St.fl2 (T' := ?_) 13 [] _ _ rfl (by kernel_rfl) rfl rfl rfl rfl (fun K w' hk => ?_) ?_
  rotate_left
  · go_step; exact hk
  refine Ord.St.nil ?_
  clear HA hpc hqc
  go_wp2_with fail
  refine (Pair2_is _).mono ?_
  rintro e w15 ⟨h, F4, ya, yc, za, zc, rfl, ho0⟩
  have ho := HO.out.keeps.join ho0
  clear HO; have HO := Lib.hid ho; clear ho ho0
  go_wp2_with fail
  refine (sConst_h HO.out 1 (by decide) 3 rfl).mono ?_
  rintro e w16 ⟨oa, oc, rfl, ho⟩
  clear HO; have HO := Lib.hid ho; clear ho
  go_wp2_with fail
  refine (Shl_h HO.out (xa := ya) (xc := yc) (n := 3) (xl := natInts (rIn 0 3)) (by simp) rfl (ya := oa) (yc := oc) (m := 3) (yl := natInts (constL 1 3)) (by simp) rfl (G' := gIn 4000 6) (l := [0, 2, 4]) (e := 0) (k := 3) (by kernel_rfl) rfl (by decide) (by decide)).mono ?_
  rintro e w17 ⟨ta, tc, F5, rfl, ho⟩
  clear HO; have HO := Lib.hid ho; clear ho
  go_wp2_with fail
  refine (Fixed_h HO.out 1 (xa := ya) (xc := yc) (n := 3) (xl := natInts (rIn 0 3)) (by simp) rfl 1 (l := [0, 2, 4]) (e := 0) (k := 3) (by decide) (by decide) rfl).mono ?_
  rintro e w18 ⟨ua, uc, rfl, ho⟩
  clear HO; have HO := Lib.hid ho; clear ho
  go_wp2_with fail
  have ho := HO.out.same ((Ch.refl [] w18).alloc (.cells #[.int .i64 6] 29))
  clear HO; have HO := Lib.hid ho; clear ho
  refine (Eqref_c HO.out (xa := ra) (xc := rc) (n := 1) (xl := natInts [6]) (by simp) rfl (b := w18.heap.size) (m := 1) (ys := [6]) (blk.new' _ _ rfl) rfl (by decide) (q := true) (by decide)).mono ?_
  rintro e w19 ⟨rfl, ho⟩
  clear HO; have HO := Lib.hid ho; clear ho
  go_wp2_with fail
  refine (Eqref_h HO.out (xa := ta) (xc := tc) (n := 3) (xl := natInts [0, 2, 4]) (by simp) rfl (ya := ua) (yc := uc) (m := 3) (yl := [0, 2, 4]) (by simp) rfl (q := true) (by decide)).mono ?_
  rintro e w20 ⟨rfl, ho⟩
  clear HO; have HO := Lib.hid ho; clear ho
  go_wp2_with fail
  go_ret
  exact ⟨rfl, HO.out.ch⟩
end Go.Proofs.Ytnmfdiiehkkjcaa
namespace Go.Aig
def u16s (l : List Nat) : List Value := l.map fun (x : Nat) => .int .u16 x
theorem u16s_get {l : List Nat} {i v : Nat} (h : l[i]? = some v) : (u16s l)[i]? = some (.int .u16 v) := by simp [u16s, h]
/-- layer 22's shifts are the same -/
theorem shl_same {n m a b : Nat} (hn : n ≤ 16) (hm : m ≤ 5) (ha : a < 2 ^ n) (hb : b < 2 ^ m) : (shlW (a &&& (2 ^ max n m - 1)) (b &&& (2 ^ max n m - 1)) &&& (2 ^ max n m - 1)) % 2 ^ n = a <<< b % 2 ^ n := by
  have h1 : 2 ^ n ≤ 2 ^ max n m := Nat.pow_le_pow_right (by omega) (by omega)
  have h2 : 2 ^ m ≤ 2 ^ max n m := Nat.pow_le_pow_right (by omega) (by omega)
  have h3 : 2 ^ m ≤ 2 ^ 5 := Nat.pow_le_pow_right (by omega) hm
  rw [Nat.and_two_pow_sub_one_eq_mod, Nat.and_two_pow_sub_one_eq_mod, Nat.and_two_pow_sub_one_eq_mod, Nat.mod_eq_of_lt (show a < 2 ^ max n m by omega), Nat.mod_eq_of_lt (show b < 2 ^ max n m by omega)]
  unfold shlW
  rw [show min b 31 = b by omega, Nat.shiftLeft_eq, show (4294967296 : Nat) = 2 ^ 32 from rfl, Nat.mod_mod_of_dvd _ (Nat.pow_dvd_pow 2 (show n ≤ max n m by omega)), Nat.mod_mod_of_dvd _ (Nat.pow_dvd_pow 2 (show n ≤ 32 by omega))]
theorem shr_same {n m a b : Nat} (_hn : n ≤ 16) (hm : m ≤ 5) (ha : a < 2 ^ n) (hb : b < 2 ^ m) : shrW (a &&& (2 ^ max n m - 1)) (b &&& (2 ^ max n m - 1)) &&& (2 ^ max n m - 1) = a >>> b := by
  have h1 : 2 ^ n ≤ 2 ^ max n m := Nat.pow_le_pow_right (by omega) (by omega)
  have h2 : 2 ^ m ≤ 2 ^ max n m := Nat.pow_le_pow_right (by omega) (by omega)
  have h3 : 2 ^ m ≤ 2 ^ 5 := Nat.pow_le_pow_right (by omega) hm
  rw [Nat.and_two_pow_sub_one_eq_mod, Nat.and_two_pow_sub_one_eq_mod, Nat.and_two_pow_sub_one_eq_mod, Nat.mod_eq_of_lt (show a < 2 ^ max n m by omega), Nat.mod_eq_of_lt (show b < 2 ^ max n m by omega)]
  unfold shrW
  rw [show min b 31 = b by omega, Nat.shiftRight_eq_div_pow]
  exact Nat.mod_eq_of_lt (Nat.lt_of_le_of_lt (Nat.div_le_self _ _) (by omega))
end Go.Aig
namespace Go.Proofs.Ytnmfdiiehkkjcaa
open Go.RowKit Go.Mem Go.Aig
theorem infoU16 : (Try.prog.info? 97).map (fun i => (i.zero, i.size, i.bytes)) = some (some (.int .u16 0), 1, 2) := by kernel_rfl
theorem slU16s : SliceTy Try.prog 94 97 1 2 (.int .u16 0) := ⟨Try.underlying94, infoU16, rfl, by decide⟩
theorem eqSliceNilH (w : World) (a : Option Addr) (n c : Nat) : (binOp .eql 94 (.slice a n c) (.slice none 0 0)).run Try.prog w = .ok (.bool a.isNone) w := by
  have h : Try.prog.underlying 94 = some (.slice 97) := Try.underlying94
  simp only [binOp]
  simp [run_equal_slice_nil w _ _ a n c h]
attribute [local go_sem] eqSliceNilH
section
variable {w : World}
set_option maxRecDepth 100000 in
set_option maxHeartbeats 1000000 in
theorem CLu16_is {a : Option Addr} {l : List Nat} (n c : Nat) (hn : l.length = n) (h : Sv w a (u16s l)) (hm : n ≤ 1000000) : Calls Try.prog 64 #[.slice a n c] w fun e w' => ∃ v, e = .returned v ∧ row w' 97 1 v n (u16s l) ∧ (∀ q ∈ v.ownBlock.toList, w.heap.size ≤ q) ∧ Ch [] w w' := by
  subst hn
  cases a with
  | none =>
    have hl : l = [] := by
      cases l with
      | nil => rfl
      | cons y l =>
        obtain ⟨b, o, e, _⟩ := h.cells 0 (.int .u16 y) rfl
        cases e
    subst hl
    clear h
    go_enter Try.func64, Try.ntmps64
    go_wp2_with fail
    go_ret
    exact ⟨_, rfl, ⟨rfl, .inl ⟨rfl, rfl⟩⟩, by simp, Ch.refl _ _⟩
  | some p =>
    have hO : row (w.alloc (.cells #[] 97)) 97 1 (.slice (some ⟨w.heap.size, 0, none⟩) 0 0) 0 [] := ⟨rfl, .inr ⟨w.heap.size, 0, #[], rfl, by omega, heap_alloc_new w _, by omega, by unfold maxLen; omega, rfl, rfl⟩⟩
    have hN : ∀ j u, (u16s l)[j]? = some u → (w.alloc (.cells #[] 97)).cell? (p.add j) = some u := fun j u hu => by
      obtain ⟨b, o, e, hc⟩ := h.cells j u hu
      cases e
      rw [Addr.add_lit]
      exact (((Ch.refl [] w).alloc _).cell (cell_lt hc) (by simp)).trans hc
    have h1 : ∀ u ∈ u16s l, u.oneCell' = true := fun u hu => by
      obtain ⟨r, _, rfl⟩ := List.mem_map.1 hu
      rfl
    have HO := Lib.hid hO; clear hO
    have HN := Lib.hid hN; clear hN h
    have H1 := Lib.hid h1; clear h1
    go_enter Try.func64, Try.ntmps64
    go_wp2_with (at_builtin; go_loud (refine wpList_append_row slU16s rfl _ _ rfl (v := .slice (some ⟨w.heap.size, 0, none⟩) 0 0) (n := 0) (xs := []) rfl HO.out (ad := p) (m := l.length) (c := c) (news := u16s l) rfl (by simp [u16s]) HN.out H1.out (by omega) (by omega) ?_; intro v' w2 hown hC2 hfresh; have HOWN := Lib.hid hown; clear hown; have HC2 := Lib.hid hC2; clear hC2; have HFR := Lib.hid hfresh; clear hfresh))
    go_ret
    have hown := HOWN.out
    rw [Nat.zero_add, List.nil_append] at hown
    refine ⟨_, rfl, hown, fun k hk => ?_, (((Ch.refl [] w).alloc (.cells #[] 97))).trans HC2.out (by simp)⟩
    rcases HFR.out k (by simpa using hk) with e | e
    · simp at e; omega
    · simp at e; omega

end
set_option maxRecDepth 100000 in
set_option maxHeartbeats 8000000 in
theorem ShiftsIs_walk {w : World} (wd : Nat) (hw : wd ≤ 255) (vd : Nat) (hv : vd ≤ 255) {xa : Option Addr} {m xc : Nat} {l : List Nat} (hX : NumS .u16 16 w xa m xc l) :
    Calls Try.prog 12 #[.int .u8 wd, .int .u8 vd, .slice xa m xc] w fun e w' => e = .returned (.bool true) ∧ Ch [] w w' := by
  have hlen := hX.len
  have hle := hX.le
  have hmxc := hX.max
  have HX := Lib.hid hX; clear hX
  have HP := fun W => two25_is W wd vd hw hv
  obtain ⟨n, hn, hn1, hn9⟩ : ∃ n, wd % 9 + 1 = n ∧ 1 ≤ n ∧ n ≤ 9 := ⟨_, rfl, by omega, by omega⟩
  obtain ⟨p, hp, hp1, hp5⟩ : ∃ p, vd % 5 + 1 = p ∧ 1 ≤ p ∧ p ≤ 5 := ⟨_, rfl, by omega, by omega⟩
  rw [hn, hp] at HP
  obtain ⟨G1, G2, l1, l2, hF⟩ := sis_facts hn1 hn9 hp1 hp5
  obtain ⟨D, hD⟩ : ∃ D, 2 ^ n = D := ⟨_, rfl⟩
  obtain ⟨E, hE⟩ : ∃ E, 2 ^ p = E := ⟨_, rfl⟩
  have hD9 : D ≤ 512 := by
    have : (2 : Nat) ^ n ≤ 2 ^ 9 := Nat.pow_le_pow_right (by omega) (by omega)
    omega
  have hD1 : 1 ≤ D := by rw [← hD]; exact Nat.one_le_two_pow
  have hE5 : E ≤ 32 := by
    have : (2 : Nat) ^ p ≤ 2 ^ 5 := Nat.pow_le_pow_right (by omega) (by omega)
    omega
  have hwD : wrap64 ((2 : Int) ^ n) = ((D : Nat) : Int) := by
    have : ((2 : Int) ^ n) = ((2 ^ n : Nat) : Int) := by simp
    rw [this, hD]
    exact IntWalk.wrap64_in _ (by omega)
  have hwE : wrap64 ((2 : Int) ^ p) = ((E : Nat) : Int) := by
    have : ((2 : Int) ^ p) = ((2 ^ p : Nat) : Int) := by simp
    rw [this, hE]
    exact IntWalk.wrap64_in _ (by omega)
  obtain ⟨M, hM, hM8, hMm⟩ : ∃ M, min m 8 = M ∧ M ≤ 8 ∧ M ≤ m := ⟨_, rfl, by omega, by omega⟩
  have hmin : ∀ ats ty, Builtin.min_ ats ty #[.int .i64 (m : Int), .int .i64 8] = pure (.int .i64 (M : Int)) := fun ats ty => by
    have e : (if (8 : Int) < m then 8 else (m : Int)) = M := by split <;> omega
    rw [← e]
    simp [Builtin.min_, Builtin.min2]
  have hmax : ∀ ats ty, Builtin.max_ ats ty #[.int .i64 (n : Int), .int .i64 (p : Int)] = pure (.int .i64 ((max n p : Nat) : Int)) := fun ats ty => max_nat (n : Int) p (max n p) (by omega) ats ty
  have HA := Lib.hid (awake25_is w)
  have HP := Lib.hid HP
  have HF := Lib.hid hF; clear hF
  have HWD := Lib.hid hwD; clear hwD
  have HWE := Lib.hid hwE; clear hwE
  have HD := Lib.hid hD; clear hD
  have HE := Lib.hid hE; clear hE
  have HMAX := Lib.hid hmax; clear hmax
  clear hn hp hM
  go_enter Try.func12, Try.ntmps12
  go_wp2_with fail
  refine HA.out.mono ?_
  rintro e w1 ⟨rfl, hc1⟩
  have HC1 := Lib.hid hc1; clear hc1 HA
  go_wp2_with fail
  refine (HP.out w1).mono ?_
  rintro e w2 ⟨g, F, ya, yc, za, zc, rfl, ho⟩
  have HO := Lib.hid ho; clear ho HP
  go_wp2_with fail
  refine (Shl_h HO.out (xa := ya) (xc := yc) (n := n) (xl := natInts (rIn 0 n)) (by simp) (by simp) (ya := za) (yc := zc) (m := p) (yl := natInts (rIn n p)) (by simp) (by simp) HF.out.r1 HF.out.n1 HF.out.b1 (by omega)).mono ?_
  rintro e w3 ⟨pa, pc, F3, rfl, ho⟩
  clear HO; have HO := Lib.hid ho; clear ho
  go_wp2_with fail
  refine (Shr_h HO.out (xa := ya) (xc := yc) (n := n) (xl := natInts (rIn 0 n)) (by simp) (by simp) (ya := za) (yc := zc) (m := p) (yl := natInts (rIn n p)) (by simp) (by simp) HF.out.r2 HF.out.n2 HF.out.b2 (by omega)).mono ?_
  rintro e w4 ⟨qa, qc, F4, rfl, ho⟩
  clear HO; have HO := Lib.hid ho; clear ho
  have hpl : ∀ q, pa = some q → q.block < w4.heap.size := fun q hq => by subst hq; exact ((HO.out.held (.slice (some q) n pc, natInts l1) (by simp)).row.lt q.block rfl).2
  have hql : ∀ q, qa = some q → q.block < w4.heap.size := fun q hq => by subst hq; exact ((HO.out.held (.slice (some q) n qc, natInts l2) (by simp)).row.lt q.block rfl).2
  have HPL := Lib.hid hpl; clear hpl
  have HQL := Lib.hid hql; clear hql
  have HF5 := Lib.hid HO.out.own.gin.lt
  have HZ4 := Lib.hid (Nat.le_trans HC1.out.size HO.out.own.ch.size)
  obtain ⟨K, hK⟩ : ∃ K, M + 2 = K := ⟨_, rfl⟩
  have hcl := CLu16_is (w := w4) (a := xa) (l := l.take M) M xc (by rw [List.length_take, hlen]; omega) (by
    have h1 := HX.out.sv.ch (HC1.out.trans HO.out.own.ch (by simp)) (by simp)
    refine ⟨fun i x hx => ?_, by simp [u16s]; omega⟩
    refine h1.cells i x ?_
    unfold u16s at hx
    rw [List.getElem?_map] at hx ⊢
    rw [List.getElem?_take] at hx
    split at hx
    · exact hx
    · cases hx) (by omega)
  have HCL := Lib.hid hcl; clear hcl
  go_wp2_with fail
  refine HCL.out.mono ?_
  rintro e w5 ⟨v, rfl, hrow, hvv, hc5⟩
  obtain ⟨ca, cc, rfl⟩ := row.shape hrow
  have hcA : Ch [] w5 (w5.alloc (.cells #[.int .u16 511, .int .u16 341] 97)) := (Ch.refl _ _).alloc _
  have hrA := hrow.ch hcA (by simp)
  have hbA : blk (w5.alloc (.cells #[.int .u16 511, .int .u16 341] 97)) w5.heap.size [.int .u16 511, .int .u16 341] := blk.new' _ _ rfl
  have ho := HO.out.same (hc5.trans hcA (by simp))
  clear HO
  have HO := Lib.hid ho; clear ho
  have HRA := Lib.hid hrA; clear hrA hrow
  have HBA := Lib.hid hbA; clear hbA
  have HVV := Lib.hid hvv; clear hvv
  clear hcA hc5 HCL
  go_wp2_with (at_builtin; go_loud (refine wpList_append_row slU16s rfl _ _ rfl (v := .slice ca M cc) (n := M) (xs := u16s (l.take M)) rfl HRA.out (ad := ⟨w5.heap.size, 0, none⟩) (m := 2) (c := 2) (news := [.int .u16 511, .int .u16 341]) rfl rfl (news_blk HBA.out) (by simp [Value.oneCell']) (by omega) (by omega) ?_; intro v' w6 hown4 hC4 hf4; rw [hK] at hown4; obtain ⟨eb, ec, rfl⟩ := row.parts hown4 (by omega); have HO4 := Lib.hid hown4; clear hown4; have HCC4 := Lib.hid hC4; clear hC4; have HF4' := Lib.hid hf4; clear hf4))
  have hLV : u16s (l.take M) ++ [.int .u16 511, .int .u16 341] = u16s (l.take M ++ [511, 341]) := by simp [u16s]
  have hLn : (l.take M ++ [511, 341]).length = K := by rw [List.length_append, List.length_take, hlen]; simp; omega
  have hLb : ∀ z ∈ l.take M ++ [511, 341], z < 65536 := fun z hz => by
    rcases List.mem_append.1 hz with hz | hz
    · exact HX.out.bd z (List.mem_of_mem_take hz)
    · simp only [List.mem_cons, List.not_mem_nil, or_false] at hz
      rcases hz with rfl | rfl <;> omega
  have hrow := HO4.out
  rw [hLV] at hrow
  generalize l.take M ++ [511, 341] = LV at *
  have HROW := Lib.hid hrow; clear hrow hLV HO4
  have hg6 : GIn w6 g G2 F4 := HO.out.own.gin.same HCC4.out (fun q hq hin => by have := HF5.out q hq; have := HVV.out q hin; omega)
  have hsp : Sl w6 pa (natInts l1) := (HO.out.sl (n := n) (a := pa) (c := pc) (by simp) (by simp [HF.out.n1])).ch HCC4.out (fun q hq hin => by have := HPL.out q hq; have := HVV.out _ hin; omega)
  have hsq : Sl w6 qa (natInts l2) := (HO.out.sl (n := n) (a := qa) (c := qc) (by simp) (by simp [HF.out.n2])).ch HCC4.out (fun q hq hin => by have := HQL.out q hq; have := HVV.out _ hin; omega)
  have hc6 : Ch [] w w6 := (HC1.out.trans HO.out.own.ch (by simp)).trans HCC4.out (fun q hq => .inr (by have := HVV.out q hq; have := HZ4.out; omega))
  have HG6 := Lib.hid hg6; clear hg6
  have HSP := Lib.hid hsp; clear hsp
  have HSQ := Lib.hid hsq; clear hsq
  have HC6 := Lib.hid hc6; clear hc6
  have HLN := Lib.hid hLn; clear hLn
  have HLB := Lib.hid hLb; clear hLb
  clear HO HF4' HBA HRA HF5 hmin
  go_wp2_with fail
  go_loopw [66] (fun i wr => ∃ x : Nat, x ≤ K ∧ i = .int .i64 x ∧ Ch [] w6 wr) (fun i _ => K - (intOf i).toNat)
  case atStart => exact ⟨0, by omega, rfl, Ch.refl _ _⟩
  case round =>
    obtain ⟨x, hx, rfl, hc⟩ := hrel
    obtain ⟨wo, hwo⟩ : ∃ wo, wo = wr := ⟨_, rfl⟩
    subst hwo
    by_cases hlt : x < K
    · have hdx : decide ((x : Int) < (K : Int)) = true := decide_eq_true (by omega)
      obtain ⟨z, hz⟩ : ∃ z, LV[x]? = some z := ⟨_, List.getElem?_eq_getElem (by rw [HLN.out]; exact hlt)⟩
      have hzb := HLB.out z (List.mem_of_getElem? hz)
      have c0 := row_cell (HROW.out.ch hc (by simp)) (u16s_get hz)
      obtain ⟨A, hA⟩ : ∃ A, z % D = A := ⟨_, rfl⟩
      have hAD : A < D := by rw [← hA]; exact Nat.mod_lt _ (by omega)
      have eA : (z : Int) % (D : Int) = (A : Int) := by rw [← hA]; simp
      have hDne : ¬ D = 0 := by omega
      have hwD : ∀ [Nonempty Unit], wrap64 ((2 : Int) ^ n) = ((D : Nat) : Int) := HWD.out
      have HC := Lib.hid hc; clear hc hz
      have HA' := Lib.hid hA; clear hA
      go_wp2_with fail
      rw [HWE.out, eA, HWD.out]
      clear c0 eA hwD
      go_loopw [79] (fun i wr => ∃ b : Nat, b ≤ E ∧ i = .int .i64 b ∧ Ch [] wo wr) (fun i _ => E - (intOf i).toNat)
      case atStart => exact ⟨0, by omega, rfl, Ch.refl _ _⟩
      case round =>
        obtain ⟨b, hb, rfl, hc⟩ := hrel
        by_cases hlt2 : b < E
        · have hAp : A < 2 ^ n := by rw [HD.out]; exact hAD
          have hbp : b < 2 ^ p := by rw [HE.out]; exact hlt2
          obtain ⟨B1, hR1, hn1', hv1⟩ := HF.out.v1 A b hAp hbp
          obtain ⟨B2, hR2, hn2', hv2⟩ := HF.out.v2 A b hAp hbp
          have hs1 := shl_same (n := n) (m := p) (a := A) (b := b) (by omega) hp5 hAp hbp
          have hs2 := shr_same (n := n) (m := p) (a := A) (b := b) (by omega) hp5 hAp hbp
          obtain ⟨P, hP⟩ : ∃ P, A <<< b % 2 ^ n = P := ⟨_, rfl⟩
          obtain ⟨Q, hQ⟩ : ∃ Q, A >>> b = Q := ⟨_, rfl⟩
          rw [hP] at hv1 hs1
          rw [hQ] at hv2 hs2
          rw [HD.out] at hP hs1
          have hPD : P < D := by rw [← hP]; exact Nat.mod_lt _ (by omega)
          have hQA : Q ≤ A := by rw [← hQ, Nat.shiftRight_eq_div_pow]; exact Nat.div_le_self _ _
          have hAb : A * 2 ^ b ≤ 512 * 2 ^ 31 := Nat.mul_le_mul (by omega) (Nat.pow_le_pow_right (by omega) (by omega))
          have e1 : wrap64 ((A : Int) * 2 ^ b) = ((A * 2 ^ b : Nat) : Int) := by
            have : ((A : Int) * 2 ^ b) = ((A * 2 ^ b : Nat) : Int) := by simp
            rw [this]
            exact IntWalk.wrap64_in _ (by omega)
          have e2 : ((A * 2 ^ b : Nat) : Int) % (D : Int) = (P : Int) := by rw [← hP, Nat.shiftLeft_eq]; simp
          have e3 : (A : Int) / 2 ^ b = (Q : Int) := by rw [← hQ, Nat.shiftRight_eq_div_pow]; simp
          obtain ⟨AB, hABe⟩ : ∃ AB, A * 2 ^ b = AB := ⟨_, rfl⟩
          rw [hABe] at e1 e2 hAb
          clear hABe
          have HBT := fun W => bits25_is (w := W) n p A b (by omega) (by omega) (by omega) (by omega)
          have hap1 := fun W => bApply11_is (w := W) A b (max n p) (by omega) (by omega) (by omega) (by omega)
          have hap2 := fun W => bApply12_is (w := W) A b (max n p) (by omega) (by omega) (by omega) (by omega)
          obtain ⟨S1, hS1⟩ : ∃ S1, shlW (A &&& (2 ^ max n p - 1)) (b &&& (2 ^ max n p - 1)) &&& (2 ^ max n p - 1) = S1 := ⟨_, rfl⟩
          rw [hS1] at hs1
          rw [hs2] at hap2
          simp only [hS1] at hap1
          have hS1b : S1 ≤ 65535 := by
            have h1 : S1 ≤ 2 ^ max n p - 1 := by rw [← hS1]; exact Nat.and_le_right
            have : (2 : Nat) ^ max n p ≤ 2 ^ 16 := Nat.pow_le_pow_right (by omega) (by omega)
            omega
          have e4 : (S1 : Int) % (D : Int) = (P : Int) := by rw [← hs1]; simp
          have hgl := givenL_len n p A b
          have HRD1 := fun (W : World) (hW : Ch [] wo W) (ba : Option Addr) (bc : Nat) (hb : Sb W ba (givenL n p A b)) => Reads_is ((HG6.out.same HC.out (by simp)).same hW (by simp)) (a := pa) (l := natInts l1) (m := n) (c := pc) (by simp [HF.out.n1]) ((HSP.out.ch HC.out (by simp)).ch hW (by simp)) (by intro r hr; obtain ⟨q, hq, rfl⟩ := List.mem_map.1 hr; have := HF.out.b1 q hq; omega) (xa := ba) (ins := givenL n p A b) (k := n + p) (xc := bc) hgl hb (by omega) hR1 hn1' (by omega) (by omega)
          have HRD2 := fun (W : World) (hW : Ch [] wo W) (ba : Option Addr) (bc : Nat) (hb : Sb W ba (givenL n p A b)) => Reads_is ((HG6.out.same HC.out (by simp)).same hW (by simp)) (a := qa) (l := natInts l2) (m := n) (c := qc) (by simp [HF.out.n2]) ((HSQ.out.ch HC.out (by simp)).ch hW (by simp)) (by intro r hr; obtain ⟨q, hq, rfl⟩ := List.mem_map.1 hr; have := HF.out.b2 q hq; omega) (xa := ba) (ins := givenL n p A b) (k := n + p) (xc := bc) hgl hb (by omega) hR2 hn2' (by omega) (by omega)
          rw [hv1] at HRD1
          rw [hv2] at HRD2
          have HBT := Lib.hid HBT
          have HAP1 := Lib.hid hap1; clear hap1
          have HAP2 := Lib.hid hap2; clear hap2
          have HRD1 := Lib.hid HRD1
          have HRD2 := Lib.hid HRD2
          have HCI := Lib.hid hc; clear hc
          have E4 := Lib.hid e4; clear e4
          have E2 := Lib.hid e2; clear e2
          have E1 := Lib.hid e1; clear e1
          have E3 := Lib.hid e3; clear e3
          clear hs1 hs2 hS1 hP hQ hR1 hR2 hv1 hv2 hn1' hn2' hAp hbp hgl
          go_wp2_with fail
          (with_reducible refine (HBT.out wr).mono ?_)
          rintro e w7 ⟨v, rfl, hrow, _, hc7⟩
          obtain ⟨ba, bc, rfl⟩ := row.shape hrow
          have hsb := row.sv hrow rfl (by omega)
          have HSB := Lib.hid hsb; clear hsb hrow
          have HC7 := Lib.hid (HCI.out.trans hc7 (by simp)); clear hc7 HCI HBT
          go_wp2_with fail
          have hx1 := HRD1.out w7 HC7.out ba bc HSB.out
          (with_reducible refine hx1.mono ?_)
          clear hx1
          rintro e w8 ⟨rfl, hc8⟩
          have HC8 := Lib.hid (HC7.out.trans hc8 (by simp))
          have HSB8 := Lib.hid (HSB.out.ch hc8 (by simp)); clear hc8
          go_wp2_with fail
          have hx2 := HRD2.out w8 HC8.out ba bc HSB8.out
          (with_reducible refine hx2.mono ?_)
          clear hx2
          rintro e w9 ⟨rfl, hc9⟩
          have HC9 := Lib.hid (HC8.out.trans hc9 (by simp)); clear hc9
          have e1 : ∀ [Nonempty Unit], wrap64 ((A : Int) * 2 ^ b) = (AB : Int) := E1.out
          have e2 := E2.out
          have e3 : ∀ [Nonempty Unit], (A : Int) / 2 ^ b = (Q : Int) := E3.out
          have hwD : ∀ [Nonempty Unit], wrap64 ((2 : Int) ^ n) = ((D : Nat) : Int) := HWD.out
          go_wp2_with fail
          refine Ord.St.door (fun _ => True) [.fl, .fl, .fl, .fl, .fl, .fl, .fl, .fl, .fl, .fl, .fl, .fl, .fl, .rd, .fl, .fl, .fl, .fl, .fl, .fl, .fl, .fl, .fl, .fl, .fl, .fl] [0, 1, 3, 7, 15, 31, 63, 127, 255, 127, 127, 1663, 127, 4223, 12415, 32383, 65535, 131071, 262143, 524287, 1048575, 524287, 524287, 6815743, 16777215, 33554431] [0, 1, 2, 3, 4, 5, 6, 7, 8, 9, 10, 11, 12, 13, 14, 15, 16, 17, 18, 19, 20, 21, 22, 23, 24, 25] mixed (by kernel_rfl) rfl ?_
          refine Ord.St.fl2 (T' := ?_) 0 [1, 2, 3, 4, 5, 6, 7, 8, 9, 10, 11, 12, 13, 14, 15, 16, 17, 18, 19, 20, 21, 22, 23, 24, 25] _ _ rfl (by kernel_rfl) rfl rfl rfl rfl (fun K w' hk => ?_) ?_
          rotate_left
          · go_step; exact hk
          refine Ord.St.fl2 (T' := ?_) 1 [2, 3, 4, 5, 6, 7, 8, 9, 10, 11, 12, 13, 14, 15, 16, 17, 18, 19, 20, 21, 22, 23, 24, 25] _ _ rfl (by kernel_rfl) rfl rfl rfl rfl (fun K w' hk => ?_) ?_
          rotate_left
          · go_step; exact hk
          refine Ord.St.fl2 (T' := ?_) 2 [3, 4, 5, 6, 7, 8, 9, 10, 11, 12, 13, 14, 15, 16, 17, 18, 19, 20, 21, 22, 23, 24, 25] _ _ rfl (by kernel_rfl) rfl rfl rfl rfl (fun K w' hk => ?_) ?_
          rotate_left
          · go_step; exact hk
          first | (refine Ord.St.fl2 (T' := ?_) 3 [4, 5, 6, 7, 8, 9, 10, 11, 12, 13, 14, 15, 16, 17, 18, 19, 20, 21, 22, 23, 24, 25] _ _ rfl (by kernel_rfl) ?_ rfl rfl rfl (fun K w' hk => ?_) ?_; rotate_left; (first | rfl | (simp [Region.wanted, yielded, *]; done)); focus (go_step; exact hk)) | (refine Ord.St.skip 3 [4, 5, 6, 7, 8, 9, 10, 11, 12, 13, 14, 15, 16, 17, 18, 19, 20, 21, 22, 23, 24, 25] _ rfl (by kernel_rfl) ?_ (fun K hK => ?_); (first | rfl | (simp [Region.wanted, yielded, *]; done)); go_simp; refine hK _ ?_; clear hK K)
          first | (refine Ord.St.fl2 (T' := ?_) 4 [5, 6, 7, 8, 9, 10, 11, 12, 13, 14, 15, 16, 17, 18, 19, 20, 21, 22, 23, 24, 25] _ _ rfl (by kernel_rfl) ?_ rfl rfl rfl (fun K w' hk => ?_) ?_; rotate_left; (first | rfl | (simp [Region.wanted, yielded, *]; done)); focus (go_step; exact hk)) | (refine Ord.St.skip 4 [5, 6, 7, 8, 9, 10, 11, 12, 13, 14, 15, 16, 17, 18, 19, 20, 21, 22, 23, 24, 25] _ rfl (by kernel_rfl) ?_ (fun K hK => ?_); (first | rfl | (simp [Region.wanted, yielded, *]; done)); go_simp; refine hK _ ?_; clear hK K)
          refine Ord.St.fl2 (T' := ?_) 5 [6, 7, 8, 9, 10, 11, 12, 13, 14, 15, 16, 17, 18, 19, 20, 21, 22, 23, 24, 25] _ _ rfl (by kernel_rfl) rfl rfl rfl rfl (fun K w' hk => ?_) ?_
          rotate_left
          · go_step; exact hk
          refine Ord.St.fl2 (T' := ?_) 6 [7, 8, 9, 10, 11, 12, 13, 14, 15, 16, 17, 18, 19, 20, 21, 22, 23, 24, 25] _ _ rfl (by kernel_rfl) rfl rfl rfl rfl (fun K w' hk => ?_) ?_
          rotate_left
          · go_step; exact hk
          first | (refine Ord.St.fl2 (T' := ?_) 7 [8, 9, 10, 11, 12, 13, 14, 15, 16, 17, 18, 19, 20, 21, 22, 23, 24, 25] _ _ rfl (by kernel_rfl) ?_ rfl rfl rfl (fun K w' hk => ?_) ?_; rotate_left; (first | rfl | (simp [Region.wanted, yielded, *]; done)); focus (go_step; exact hk)) | (refine Ord.St.skip 7 [8, 9, 10, 11, 12, 13, 14, 15, 16, 17, 18, 19, 20, 21, 22, 23, 24, 25] _ rfl (by kernel_rfl) ?_ (fun K hK => ?_); (first | rfl | (simp [Region.wanted, yielded, *]; done)); go_simp; refine hK _ ?_; clear hK K)
          first | (refine Ord.St.fl2 (T' := ?_) 8 [9, 10, 11, 12, 13, 14, 15, 16, 17, 18, 19, 20, 21, 22, 23, 24, 25] _ _ rfl (by kernel_rfl) ?_ rfl rfl rfl (fun K w' hk => ?_) ?_; rotate_left; (first | rfl | (simp [Region.wanted, yielded, *]; done)); focus (go_step; exact hk)) | (refine Ord.St.skip 8 [9, 10, 11, 12, 13, 14, 15, 16, 17, 18, 19, 20, 21, 22, 23, 24, 25] _ rfl (by kernel_rfl) ?_ (fun K hK => ?_); (first | rfl | (simp [Region.wanted, yielded, *]; done)); go_simp; refine hK _ ?_; clear hK K)
          first | (refine Ord.St.fl2 (T' := ?_) 9 [10, 11, 12, 13, 14, 15, 16, 17, 18, 19, 20, 21, 22, 23, 24, 25] _ _ rfl (by kernel_rfl) ?_ rfl rfl rfl (fun K w' hk => ?_) ?_; rotate_left; (first | rfl | (simp [Region.wanted, yielded, *]; done)); focus (go_step; exact hk)) | (refine Ord.St.skip 9 [10, 11, 12, 13, 14, 15, 16, 17, 18, 19, 20, 21, 22, 23, 24, 25] _ rfl (by kernel_rfl) ?_ (fun K hK => ?_); (first | rfl | (simp [Region.wanted, yielded, *]; done)); go_simp; refine hK _ ?_; clear hK K)
          first | (refine Ord.St.fl2 (T' := ?_) 10 [11, 12, 13, 14, 15, 16, 17, 18, 19, 20, 21, 22, 23, 24, 25] _ _ rfl (by kernel_rfl) ?_ rfl rfl rfl (fun K w' hk => ?_) ?_; rotate_left; (first | rfl | (simp [Region.wanted, yielded, *]; done)); focus (go_step; exact hk)) | (refine Ord.St.skip 10 [11, 12, 13, 14, 15, 16, 17, 18, 19, 20, 21, 22, 23, 24, 25] _ rfl (by kernel_rfl) ?_ (fun K hK => ?_); (first | rfl | (simp [Region.wanted, yielded, *]; done)); go_simp; refine hK _ ?_; clear hK K)
          first | (refine Ord.St.fl2 (T' := ?_) 11 [12, 13, 14, 15, 16, 17, 18, 19, 20, 21, 22, 23, 24, 25] _ _ rfl (by kernel_rfl) ?_ rfl rfl rfl (fun K w' hk => ?_) ?_; rotate_left; (first | rfl | (simp [Region.wanted, yielded, *]; done)); focus (go_step; exact hk)) | (refine Ord.St.skip 11 [12, 13, 14, 15, 16, 17, 18, 19, 20, 21, 22, 23, 24, 25] _ rfl (by kernel_rfl) ?_ (fun K hK => ?_); (first | rfl | (simp [Region.wanted, yielded, *]; done)); go_simp; refine hK _ ?_; clear hK K)
          first | (refine Ord.St.fl2 (T' := ?_) 12 [13, 14, 15, 16, 17, 18, 19, 20, 21, 22, 23, 24, 25] _ _ rfl (by kernel_rfl) ?_ rfl rfl rfl (fun K w' hk => ?_) ?_; rotate_left; (first | rfl | (simp [Region.wanted, yielded, *]; done)); focus (go_step; exact hk)) | (refine Ord.St.skip 12 [13, 14, 15, 16, 17, 18, 19, 20, 21, 22, 23, 24, 25] _ rfl (by kernel_rfl) ?_ (fun K hK => ?_); (first | rfl | (simp [Region.wanted, yielded, *]; done)); go_simp; refine hK _ ?_; clear hK K)
          first | (refine Ord.St.rd2 (T' := ?_) 13 [14, 15, 16, 17, 18, 19, 20, 21, 22, 23, 24, 25] _ _ rfl (by kernel_rfl) ?_ rfl rfl rfl (fun K hk => ?_) ?_; rotate_left; (first | rfl | (simp [Region.wanted, yielded, *]; done)); focus (go_step; exact hk)) | (refine Ord.St.skipr 13 [14, 15, 16, 17, 18, 19, 20, 21, 22, 23, 24, 25] _ rfl (by kernel_rfl) ?_ (fun K hK => ?_); (first | rfl | (simp [Region.wanted, yielded, *]; done)); go_simp; refine hK _ ?_; clear hK K)
          first | (refine Ord.St.fl2 (T' := ?_) 14 [15, 16, 17, 18, 19, 20, 21, 22, 23, 24, 25] _ _ rfl (by kernel_rfl) ?_ rfl rfl rfl (fun K w' hk => ?_) ?_; rotate_left; (first | rfl | (simp [Region.wanted, yielded, *]; done)); focus (go_step; exact hk)) | (refine Ord.St.skip 14 [15, 16, 17, 18, 19, 20, 21, 22, 23, 24, 25] _ rfl (by kernel_rfl) ?_ (fun K hK => ?_); (first | rfl | (simp [Region.wanted, yielded, *]; done)); go_simp; refine hK _ ?_; clear hK K)
          first | (refine Ord.St.fl2 (T' := ?_) 15 [16, 17, 18, 19, 20, 21, 22, 23, 24, 25] _ _ rfl (by kernel_rfl) ?_ rfl rfl rfl (fun K w' hk => ?_) ?_; rotate_left; (first | rfl | (simp [Region.wanted, yielded, *]; done)); focus (go_step; exact hk)) | (refine Ord.St.skip 15 [16, 17, 18, 19, 20, 21, 22, 23, 24, 25] _ rfl (by kernel_rfl) ?_ (fun K hK => ?_); (first | rfl | (simp [Region.wanted, yielded, *]; done)); go_simp; refine hK _ ?_; clear hK K)
          first | (refine Ord.St.fl2 (T' := ?_) 16 [17, 18, 19, 20, 21, 22, 23, 24, 25] _ _ rfl (by kernel_rfl) ?_ rfl rfl rfl (fun K w' hk => ?_) ?_; rotate_left; (first | rfl | (simp [Region.wanted, yielded, *]; done)); focus (go_step; exact hk)) | (refine Ord.St.skip 16 [17, 18, 19, 20, 21, 22, 23, 24, 25] _ rfl (by kernel_rfl) ?_ (fun K hK => ?_); (first | rfl | (simp [Region.wanted, yielded, *]; done)); go_simp; refine hK _ ?_; clear hK K)
          refine Ord.St.fl2 (T' := ?_) 17 [18, 19, 20, 21, 22, 23, 24, 25] _ _ rfl (by kernel_rfl) rfl rfl rfl rfl (fun K w' hk => ?_) ?_
          rotate_left
          · go_step; exact hk
          refine Ord.St.fl2 (T' := ?_) 18 [19, 20, 21, 22, 23, 24, 25] _ _ rfl (by kernel_rfl) rfl rfl rfl rfl (fun K w' hk => ?_) ?_
          rotate_left
          · go_step; exact hk
          first | (refine Ord.St.fl2 (T' := ?_) 19 [20, 21, 22, 23, 24, 25] _ _ rfl (by kernel_rfl) ?_ rfl rfl rfl (fun K w' hk => ?_) ?_; rotate_left; (first | rfl | (simp [Region.wanted, yielded, *]; done)); focus (go_step; exact hk)) | (refine Ord.St.skip 19 [20, 21, 22, 23, 24, 25] _ rfl (by kernel_rfl) ?_ (fun K hK => ?_); (first | rfl | (simp [Region.wanted, yielded, *]; done)); go_simp; refine hK _ ?_; clear hK K)
          first | (refine Ord.St.fl2 (T' := ?_) 20 [21, 22, 23, 24, 25] _ _ rfl (by kernel_rfl) ?_ rfl rfl rfl (fun K w' hk => ?_) ?_; rotate_left; (first | rfl | (simp [Region.wanted, yielded, *]; done)); focus (go_step; exact hk)) | (refine Ord.St.skip 20 [21, 22, 23, 24, 25] _ rfl (by kernel_rfl) ?_ (fun K hK => ?_); (first | rfl | (simp [Region.wanted, yielded, *]; done)); go_simp; refine hK _ ?_; clear hK K)
          first | (refine Ord.St.fl2 (T' := ?_) 21 [22, 23, 24, 25] _ _ rfl (by kernel_rfl) ?_ rfl rfl rfl (fun K w' hk => ?_) ?_; rotate_left; (first | rfl | (simp [Region.wanted, yielded, *]; done)); focus (go_step; exact hk)) | (refine Ord.St.skip 21 [22, 23, 24, 25] _ rfl (by kernel_rfl) ?_ (fun K hK => ?_); (first | rfl | (simp [Region.wanted, yielded, *]; done)); go_simp; refine hK _ ?_; clear hK K)
          first | (refine Ord.St.fl2 (T' := ?_) 22 [23, 24, 25] _ _ rfl (by kernel_rfl) ?_ rfl rfl rfl (fun K w' hk => ?_) ?_; rotate_left; (first | rfl | (simp [Region.wanted, yielded, *]; done)); focus (go_step; exact hk)) | (refine Ord.St.skip 22 [23, 24, 25] _ rfl (by kernel_rfl) ?_ (fun K hK => ?_); (first | rfl | (simp [Region.wanted, yielded, *]; done)); go_simp; refine hK _ ?_; clear hK K)
          first | (refine Ord.St.fl2 (T' := ?_) 23 [24, 25] _ _ rfl (by kernel_rfl) ?_ rfl rfl rfl (fun K w' hk => ?_) ?_; rotate_left; (first | rfl | (simp [Region.wanted, yielded, *]; done)); focus (go_step; exact hk)) | (refine Ord.St.skip 23 [24, 25] _ rfl (by kernel_rfl) ?_ (fun K hK => ?_); (first | rfl | (simp [Region.wanted, yielded, *]; done)); go_simp; refine hK _ ?_; clear hK K)
          first | (refine Ord.St.fl2 (T' := ?_) 24 [25] _ _ rfl (by kernel_rfl) ?_ rfl rfl rfl (fun K w' hk => ?_) ?_; rotate_left; (first | rfl | (simp [Region.wanted, yielded, *]; done)); focus (go_step; exact hk)) | (refine Ord.St.skip 24 [25] _ rfl (by kernel_rfl) ?_ (fun K hK => ?_); (first | rfl | (simp [Region.wanted, yielded, *]; done)); go_simp; refine hK _ ?_; clear hK K)
          refine Ord.St.fl2 (T' := ?_) 25 [] _ _ rfl (by kernel_rfl) rfl rfl rfl rfl (fun K w' hk => ?_) ?_
          rotate_left
          · go_step; exact hk
          refine Ord.St.nil ?_
          clear e1 e2 e3
          have hmax := HMAX.out
          go_wp2_with fail
          (with_reducible refine (HAP1.out _).mono ?_)
          rintro e w10 ⟨rfl, hc10⟩
          have HC10 := Lib.hid ((HC9.out.drew).trans hc10 (by simp)); clear hc10
          go_wp2_with fail
          (with_reducible refine (HAP2.out _).mono ?_)
          rintro e w11 ⟨rfl, hc11⟩
          have HC11 := Lib.hid (HC10.out.trans hc11 (by simp)); clear hc11
          have e4 := E4.out
          go_wp2_with fail
          go_roundw
          case rel => exact ⟨b + 1, by omega, by go_num, HC11.out⟩
          case measure => simp [intOf]; omega
        · have hbE : b = E := by omega
          have HCI := Lib.hid hc; clear hc
          go_wp2_with fail
          go_roundw
          case rel => exact ⟨x + 1, by omega, by go_num, HC.out.trans HCI.out (by simp)⟩
          case measure => simp [intOf]; omega
    · have HC := Lib.hid hc; clear hc
      go_wp2_with fail
      go_ret
      exact ⟨rfl, HC6.out.trans HC.out (by simp)⟩
end Go.Proofs.Ytnmfdiiehkkjcaa
