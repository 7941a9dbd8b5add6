/-
  Walks over bitword: bits of words. Conditions: numbers in range.
  Walks over Const, Cast, Value, Input of sums, and the library's Clone of any word. Conditions: numbers in range.
  Walks over Cast, Value, Input of sums. Conditions: numbers in range, a graph in memory.
  Walk over the chapter's examples (awake): true. Conditions: none.
  A graph in memory with words that are held beside it: what is known along a law's walk. Conditions: none beyond the hypotheses.
  The functions of sums beside a graph and words that are held. Conditions: none beyond the hypotheses.
  Walk over the chapter's examples (awake of sums): true. Conditions: none.
  Walk over Pair of chapter 23's law: a graph with two words of new inputs. Conditions: none.
  Walks over the small functions of chapter 23's laws: Refs, Ints, Clone of truths, and the reference's Right, Const, Cast. Conditions: numbers in range.
  Walks: the reference's Cast, Equal of truths, Ints. Conditions: numbers in range.
  From a law's arguments to what the walks say: numbers, slices of numbers and of truths. Conditions: those of the given row.
  Words of many assignments at once, plainly: what the nodes of a graph are for the words of its inputs, bit by bit. No program in sight. Conditions: none beyond the hypotheses.
  Walks over small functions of the laws: words, value, pick. Conditions: slices that are read.
  Walks over Same and Begin of chapter 23's laws: two graphs that are the same, and such ones that are made. Conditions: none beyond the hypotheses.
  Walks over sim: of, nodes. Conditions: a graph in memory, as many words as inputs.
  Walks over sim: check, Words, Bits. Conditions: a graph in memory, references of any integers, words that can be read.
  Tables, plainly: the words of the inputs for 64 assignments at once, the table of what is told of the nodes, bit by bit. No program in sight. Conditions: none beyond the hypotheses.
  Counting the bits of a word, plainly: the lowest bit that is 1 goes with each step. No program in sight. Conditions: none beyond the hypotheses.
  Walks over sim: inputs, one. Conditions: at most 16 inputs, a block of a table of them.
  Walk over sim: Bits. Conditions: a graph in memory, references of any integers, values that can be read.
  Walk over made of chapter 23's law: what each operation makes of two words. Conditions: a graph in memory, words that are held.
  A region in the text's order, in a round of a range over a function, under the widest fence: from the plain walk. Conditions: no defer in it.
  Walks over sim: tabled, Table. Conditions: a graph in memory, any reference.
  Walk over sim: Count. Conditions: a graph in memory, any reference.
  Walk over sim: first. Conditions: a graph of at most 16 inputs in memory, what tells a word.
  The laws' graphs, plainly: what small numbers make. No program in sight.
  The laws' graphs, plainly: built step by step. No program in sight. Conditions: none beyond the hypotheses.
  The words of the nodes, plainly, and their bits. No program in sight. Conditions: none beyond the hypotheses.
  From a law's arguments to what the walks say: nodes, slices of words. Conditions: those of the given row.
  Walks over check and must of muldiv. Conditions: a graph in memory, words of any integers.
  Walks over build of muldiv: something is made as a whole, or it stops and the graph is as it was.
  New words that are changed, or grown, before they are held. Conditions: none beyond the hypotheses.
  Walks over shifted of shifts: a word shifted by a number up to its width. Conditions: a word that can be read.
  Walks over steps, Steps, Fixed of shifts. Conditions: a word that can be read.
  Plain: one bit of a shift (a choice, bit by bit), shifts by a word; and append at a row inside a round of a range over a function. Conditions: none beyond the hypotheses.
  Products and quotients, plainly: one step after the other, until one fails. No program in sight. Conditions: none beyond the hypotheses.
  Walk over product of muldiv. Conditions: a graph in memory, two words of its references, of the same width.
  Walk over choose of muxes' maker: word by guard. Conditions: a maker in memory, a guard and two words of its graph.
  Walks over fit and is of muxes. Conditions: a maker in memory, a word of its graph.
  Sums, differences and comparisons of two words of one width, as parts of a product and of a quotient. Conditions: a graph in memory, words of its references.
  Walk over product of muldiv. Conditions: a graph in memory, two words of its references, of the same width.
  Walks over Mul of muldiv. Conditions: a graph in memory, two words of any integers.
  A range over a function whose iterator works on memory between its yields, and may panic there: the caller's law. The body goes on always.
  A range over a function whose BODY may panic, and so the iterator: the law for a function that is known (its frames' function has an entry in the program). The iterator works on memory.
  Walks over fitting of muxes: the iterator that makes whether a word is a number, number by number. Conditions: a maker in memory, a word of its graph.
  Walk over Read's closure of muxes. Conditions: a maker in memory, an array of words of its graph, an index.
  Walk over slices.Backward of references. Conditions: a slice that can be read.
  A list that is turned round by swaps, plainly. No program in sight. Conditions: none.
  Slices of references: the other way round, in memory, and backward by a function that yields, where what is yielded to works on memory. Conditions: a slice that can be read.
  The quotient and the rest of two words, plainly: one bit after the other, until a step fails. No program in sight. Conditions: none beyond the hypotheses.
  What is known while the quotient is made: the graph, one's own words, and what the loop outside keeps. Conditions: none beyond the hypotheses.
-/
import Derived.Test.YtkedpifopclipaaGreatQB
import Derived.Laws.BitsAllLaws
import Derived.Test.YtkedpifopclipaaGreatRows
import Derived.WalkKit
import Derived.ProofKit
import Derived.OpenShut
import Derived.ChangeOld
import Derived.Below
import Derived.Carry
import Derived.Deep.Slices
import Derived.Deep.Fields
import Derived.Laws.Bits64b
import Derived.TacticsIn
import Derived.Recover
import Derived.OwnWalkIn
import Derived.RangeFuncLeaves
namespace Go.Aig
/-- the number that some bits are -/
def bitsVal : List Bool → Nat
  | [] => 0
  | b :: l => b.toNat + 2 * bitsVal l
theorem bitsVal_lt : ∀ (l : List Bool), bitsVal l < 2 ^ l.length
  | [] => by simp [bitsVal]
  | b :: l => by
    have := bitsVal_lt l
    have hb : b.toNat ≤ 1 := by cases b <;> decide
    show b.toNat + 2 * bitsVal l < 2 ^ (l.length + 1)
    rw [Nat.pow_succ]; omega
theorem bitsVal_snoc : ∀ (l : List Bool) (b : Bool), bitsVal (l ++ [b]) = bitsVal l + b.toNat * 2 ^ l.length
  | [], b => by simp [bitsVal]
  | c :: l, b => by
    show c.toNat + 2 * bitsVal (l ++ [b]) = c.toNat + 2 * bitsVal l + b.toNat * 2 ^ (l.length + 1)
    rw [bitsVal_snoc l b, Nat.pow_succ, Nat.mul_add, ← Nat.mul_assoc, Nat.mul_comm 2 b.toNat, Nat.add_assoc]
    congr 2
    rw [Nat.mul_comm (2 ^ l.length) 2, Nat.mul_assoc]
theorem bitsVal_succ {l : List Bool} {k : Nat} {b : Bool} (h : l[k]? = some b) (hk : k < 32) : bits .or .u32 (bitsVal (l.take k) : Int) ((b.toNat * 2 ^ k : Nat) : Int) = (bitsVal (l.take (k + 1)) : Int) ∧ b.toNat * 2 ^ k < 4294967296 := by
  have hlt := (List.getElem?_eq_some_iff.1 h).1
  have hlen : (l.take k).length = k := by rw [List.length_take]; omega
  have h1 := bitsVal_lt (l.take k)
  rw [hlen] at h1
  have h2 : (2 : Nat) ^ k ≤ 2 ^ 31 := Nat.pow_le_pow_right (by omega) (by omega)
  have hb : b.toNat ≤ 1 := by cases b <;> decide
  have h3 : b.toNat * 2 ^ k < 4294967296 := by
    have : b.toNat * 2 ^ k ≤ 1 * 2 ^ k := Nat.mul_le_mul_right _ hb
    omega
  refine ⟨?_, h3⟩
  rw [u32_or_nat _ _ (by omega) h3, List.take_add_one, h]
  show ((bitsVal (l.take k) ||| b.toNat * 2 ^ k : Nat) : Int) = (bitsVal (l.take k ++ [b]) : Int)
  rw [bitsVal_snoc, hlen, Nat.or_comm, Nat.mul_comm, ← Nat.two_pow_add_eq_or_of_lt h1, Nat.add_comm]
end Go.Aig
namespace Go.Proofs.YtkedpifopclipaaGreat
open Go.RowKit Go.Mem Go.Aig
section
variable {w : World}
set_option maxRecDepth 100000 in
set_option maxHeartbeats 1000000 in
theorem Bit_is (x i : Nat) (hx : x < 4294967296) (hi : i < 32) : Calls Tryz.prog 39 #[.int .u32 x, .int .i64 i] w fun e w' => e = .returned (.bool (x.testBit i)) ∧ w = w' := by
  have h1 : decide ((0 : Int) ≤ i) = true := decide_eq_true (by omega)
  have h2 : decide ((i : Int) < 32) = true := decide_eq_true (by omega)
  go_enter Tryz.func39, Tryz.ntmps39
  go_wp2_with fail
  go_ret
  refine ⟨?_, rfl⟩
  have e : bits .and .u32 ((x : Int) / 2 ^ i) 1 = ((x / 2 ^ i % 2 : Nat) : Int) := by
    have h3 : x / 2 ^ i < 4294967296 := Nat.lt_of_le_of_lt (Nat.div_le_self _ _) hx
    have h4 := u32_and_nat (x / 2 ^ i) 1 h3 (by omega)
    rw [Nat.and_one_is_mod] at h4
    have h5 : ((x / 2 ^ i : Nat) : Int) = (x : Int) / 2 ^ i := by rw [Int.natCast_ediv]; simp
    rw [← h5]
    exact h4
  show Ending.returned (.bool (bits .and .u32 ((x : Int) / 2 ^ i) 1 == 1)) = _
  rw [e, Nat.testBit_eq_decide_div_mod_eq]
  rcases Nat.mod_two_eq_zero_or_one (x / 2 ^ i) with h3 | h3 <;> rw [h3] <;> rfl
set_option maxRecDepth 100000 in
set_option maxHeartbeats 1000000 in
theorem Most_is (n : Nat) (h1 : 1 ≤ n) (h2 : n ≤ 16) : Calls Tryz.prog 36 #[.int .i64 n] w fun e w' => e = .returned (.tuple #[.int .u32 (2 ^ n - 1 : Nat), .int .i64 0]) ∧ w = w' := by
  go_enter Tryz.func36, Tryz.ntmps36
  go_wp2_with fail
  go_ret2
  refine ⟨?_, rfl⟩
  have h3 : 2 ^ n ≤ 2 ^ 16 := Nat.pow_le_pow_right (by omega) h2
  have h4 : 1 ≤ 2 ^ n := Nat.one_le_two_pow
  have e : ((2 : Int) ^ n % 4294967296 - 1) % 4294967296 = ((2 ^ n - 1 : Nat) : Int) := by
    have h5 : (2 : Int) ^ n = ((2 ^ n : Nat) : Int) := by simp
    rw [h5]
    omega
  show Ending.returned (.tuple #[.int .u32 (((2 : Int) ^ n % 4294967296 - 1) % 4294967296), .int .i64 0]) = _
  rw [e]
set_option maxRecDepth 100000 in
set_option maxHeartbeats 1000000 in
theorem Most_no (n : Int) (h1 : n < 1 ∨ 16 < n) : Calls Tryz.prog 36 #[.int .i64 n] w fun e w' => e = .returned (.tuple #[.int .u32 0, .int .i64 220]) ∧ w = w' := by
  by_cases h0 : n < 1
  · have hd : decide (n < 1) = true := decide_eq_true h0
    go_enter Tryz.func36, Tryz.ntmps36
    go_wp2_with fail
    go_ret2
    exact ⟨rfl, rfl⟩
  · have hd : decide (n < 1) = false := decide_eq_false h0
    have hd2 : decide (16 < n) = true := decide_eq_true (by omega)
    go_enter Tryz.func36, Tryz.ntmps36
    go_wp2_with fail
    go_ret2
    exact ⟨rfl, rfl⟩
set_option maxRecDepth 100000 in
set_option maxHeartbeats 1000000 in
theorem btruth_is (b : Bool) : Calls Tryz.prog 76 #[.bool b] w fun e w' => e = .returned (.int .u32 b.toNat) ∧ w = w' := by
  cases b
  · go_enter Tryz.func76, Tryz.ntmps76
    go_wp2_with fail
    go_ret
    exact ⟨rfl, rfl⟩
  · go_enter Tryz.func76, Tryz.ntmps76
    go_wp2_with fail
    go_ret
    exact ⟨rfl, rfl⟩
/-- a slice of truths that is read -/
abbrev Sb (w : World) (a : Option Addr) (l : List Bool) : Prop := Sv w a (l.map Value.bool)
set_option maxRecDepth 100000 in
set_option maxHeartbeats 1000000 in
theorem FromBits_no {a : Option Addr} (n c : Nat) (h : n < 1 ∨ 16 < n) (hm : n ≤ 1000000) : Calls Tryz.prog 62 #[.slice a n c] w fun e w' => e = .returned (.tuple #[.int .u32 0, .int .i64 220]) ∧ w = w' := by
  have HM := Most_no (w := w) n (by omega)
  go_enter Tryz.func62, Tryz.ntmps62
  go_wp2_with fail
  refine HM.mono ?_
  rintro e w' ⟨rfl, rfl⟩
  go_wp2_with fail
  go_ret2
  exact ⟨rfl, rfl⟩
set_option maxRecDepth 100000 in
set_option maxHeartbeats 2000000 in
theorem FromBits_is {a : Option Addr} {l : List Bool} (n c : Nat) (hn : l.length = n) (h1 : 1 ≤ n) (h2 : n ≤ 16) (hS : Sb w a l) : Calls Tryz.prog 62 #[.slice a n c] w fun e w' => e = .returned (.tuple #[.int .u32 (bitsVal l), .int .i64 0]) ∧ w = w' := by
  subst hn
  have HM := Most_is (w := w) l.length h1 h2
  have HS := Lib.hid hS; clear hS
  go_enter Tryz.func62, Tryz.ntmps62
  go_wp2_with fail
  refine HM.mono ?_
  rintro e w' ⟨rfl, rfl⟩
  go_wp2_with fail
  go_loopw [6, 20] (fun x i wr => ∃ k : Nat, k ≤ l.length ∧ i = .int .i64 k ∧ wr = w ∧ x = .int .u32 (bitsVal (l.take k))) (fun _ i _ => l.length - (intOf i).toNat)
  case atStart => exact ⟨0, by omega, rfl, rfl, rfl⟩
  case round =>
    obtain ⟨k, hk, rfl, rfl, rfl⟩ := hrel
    by_cases hlt : k < l.length
    · obtain ⟨b, hb⟩ : ∃ b, l[k]? = some b := ⟨_, List.getElem?_eq_getElem hlt⟩
      obtain ⟨xb, xo, rfl, hcl⟩ := HS.out.cells k (.bool b) (by simp [hb])
      have HT := btruth_is (w := wr) b
      have hs := bitsVal_succ hb (by omega)
      generalize hX : bitsVal (l.take k) = X at *
      generalize hX2 : bitsVal (l.take (k + 1)) = X2 at *
      have HX2 := Lib.hid hX2; clear hX2
      have HSS := Lib.hid hs; clear hs hX hb
      go_wp2_with fail
      refine HT.mono ?_
      rintro e w2 ⟨rfl, rfl⟩
      go_wp2_with fail
      go_roundw
      case rel =>
        refine ⟨k + 1, by omega, by go_num, trivial, ?_⟩
        have h3 := HSS.out.1
        have h4 := HSS.out.2
        rw [HX2.out, ← h3]
        have h5 : ((b.toNat * 2 ^ k : Nat) : Int) = (b.toNat : Int) * 2 ^ k := by simp
        have h6 : (b.toNat : Int) * 2 ^ k % 4294967296 = ((b.toNat * 2 ^ k : Nat) : Int) := by rw [← h5]; omega
        rw [h6]
      case measure => simp [intOf]; omega
    · have hkn : l.take k = l := List.take_of_length_le (by omega)
      rw [hkn]
      clear hkn
      go_wp2_with fail
      go_ret2
      exact ⟨rfl, rfl⟩
end
end Go.Proofs.YtkedpifopclipaaGreat
namespace Go.Aig
def constL (x n : Nat) : List Nat := (List.range n).map fun i => (x.testBit i).toNat
def inG (G : Gra) (n : Int) : Gra × List Nat × Nat := if rightW n then wres G (inF (G, 0) n.toNat) else (G, [], 230)
theorem constL_succ (x n : Nat) : constL x (n + 1) = constL x n ++ [(x.testBit n).toNat] := by
  unfold constL
  rw [List.range_succ, List.map_append]; rfl
end Go.Aig
namespace Go.Proofs.YtkedpifopclipaaGreat
open Go.RowKit Go.Mem Go.Aig
section
variable {w : World}
/-- what makes a word out of nothing leaves -/
def WNew (w : World) (v : Value) (xs : List Value) (w' : World) : Prop := row w' 53 1 v xs.length xs ∧ (∀ q ∈ v.ownBlock.toList, w.heap.size ≤ q) ∧ Ch [] w w'
theorem WNew.nil {w w' : World} (h : Ch [] w w') : WNew w (.slice none 0 0) [] w' := ⟨⟨rfl, .inl ⟨rfl, rfl⟩⟩, by simp, h⟩
set_option maxRecDepth 100000 in
set_option maxHeartbeats 2000000 in
theorem sConst_is (x : Nat) (hx : x < 4294967296) (n : Int) : Calls Tryz.prog 15 #[.int .u32 x, .int .i64 n] w fun e w' => ∃ v, e = .returned (.tuple #[v, .int .i64 (if rightW n then 0 else 230 : Nat)]) ∧ WNew w v (if rightW n then refsCells (constL x n.toNat) else []) w' := by
  have HR := sright_is (w := w) n
  cases hr : rightW n
  · rw [hr] at HR
    have H := Lib.hid hr; clear hr
    simp only [Bool.false_eq_true, if_false]
    go_enter Tryz.func15, Tryz.ntmps15
    go_wp2_with fail
    refine HR.mono ?_
    rintro e w' ⟨rfl, rfl⟩
    go_wp2_with fail
    go_ret2
    exact ⟨_, rfl, WNew.nil (Ch.refl _ _)⟩
  · rw [hr] at HR
    obtain ⟨k0, rfl, hk0⟩ : ∃ k0 : Nat, n = k0 ∧ k0 ≤ 17 := by
      unfold rightW at hr
      simp at hr
      exact ⟨n.toNat, by omega, by omega⟩
    have H := Lib.hid hr; clear hr
    simp only [if_true, Int.toNat_natCast]
    go_enter Tryz.func15, Tryz.ntmps15
    go_wp2_with fail
    refine HR.mono ?_
    rintro e w' ⟨rfl, rfl⟩
    clear HR
    go_wp2_with fail
    go_loopw [6, 13] (fun o i wr => ∃ k : Nat, k ≤ k0 ∧ i = .int .i64 k ∧ Ch [] w wr ∧ row wr 53 1 o k (refsCells (constL x k)) ∧ ∀ q ∈ o.ownBlock.toList, w.heap.size ≤ q) (fun _ i _ => k0 - (intOf i).toNat)
    case atStart => exact ⟨0, by omega, rfl, Ch.refl _ _, ⟨rfl, .inl ⟨rfl, rfl⟩⟩, by simp⟩
    case round =>
      obtain ⟨k, hk, rfl, hc, hrow, hlo⟩ := hrel
      obtain ⟨oa, oc, rfl⟩ := row.shape hrow
      by_cases hlt : k < k0
      · have HB := Bit_is (w := wr) x k hx (by omega)
        have hsu : refsCells (constL x (k + 1)) = refsCells (constL x k) ++ [.int .i64 ((x.testBit k).toNat : Nat)] := by rw [constL_succ]; simp [refsCells]
        have HSU := Lib.hid hsu; clear hsu
        have HC := Lib.hid hc; clear hc
        have HLO := Lib.hid hlo; clear hlo
        cases hb : x.testBit k
        · rw [hb] at HB HSU
          clear hb
          have hcA : Ch [] wr (wr.alloc (.cells #[.int .i64 0] 53)) := (Ch.refl _ _).alloc _
          have hrA := hrow.ch hcA (by simp)
          have hbA : blk (wr.alloc (.cells #[.int .i64 0] 53)) wr.heap.size [.int .i64 0] := blk.new' _ _ rfl
          have HRA := Lib.hid hrA; clear hrA hrow
          have HBA := Lib.hid hbA; clear hbA
          have HCA := Lib.hid hcA; clear hcA
          go_wp2_with fail
          refine HB.mono ?_
          rintro e w2 ⟨rfl, rfl⟩
          go_wp2_with (at_builtin; go_loud (refine wpList_append_row slRefs rfl _ _ rfl (v := .slice oa k oc) (n := k) (xs := refsCells (constL x k)) rfl HRA.out (ad := ⟨wr.heap.size, 0, none⟩) (m := 1) (c := 1) (news := [.int .i64 0]) rfl rfl (news_blk HBA.out) (by simp [Value.oneCell']) (by omega) (by omega) ?_; intro v' w4 hown4 hC4 hf4; have HO4 := Lib.hid hown4; clear hown4; have HC4 := Lib.hid hC4; clear hC4; have HF4 := Lib.hid hf4; clear hf4))
          go_roundw
          case rel =>
            obtain ⟨q1, q2⟩ := app_step HC.out HCA.out HLO.out HC4.out HF4.out
            refine ⟨k + 1, by omega, by go_num, q1, ?_, q2⟩
            rw [HSU.out]; exact HO4.out
          case measure => simp [intOf]; omega
        · rw [hb] at HB HSU
          clear hb
          have hcA : Ch [] wr (wr.alloc (.cells #[.int .i64 1] 53)) := (Ch.refl _ _).alloc _
          have hrA := hrow.ch hcA (by simp)
          have hbA : blk (wr.alloc (.cells #[.int .i64 1] 53)) wr.heap.size [.int .i64 1] := blk.new' _ _ rfl
          have HRA := Lib.hid hrA; clear hrA hrow
          have HBA := Lib.hid hbA; clear hbA
          have HCA := Lib.hid hcA; clear hcA
          go_wp2_with fail
          refine HB.mono ?_
          rintro e w2 ⟨rfl, rfl⟩
          go_wp2_with (at_builtin; go_loud (refine wpList_append_row slRefs rfl _ _ rfl (v := .slice oa k oc) (n := k) (xs := refsCells (constL x k)) rfl HRA.out (ad := ⟨wr.heap.size, 0, none⟩) (m := 1) (c := 1) (news := [.int .i64 1]) rfl rfl (news_blk HBA.out) (by simp [Value.oneCell']) (by omega) (by omega) ?_; intro v' w4 hown4 hC4 hf4; have HO4 := Lib.hid hown4; clear hown4; have HC4 := Lib.hid hC4; clear hC4; have HF4 := Lib.hid hf4; clear hf4))
          go_roundw
          case rel =>
            obtain ⟨q1, q2⟩ := app_step HC.out HCA.out HLO.out HC4.out HF4.out
            refine ⟨k + 1, by omega, by go_num, q1, ?_, q2⟩
            rw [HSU.out]; exact HO4.out
          case measure => simp [intOf]; omega
      · have hkn : k = k0 := by omega
        subst hkn
        have HROW := Lib.hid hrow; clear hrow
        have HLO := Lib.hid hlo; clear hlo
        have HC := Lib.hid hc; clear hc
        go_wp2_with fail
        go_ret2
        refine ⟨.slice oa k oc, rfl, ?_, HLO.out, HC.out⟩
        have := HROW.out
        simpa [refsCells, constL] using this
set_option maxRecDepth 100000 in
set_option maxHeartbeats 1000000 in
theorem Clref_w {x : WV} (h : WVok w x) (n : Nat) (hn : x.l.length = n) : Calls Tryz.prog 31 #[.slice x.a n x.c] w fun e w' => ∃ v, e = .returned v ∧ WNew w v (intCells x.l) w' := by
  obtain ⟨xa, xl, xc⟩ := x
  subst hn
  have hlen := h.len
  simp only at *
  cases xa with
  | none =>
    have hl : xl = [] := by
      cases xl with
      | nil => rfl
      | cons y l =>
        obtain ⟨b, o, e, _⟩ := h.sl.cells 0 y rfl
        cases e
    subst hl
    clear h
    go_enter Tryz.func31, Tryz.ntmps31
    go_wp2_with fail
    go_ret
    exact ⟨_, rfl, WNew.nil (Ch.refl _ _)⟩
  | some p =>
    have hO : row (w.alloc (.cells #[] 53)) 53 1 (.slice (some ⟨w.heap.size, 0, none⟩) 0 0) 0 [] := ⟨rfl, .inr ⟨w.heap.size, 0, #[], rfl, by omega, heap_alloc_new w _, by omega, by unfold maxLen; omega, rfl, rfl⟩⟩
    have hN : ∀ j u, (intCells xl)[j]? = some u → (w.alloc (.cells #[] 53)).cell? (p.add j) = some u := fun j u hu => by
      simp only [intCells, List.getElem?_map, Option.map_eq_some_iff] at hu
      obtain ⟨y, hy, rfl⟩ := hu
      obtain ⟨b, o, e, hc⟩ := h.sl.cells j y hy
      cases e
      rw [Addr.add_lit]
      exact (((Ch.refl [] w).alloc _).cell (cell_lt hc) (by simp)).trans hc
    have h1 : ∀ u ∈ intCells xl, u.oneCell' = true := fun u hu => by
      obtain ⟨r, _, rfl⟩ := List.mem_map.1 hu
      rfl
    have HO := Lib.hid hO; clear hO
    have HN := Lib.hid hN; clear hN h
    have H1 := Lib.hid h1; clear h1
    go_enter Tryz.func31, Tryz.ntmps31
    go_wp2_with (at_builtin; go_loud (refine wpList_append_row slRefs rfl _ _ rfl (v := .slice (some ⟨w.heap.size, 0, none⟩) 0 0) (n := 0) (xs := []) rfl HO.out (ad := p) (m := xl.length) (c := xc) (news := intCells xl) rfl (by simp [intCells]) HN.out H1.out (by omega) (by omega) ?_; intro v' w2 hown hC2 hfresh; have HOWN := Lib.hid hown; clear hown; have HC2 := Lib.hid hC2; clear hC2; have HFR := Lib.hid hfresh; clear hfresh))
    go_ret
    have hown := HOWN.out
    rw [Nat.zero_add, List.nil_append] at hown
    refine ⟨_, rfl, by simpa [intCells] using hown, fun k hk => ?_, (((Ch.refl [] w).alloc (.cells #[] 53))).trans HC2.out (by simp)⟩
    rcases HFR.out k (by simpa using hk) with e | e
    · simp at e; omega
    · simp at e; omega
end
end Go.Proofs.YtkedpifopclipaaGreat
namespace Go.Proofs.YtkedpifopclipaaGreat
open Go.RowKit Go.Mem Go.Aig
section
variable {w : World}
set_option maxRecDepth 100000 in
set_option maxHeartbeats 1000000 in
theorem sValue_is {x : WV} (hx : x.l.length ≤ 1000000) {a : Option Addr} {l : List Bool} (c : Nat) (hm : l.length ≤ 1000000) (hS : Sb w a l) :
    Calls Tryz.prog 34 #[x.val, .slice a l.length c] w fun e w' => e = .returned (.tuple #[.int .u32 (if 1 ≤ l.length ∧ l.length ≤ 16 ∧ l.length = x.l.length then bitsVal l else 0 : Nat), .int .i64 (if 1 ≤ l.length ∧ l.length ≤ 16 ∧ l.length = x.l.length then 0 else 230 : Nat)]) ∧ w = w' := by
  obtain ⟨xa, xl, xc⟩ := x
  simp only [WV.val] at *
  by_cases h1 : 1 ≤ l.length ∧ l.length ≤ 16
  · have HF := FromBits_is (w := w) l.length c rfl h1.1 h1.2 hS
    by_cases h2 : l.length = xl.length
    · have hq : ((l.length : Int) != (xl.length : Int)) = false := by rw [h2]; simp
      rw [if_pos ⟨h1.1, h1.2, h2⟩, if_pos ⟨h1.1, h1.2, h2⟩]
      clear h1 h2 hS
      go_enter Tryz.func34, Tryz.ntmps34
      go_wp2_with fail
      refine HF.mono ?_
      rintro e w' ⟨rfl, rfl⟩
      go_wp2_with fail
      go_ret2
      exact ⟨rfl, rfl⟩
    · have hq : ((l.length : Int) != (xl.length : Int)) = true := by simp; omega
      rw [if_neg (fun h => h2 h.2.2), if_neg (fun h => h2 h.2.2)]
      clear h1 h2 hS
      go_enter Tryz.func34, Tryz.ntmps34
      go_wp2_with fail
      refine HF.mono ?_
      rintro e w' ⟨rfl, rfl⟩
      go_wp2_with fail
      go_ret2
      exact ⟨rfl, rfl⟩
  · have HF := FromBits_no (w := w) (a := a) l.length c (by omega) hm
    rw [if_neg (fun h => h1 ⟨h.1, h.2.1⟩), if_neg (fun h => h1 ⟨h.1, h.2.1⟩)]
    clear h1 hS
    go_enter Tryz.func34, Tryz.ntmps34
    go_wp2_with fail
    refine HF.mono ?_
    rintro e w' ⟨rfl, rfl⟩
    go_wp2_with fail
    go_ret2
    exact ⟨rfl, rfl⟩
set_option maxRecDepth 100000 in
set_option maxHeartbeats 1000000 in
theorem sInput_is {g : Nat} {G : Gra} {F : List Nat} (h : GIn w g G F) (n : Int) : Calls Tryz.prog 24 #[.pointer (some ⟨g, 0, none⟩), .int .i64 n] w fun e w' => ∃ v, e = .returned (.tuple #[v, .int .i64 (inG G n).2.2]) ∧ GVo w g (inG G n).1 [] F v (inG G n).2.1 w' := by
  have hpos := h.ok.wf.pos
  have hFl := h.lt
  have hp0 : ((G.nodes.length : Int) == 0) = false := beqN (by omega)
  have hL : ∀ W, Ch [] w W → Calls Tryz.prog 20 #[.pointer (some ⟨g, 0, none⟩)] W fun e w' => e = .returned (.int .i64 G.nodes.length) ∧ W = w' := fun W hW => Len_g (h.same hW (by simp))
  have hr1 := h.ok.room
  have hr2 := h.ok.most
  unfold inG
  have HR := fun W => sright_is (w := W) n
  cases hr : rightW n
  · rw [hr] at HR
    clear hr
    simp only [Bool.false_eq_true, if_false]
    have H := Lib.hid h; clear h
    go_enter Tryz.func24, Tryz.ntmps24
    go_wp2_with fail
    refine calls_named fun W0 hW0 => ?_
    have hc0 : Ch [] w W0 := by rw [hW0]; exact ((Ch.refl _ _).alloc _).alloc _
    have hbn : blk W0 (w.heap.size + 1) [.int .i64 n] := by rw [hW0]; exact blk.new' _ _ (by simp)
    have hn0 := hbn.cell (i := 0) rfl
    clear hW0
    refine (hL W0 hc0).mono ?_
    rintro e w' ⟨rfl, rfl⟩
    have HC0 := Lib.hid hc0; clear hc0
    go_wp2_with fail
    refine (HR _).mono ?_
    rintro e w' ⟨rfl, rfl⟩
    go_wp2_with fail
    go_ret2
    exact ⟨_, rfl, GVo.none H.out HC0.out⟩
  · rw [hr] at HR
    obtain ⟨k0, rfl, hk0⟩ : ∃ k0 : Nat, n = k0 ∧ k0 ≤ 17 := by
      unfold rightW at hr
      simp at hr
      exact ⟨n.toNat, by omega, by omega⟩
    clear hr
    simp only [if_true, Int.toNat_natCast]
    have hB : ∀ W, Ch [] w W → blk W w.heap.size [.pointer (some ⟨g, 0, none⟩)] → blk W (w.heap.size + 1) [.int .i64 k0] → Calls Tryz.prog 45 #[.pointer (some ⟨g, 0, none⟩), .func (.func 46) #[] #[.pointer (some ⟨w.heap.size + 1, 0, none⟩), .pointer (some ⟨w.heap.size, 0, none⟩)]] W fun e w' => ∃ v, e = .returned (.tuple #[v, .int .i64 (wres G (inF (G, 0) k0)).2.2]) ∧ GVo W g (wres G (inF (G, 0) k0)).1 [] F v (wres G (inF (G, 0) k0)).2.1 w' := fun W hW hbg hbn =>
      sbuildW_is (h.same hW (by simp)) 46 _ fnvsInput1 _ [] (fun W2 m hm hW2 hM => sInput1_is hM (by omega) ((hbn.ch hW2 (by simp)).cell (i := 0) rfl) ((hbg.ch hW2 (by simp)).cell (i := 0) rfl) (fun hk => by
        have h1 := hbg.lt
        simp only [List.mem_cons] at hk
        rcases hk with e | e
        · omega
        · have := hFl _ e; omega))
    have HB := Lib.hid hB; clear hB
    generalize wres G (inF (G, 0) k0) = R at *
    have H := Lib.hid h; clear h
    go_enter Tryz.func24, Tryz.ntmps24
    go_wp2_with fail
    refine calls_named fun W0 hW0 => ?_
    have hc0 : Ch [] w W0 := by rw [hW0]; exact ((Ch.refl _ _).alloc _).alloc _
    have hbg : blk W0 w.heap.size [.pointer (some ⟨g, 0, none⟩)] := by rw [hW0]; exact (blk.new' _ _ (by simp)).alloc _
    have hbn : blk W0 (w.heap.size + 1) [.int .i64 k0] := by rw [hW0]; exact blk.new' _ _ (by simp)
    have hn0 := hbn.cell (i := 0) rfl
    have hg0 := hbg.cell (i := 0) rfl
    clear hW0
    refine (hL W0 hc0).mono ?_
    rintro e w' ⟨rfl, rfl⟩
    have HBB := HB.out W0 hc0 hbg hbn
    have HC0 := Lib.hid hc0; clear hc0
    clear hbg hbn
    go_wp2_with fail
    refine (HR _).mono ?_
    rintro e w' ⟨rfl, rfl⟩
    go_wp2_with fail
    refine HBB.mono ?_
    rintro e w1 ⟨v, rfl, hg⟩
    have HG := Lib.hid hg; clear hg
    go_wp2_with fail
    go_ret2
    exact ⟨v, rfl, GVo.since HC0.out HG.out⟩
end
end Go.Proofs.YtkedpifopclipaaGreat
namespace Go.Proofs.YtkedpifopclipaaGreat
open Go.RowKit Go.Mem Go.Aig
section
variable {w0 w : World} {g : Nat} {G : Gra} {F : List Nat}
theorem New_c (n : Nat) (h1 : 1 ≤ n) (h2 : n ≤ 65536) (hc : Ch [] w0 w) :
    Calls Tryz.prog 14 #[.int .i64 n] w fun e w' => ∃ g F, e = .returned (.tuple #[.pointer (some ⟨g, 0, none⟩), .int .i64 0]) ∧ Own w0 w' g (newG n) F := by
  refine (New_yes n h1 h2).mono ?_
  rintro e w' ⟨g, F, rfl, hg, hF, hch⟩
  exact ⟨g, F, rfl, hg, fun k hk => Nat.le_trans hc.size (hF k hk), hc.trans hch (by simp)⟩
end
end Go.Proofs.YtkedpifopclipaaGreat
namespace Go.Aig
def natInts (l : List Nat) : List Int := l.map fun (r : Nat) => (r : Int)
@[simp] theorem natInts_len (l : List Nat) : (natInts l).length = l.length := by simp [natInts]
end Go.Aig
namespace Go.Proofs.YtkedpifopclipaaGreat
open Go.RowKit Go.Mem Go.Aig
theorem refs_natInts (l : List Nat) : refsCells l = intCells (natInts l) := by simp [refsCells, intCells, natInts]
/-- a word that is held: its own array, apart from the graph's blocks -/
structure Held (w0 w : World) (F : List Nat) (v : Value) (l : List Int) : Prop where
  row : row w 53 1 v l.length (intCells l)
  len : l.length ≤ 1000000
  bd : ∀ r ∈ l, -9223372036854775808 ≤ r ∧ r ≤ 9223372036854775807
  own : ∀ k, v.ownBlock = some k → w0.heap.size ≤ k ∧ k ∉ F
theorem Held.keep {w0 w w' : World} {F F' : List Nat} {v : Value} {l : List Int} (h : Held w0 w F v l) (hc : Ch F w w') (hF : ∀ k ∈ F', k ∈ F ∨ w.heap.size ≤ k) : Held w0 w' F' v l :=
  ⟨h.row.ch hc (fun k hk => (h.own k hk).2), h.len, h.bd, fun k hk => ⟨(h.own k hk).1, fun hk2 => (hF k hk2).elim (h.own k hk).2 (fun e => by have := (h.row.lt k hk).2; omega)⟩⟩
theorem Held.in {w0 w : World} {F : List Nat} {a : Option Addr} {c n : Nat} {l : List Int} (h : Held w0 w F (.slice a n c) l) (hn : l.length = n) : WVin w F ⟨a, l, c⟩ := by
  have hr := h.row
  rw [hn] at hr
  refine ⟨⟨?_, h.bd, h.len⟩, fun k hk => ?_⟩
  · exact Sl.of_ints hr (by have := h.len; omega)
  · cases a with
    | none => simp [ablk] at hk
    | some p =>
      simp only [ablk, List.mem_singleton] at hk
      subst hk
      exact ⟨(h.own p.block rfl).2, (h.row.lt p.block rfl).2⟩
theorem Held.cap {w0 w : World} {F : List Nat} {a : Option Addr} {c n : Nat} {l : List Int} (h : Held w0 w F (.slice a n c) l) : n ≤ c := by
  rcases h.row.2 with ⟨e, _⟩ | ⟨g, cap, cur, e, _, _, hle, _⟩
  · cases e; omega
  · cases e; exact hle
/-- where a walk began, and blocks that are kept as they are -/
structure Base where
  w : World
  K : List (Nat × List Value) := []
instance : Coe World Base := ⟨fun w => ⟨w, []⟩⟩
/-- what is known along a walk: the graph, the words that are held, the blocks that are kept -/
structure Hold (w0 : Base) (w : World) (g : Nat) (G : Gra) (F : List Nat) (L : List (Value × List Int)) : Prop where
  own : Own w0.w w g G F
  held : ∀ p ∈ L, Held w0.w w F p.1 p.2
  kept : ∀ p ∈ w0.K, blk w p.1 p.2 ∧ w0.w.heap.size ≤ p.1 ∧ p.1 ∉ F
section
variable {w0 : Base} {w : World} {g : Nat} {G : Gra} {F : List Nat} {L : List (Value × List Int)}
theorem Hold.same {w' : World} (h : Hold w0 w g G F L) (hc : Ch [] w w') : Hold w0 w' g G F L :=
  ⟨h.own.same hc, fun p hp => (h.held p hp).keep (hc.mono (by simp)) (fun _ hk => .inl hk), fun p hp => ⟨(h.kept p hp).1.ch hc (by simp), (h.kept p hp).2⟩⟩
theorem Hold.keptTo {w' : World} {F' : List Nat} (h : Hold w0 w g G F L) (h2 : Ch F w w') (h3 : ∀ k ∈ F', k ∈ F ∨ w.heap.size ≤ k) : ∀ p ∈ w0.K, blk w' p.1 p.2 ∧ w0.w.heap.size ≤ p.1 ∧ p.1 ∉ F' := fun p hp => by
  obtain ⟨k1, k2, k3⟩ := h.kept p hp
  exact ⟨k1.ch h2 k3, k2, fun hin => (h3 _ hin).elim k3 (fun e => by have := k1.lt; omega)⟩
theorem Hold.to {w' : World} {G' : Gra} (h : Hold w0 w g G F L) (ht : GTo w g G' F w') : ∃ F', Hold w0 w' g G' F' L := by
  obtain ⟨F', h1, h2, h3, _⟩ := ht
  exact ⟨F', ⟨h1, fun k hk => (h3 k hk).elim (h.own.own k) (fun e => Nat.le_trans h.own.ch.size e), h.own.ch.trans h2 (fun k hk => .inr (h.own.own k hk))⟩, fun p hp => (h.held p hp).keep h2 h3, h.keptTo h2 h3⟩
theorem Hold.word {w' : World} {G' : Gra} {v : Value} {l : List Nat} (h : Hold w0 w g G F L) (ht : GVo w g G' [] F v l w') (hb : ∀ r ∈ l, r ≤ 1000000) (hl : l.length ≤ 1000000) : ∃ a c F', v = .slice a l.length c ∧ Hold w0 w' g G' F' ((.slice a l.length c, natInts l) :: L) := by
  obtain ⟨F', h1, h2, h3, h4, h5, h6⟩ := ht
  obtain ⟨a, c, rfl⟩ := row.shape h5
  obtain ⟨k1, k2⟩ := (h.to (G' := G') ⟨F', h1, h2, h3, h4⟩ : ∃ F', Hold w0 w' g G' F' L)
  refine ⟨a, c, F', rfl, ⟨⟨h1, fun k hk => (h3 k hk).elim (h.own.own k) (fun e => Nat.le_trans h.own.ch.size e), h.own.ch.trans h2 (fun k hk => .inr (h.own.own k hk))⟩, fun p hp => ?_, h.keptTo h2 h3⟩⟩
  rcases List.mem_cons.1 hp with rfl | hp
  · refine ⟨?_, by simpa using hl, fun r hr => ?_, fun k hk => ⟨Nat.le_trans h.own.ch.size (h6 k hk).1, (h6 k hk).2⟩⟩
    · simp only [natInts_len]
      rw [← refs_natInts]
      exact h5
    · obtain ⟨q, hq, rfl⟩ := List.mem_map.1 hr
      have := hb q hq
      omega
  · exact (h.held p hp).keep h2 h3
theorem Hold.new {w' : World} {v : Value} {l : List Int} (h : Hold w0 w g G F L) (ht : WNew w v (intCells l) w') (hb : ∀ r ∈ l, -9223372036854775808 ≤ r ∧ r ≤ 9223372036854775807) (hl : l.length ≤ 1000000) : ∃ a c, v = .slice a l.length c ∧ Hold w0 w' g G F ((.slice a l.length c, l) :: L) := by
  obtain ⟨h5, h6, h2⟩ := ht
  have e : (intCells l).length = l.length := by simp [intCells]
  rw [e] at h5
  obtain ⟨a, c, rfl⟩ := row.shape h5
  refine ⟨a, c, rfl, (h.same h2).own, fun p hp => ?_, (h.same h2).kept⟩
  rcases List.mem_cons.1 hp with rfl | hp
  · exact ⟨h5, hl, hb, fun k hk => ⟨Nat.le_trans h.own.ch.size (h6 k (by simpa using hk)), fun hk2 => by have := h.own.gin.lt k hk2; have := h6 k (by simpa using hk); omega⟩⟩
  · exact (h.same h2).held p hp
theorem Hold.at (h : Hold w0 w g G F L) {a : Option Addr} {n c : Nat} {l : List Int} (hp : (.slice a n c, l) ∈ L) (hn : l.length = n) : WVin w F ⟨a, l, c⟩ := (h.held _ hp).in hn
theorem Hold.sl (h : Hold w0 w g G F L) {a : Option Addr} {n c : Nat} {l : List Int} (hp : (.slice a n c, l) ∈ L) (hn : l.length = n) : Sl w a l := (h.at hp hn).ok.sl
theorem Hold.start {w0 : World} (h : Own w0 w g G F) : Hold w0 w g G F [] := ⟨h, by simp, fun p hp => by cases hp⟩
end
end Go.Proofs.YtkedpifopclipaaGreat
namespace Go.Proofs.YtkedpifopclipaaGreat
open Go.RowKit Go.Mem Go.Aig
section
variable {w0 : Base} {w : World} {g : Nat} {G : Gra} {F : List Nat} {L : List (Value × List Int)}
theorem Calls.word {fid : FuncId} {args : Array Value} (h : Hold w0 w g G F L) {R : Gra × List Nat × Nat} (hC : Calls Tryz.prog fid args w fun e w' => ∃ v, e = .returned (.tuple #[v, .int .i64 R.2.2]) ∧ GVo w g R.1 [] F v R.2.1 w') {G' : Gra} {l : List Nat} {e k : Nat} (hR : R = (G', l, e)) (hk : l.length = k) (hb : ∀ r ∈ l, r ≤ 1000000) (hl : k ≤ 1000000) :
    Calls Tryz.prog fid args w fun en w' => ∃ a c F', en = .returned (.tuple #[.slice a k c, .int .i64 e]) ∧ Hold w0 w' g G' F' ((.slice a k c, natInts l) :: L) := by
  subst hR hk
  refine hC.mono ?_
  rintro en w' ⟨v, rfl, hg⟩
  obtain ⟨a, c, F', rfl, hh⟩ := h.word hg hb hl
  exact ⟨a, c, F', rfl, hh⟩
theorem Calls.ref {fid : FuncId} {args : Array Value} (h : Hold w0 w g G F L) {R : Res} (hC : Calls Tryz.prog fid args w fun e w' => e = .returned (.tuple #[.int .i64 R.2.1, .int .i64 R.2.2]) ∧ GTo w g R.1 F w') {G' : Gra} {r e : Nat} (hR : R = (G', r, e)) :
    Calls Tryz.prog fid args w fun en w' => ∃ F', en = .returned (.tuple #[.int .i64 r, .int .i64 e]) ∧ Hold w0 w' g G' F' L := by
  subst hR
  refine hC.mono ?_
  rintro en w' ⟨rfl, hg⟩
  obtain ⟨F', hh⟩ := h.to hg
  exact ⟨F', rfl, hh⟩
theorem Calls.wnew {fid : FuncId} {args : Array Value} (h : Hold w0 w g G F L) {l : List Int} {e : Nat} (hC : Calls Tryz.prog fid args w fun en w' => ∃ v, en = .returned (.tuple #[v, .int .i64 e]) ∧ WNew w v (intCells l) w') {k : Nat} (hk : l.length = k) (hb : ∀ r ∈ l, -9223372036854775808 ≤ r ∧ r ≤ 9223372036854775807) (hl : k ≤ 1000000) :
    Calls Tryz.prog fid args w fun en w' => ∃ a c, en = .returned (.tuple #[.slice a k c, .int .i64 e]) ∧ Hold w0 w' g G F ((.slice a k c, l) :: L) := by
  subst hk
  refine hC.mono ?_
  rintro en w' ⟨v, rfl, hg⟩
  obtain ⟨a, c, rfl, hh⟩ := h.new hg hb hl
  exact ⟨a, c, rfl, hh⟩
theorem sInput_h (h : Hold w0 w g G F L) (i : Int) {G' : Gra} {l : List Nat} {e k : Nat} (hR : inG G i = (G', l, e)) (hk : l.length = k) (hb : ∀ r ∈ l, r ≤ 1000000) (hl : k ≤ 1000000) :
    Calls Tryz.prog 24 #[.pointer (some ⟨g, 0, none⟩), .int .i64 i] w fun en w' => ∃ a c F', en = .returned (.tuple #[.slice a k c, .int .i64 e]) ∧ Hold w0 w' g G' F' ((.slice a k c, natInts l) :: L) := Calls.word h (sInput_is h.own.gin i) hR hk hb hl
theorem sConst_h (h : Hold w0 w g G F L) (x : Nat) (hx : x < 4294967296) (n : Nat) (hn : rightW n = true) :
    Calls Tryz.prog 15 #[.int .u32 x, .int .i64 n] w fun en w' => ∃ a c, en = .returned (.tuple #[.slice a n c, .int .i64 0]) ∧ Hold w0 w' g G F ((.slice a n c, natInts (constL x n)) :: L) := by
  have hc := sConst_is (w := w) x hx n
  rw [hn] at hc
  simp only [if_true, refs_natInts, Int.toNat_natCast] at hc
  have hb : ∀ r ∈ natInts (constL x n), -9223372036854775808 ≤ r ∧ r ≤ 9223372036854775807 := fun r hr => by
    obtain ⟨q, hq, rfl⟩ := List.mem_map.1 hr
    obtain ⟨i, _, rfl⟩ := List.mem_map.1 hq
    cases x.testBit i <;> decide
  have hn2 : n ≤ 17 := by unfold rightW at hn; simp at hn; omega
  exact Calls.wnew h hc (by simp [constL]) hb (by omega)
theorem Eqref_h (h : Hold w0 w g G F L) {xa ya : Option Addr} {xl yl : List Int} {n m xc yc : Nat} (hx : (.slice xa n xc, xl) ∈ L) (hxn : xl.length = n) (hy : (.slice ya m yc, yl) ∈ L) (hym : yl.length = m) {q : Bool} (hq : decide (xl = yl) = q) : Calls Tryz.prog 19 #[.slice xa n xc, .slice ya m yc] w fun e w' => e = .returned (.bool q) ∧ Hold w0 w' g G F L := by
  subst hq
  have hc := Eqref_is (w := w) xc yc (h.sl hx hxn) (h.sl hy hym)
  simp only [hxn, hym] at hc
  refine hc.mono ?_
  rintro e w' ⟨rfl, hc⟩
  exact ⟨rfl, h.same hc⟩
theorem Eqref_c (h : Hold w0 w g G F L) {xa : Option Addr} {xl : List Int} {n xc : Nat} (hx : (.slice xa n xc, xl) ∈ L) (hxn : xl.length = n) {b m : Nat} {ys : List Int} (hb : blk w b (intCells ys)) (hm : ys.length = m) (hm2 : m ≤ 1000000) {q : Bool} (hq : decide (xl = ys) = q) : Calls Tryz.prog 19 #[.slice xa n xc, .slice (some ⟨b, 0, none⟩) m m] w fun e w' => e = .returned (.bool q) ∧ Hold w0 w' g G F L := by
  subst hq
  have hs : Sl w (some ⟨b, 0, none⟩) ys := ⟨fun i x hx => ⟨b, 0, rfl, by rw [Nat.zero_add]; exact hb.cell (by simp [intCells, hx])⟩, by omega⟩
  have hc := Eqref_is (w := w) xc m (h.sl hx hxn) hs
  simp only [hxn, hm] at hc
  refine hc.mono ?_
  rintro e w' ⟨rfl, hc⟩
  exact ⟨rfl, h.same hc⟩
end
end Go.Proofs.YtkedpifopclipaaGreat
namespace Go.Proofs.YtkedpifopclipaaGreat
open Go.RowKit Go.Mem Go.Aig
section
theorem New_h {w : World} (n : Nat) (h1 : 1 ≤ n) (h2 : n ≤ 65536) :
    Calls Tryz.prog 14 #[.int .i64 n] w fun e w' => ∃ g F, e = .returned (.tuple #[.pointer (some ⟨g, 0, none⟩), .int .i64 0]) ∧ Hold w w' g (newG n) F [] := by
  refine (New_c (w0 := w) n h1 h2 (Ch.refl _ _)).mono ?_
  rintro e w' ⟨g, F, rfl, ho⟩
  exact ⟨g, F, rfl, .start ho⟩
theorem Hold.ch {w0 : Base} {w : World} {g : Nat} {G : Gra} {F : List Nat} {L : List (Value × List Int)} (h : Hold w0 w g G F L) : Ch [] w0.w w := h.own.ch
theorem Len_h {w0 : Base} {w : World} {g : Nat} {G : Gra} {F : List Nat} {L : List (Value × List Int)} (h : Hold w0 w g G F L) {n : Nat} (hn : G.nodes.length = n) : Calls Tryz.prog 20 #[.pointer (some ⟨g, 0, none⟩)] w fun e w' => e = .returned (.int .i64 n) ∧ Hold w0 w' g G F L := by
  subst hn
  exact (Len_g h.own.gin).mono fun e w' ⟨h1, h2⟩ => ⟨h1, h2 ▸ h⟩
theorem And_h {w0 : Base} {w : World} {g : Nat} {G : Gra} {F : List Nat} {L : List (Value × List Int)} (h : Hold w0 w g G F L) (a b : Int) (ba : a ≤ 9223372036854775807) (bb : b ≤ 9223372036854775807) {G' : Gra} {r e : Nat} (hR : doAnd G a b = (G', r, e)) :
    Calls Tryz.prog 23 #[.pointer (some ⟨g, 0, none⟩), .int .i64 a, .int .i64 b] w fun en w' => ∃ F', en = .returned (.tuple #[.int .i64 r, .int .i64 e]) ∧ Hold w0 w' g G' F' L := Calls.ref h (And_g h.own.gin a b ba bb) hR
end
end Go.Proofs.YtkedpifopclipaaGreat
namespace Go.Aig
/-- a graph of inputs alone -/
def gIn (most n : Nat) : Gra := ⟨most, ⟨1, 0, 0, 0⟩ :: List.replicate n ⟨2, 0, 0, 0⟩⟩
/-- the references of n inputs behind s others -/
def rIn (s n : Nat) : List Nat := (List.range n).map fun i => 2 * (s + i + 1)
theorem inF_gIn (most s : Nat) : ∀ n, s + n < most → inF (gIn most s, 0) n = ((gIn most (s + n), 0), rIn s n)
  | 0, _ => rfl
  | n + 1, h => by
    rw [inF_succ, inF_gIn most s n (by omega)]
    unfold inS sPut put
    have hl : (gIn most (s + n)).nodes.length = s + n + 1 := by simp [gIn]
    dsimp only
    rw [if_neg (by rw [hl]; show ¬ most ≤ s + n + 1; omega), rstep_ok rfl rfl, hl]
    have h1 : ({ gIn most (s + n) with nodes := (gIn most (s + n)).nodes ++ [⟨2, 0, 0, 0⟩] } : Gra) = gIn most (s + (n + 1)) := by
      unfold gIn
      show (⟨most, _⟩ : Gra) = ⟨most, _⟩
      rw [List.cons_append, ← List.replicate_succ']
      rfl
    dsimp only
    rw [h1]
    congr 1
    unfold rIn
    rw [List.range_succ, List.map_append]
    rfl
theorem inG_gIn {most s n : Nat} (h1 : 1 ≤ n) (h2 : n ≤ 17) (h : s + n < most) : inG (gIn most s) n = (gIn most (s + n), rIn s n, 0) := by
  unfold inG
  have : rightW n = true := by unfold rightW; simp; omega
  rw [this, if_pos rfl]
  simp only [Int.toNat_natCast]
  rw [inF_gIn most s n h]
  rfl
@[simp] theorem rIn_len (s n : Nat) : (rIn s n).length = n := by simp [rIn]
theorem rIn_le {s n r : Nat} (h : r ∈ rIn s n) : r ≤ 2 * (s + n) ∧ 2 ≤ r ∧ r % 2 = 0 := by
  obtain ⟨i, hi, rfl⟩ := List.mem_map.1 h
  have := List.mem_range.1 hi
  omega
end Go.Aig
namespace Go.Proofs.YtkedpifopclipaaGreat
open Go.RowKit Go.Mem Go.Aig
set_option maxRecDepth 100000 in
set_option maxHeartbeats 4000000 in
theorem Pair_is (w : World) (wd : Nat) (hw : wd ≤ 255) : Calls Tryz.prog 6 #[.int .u8 wd] w fun e w' => ∃ g F xa xc ya yc, e = .returned (.tuple #[.pointer (some ⟨g, 0, none⟩), .slice xa (wd % 5 + 1) xc, .slice ya (wd % 5 + 1) yc]) ∧
    Hold w w' g (gIn 4000 (2 * (wd % 5 + 1))) F [(.slice ya (wd % 5 + 1) yc, natInts (rIn (wd % 5 + 1) (wd % 5 + 1))), (.slice xa (wd % 5 + 1) xc, natInts (rIn 0 (wd % 5 + 1)))] := by
  obtain ⟨n, hn, hn5⟩ : ∃ n, wd % 5 + 1 = n ∧ n ≤ 5 := ⟨_, rfl, by omega⟩
  have hn1 : 1 ≤ n := by omega
  rw [hn]
  have hq : 1 + (wd : Int) % 5 = n := by omega
  have HQ := Lib.hid hq
  have hN := New_h (w := w) 4000 (by decide) (by decide)
  have HN := Lib.hid hN; clear hN
  clear hn
  go_enter Tryz.func6, Tryz.ntmps6
  go_wp2_with fail
  refine HN.out.mono ?_
  rintro e w1 ⟨g, F1, rfl, ho⟩
  have HO := Lib.hid ho; clear ho HN
  go_wp2_with fail
  refine (sInput_h HO.out n (G' := gIn 4000 n) (l := rIn 0 n) (e := 0) (k := n) (by have := inG_gIn (most := 4000) (s := 0) hn1 (by omega) (by omega); rw [Nat.zero_add] at this; exact this) (by simp) (fun r hr => by have := rIn_le hr; omega) (by omega)).mono ?_
  rintro e w2 ⟨xa, xc, F2, rfl, ho⟩
  clear HO; have HO := Lib.hid ho; clear ho
  go_wp2_with fail
  refine (sInput_h HO.out n (G' := gIn 4000 (2 * n)) (l := rIn n n) (e := 0) (k := n) (by have := inG_gIn (most := 4000) (s := n) hn1 (by omega) (by omega); rw [show n + n = 2 * n from by omega] at this; exact this) (by simp) (fun r hr => by have := rIn_le hr; omega) (by omega)).mono ?_
  rintro e w3 ⟨ya, yc, F3, rfl, ho⟩
  clear HO; have HO := Lib.hid ho; clear ho
  go_wp2_with fail
  go_ret3
  exact ⟨g, F3, xa, xc, ya, yc, rfl, HO.out⟩
end Go.Proofs.YtkedpifopclipaaGreat
namespace Go.Aig
end Go.Aig
namespace Go.Proofs.YtkedpifopclipaaGreat
open Go.RowKit Go.Mem Go.Aig
theorem slBools : SliceTy Tryz.prog 36 4 1 1 (.bool false) := ⟨Tryz.underlying36, infoBool, rfl, by decide⟩
theorem eqSliceNilB (w : World) (a : Option Addr) (n c : Nat) : (binOp .eql 36 (.slice a n c) (.slice none 0 0)).run Tryz.prog w = .ok (.bool a.isNone) w := by
  have h : Tryz.prog.underlying 36 = some (.slice 4) := Tryz.underlying36
  simp only [binOp]
  simp [run_equal_slice_nil w _ _ a n c h]
attribute [local go_sem] eqSliceNilB
section
variable {w : World}
end
end Go.Proofs.YtkedpifopclipaaGreat
namespace Go.Proofs.YtkedpifopclipaaGreat
open Go.RowKit Go.Mem Go.Aig
theorem rowBlk {w : World} {e : TypeId} {a : Option Addr} {n c : Nat} {xs : List Value} (h : row w e 1 (.slice a n c) n xs) : ∀ j, j < n → ∃ (b : Nat) (ys : List Value), a = some ⟨b, 0, none⟩ ∧ blk w b ys ∧ n ≤ ys.length := by
  intro j hj
  rcases h.2 with ⟨e1, _⟩ | ⟨b, cap, cur, e1, _, hg, hle, _, hs, _⟩
  · cases e1; omega
  · cases e1
    exact ⟨b, cur.toList, rfl, ⟨e, by simpa using hg⟩, by simp; omega⟩
section
variable {w : World}
end
end Go.Proofs.YtkedpifopclipaaGreat
namespace Go.Proofs.YtkedpifopclipaaGreat
open Go.ChangeShapes Go.WideShapes Go.ChangeAt Go.RowKit Go.Mem Go.Aig Go.Deep
theorem own : ownKnob Tryz.prog.godebug = none := by kernel_rfl
theorem laidOut : laidOutB Tryz.prog = true := by kernel_rfl
theorem list_of {α : Type} (P : Nat → α → Prop) : ∀ (n : Nat), (∀ i, i < n → ∃ x, P i x) → ∃ l : List α, l.length = n ∧ ∀ i x, l[i]? = some x → P i x
  | 0, _ => ⟨[], rfl, by simp⟩
  | n + 1, h => by
    obtain ⟨l, hl, hp⟩ := list_of P n (fun i hi => h i (by omega))
    obtain ⟨x, hx⟩ := h n (by omega)
    refine ⟨l ++ [x], by simp [hl], fun i y hy => ?_⟩
    by_cases hi : i < n
    · rw [List.getElem?_append_left (by omega)] at hy; exact hp i y hy
    · have hlt := (List.getElem?_eq_some_iff.1 hy).1
      simp at hlt
      have : i = n := by omega
      subst this
      rw [List.getElem?_append_right (by omega)] at hy
      simp [hl] at hy
      subst hy; exact hx
section
variable {H : Type} {enc : TypeId × Value → H} {W : World}
theorem wf_u8 {n : Int} (h : (Lit.int .u8 n).wf = true) : ∃ m : Nat, n = m ∧ m ≤ 255 := by
  have : 0 ≤ n ∧ n ≤ 255 := by simpa [Lit.wf, IntKind.min, IntKind.max, IntKind.signed, IntKind.bits] using h
  exact ⟨n.toNat, by omega, by omega⟩
end
end Go.Proofs.YtkedpifopclipaaGreat
namespace Go.Aig
theorem List.snocRec {α : Type} {motive : List α → Prop} (nil : motive []) (snoc : ∀ l x, motive l → motive (l ++ [x])) (l : List α) : motive l := by
  have : ∀ n (l : List α), l.length = n → motive l := by
    intro n
    induction n with
    | zero => intro l hl; rw [List.eq_nil_of_length_eq_zero hl]; exact nil
    | succ n ih =>
      intro l hl
      have hne : l ≠ [] := by intro e; rw [e] at hl; simp at hl
      rw [← List.dropLast_concat_getLast hne]
      exact snoc _ _ (ih _ (by rw [List.length_dropLast]; omega))
  exact this l.length l rfl
/-- the word of a reference, over the words of the nodes; M has all bits -/
def wref (M : Nat) (vs : List Nat) (r : Nat) : Nat := if r % 2 = 1 then M ^^^ vs.getD (r / 2) 0 else vs.getD (r / 2) 0
def wvStep (M : Nat) (s : List Nat × List Nat) (x : Nd) : List Nat × List Nat :=
  if x.k = 3 then (s.1 ++ [wref M s.1 x.l &&& wref M s.1 x.r], s.2) else if x.k = 2 then (s.1 ++ [s.2.headD 0], s.2.tail) else (s.1 ++ [0], s.2)
/-- the words of the nodes, and those of the inputs that are left -/
def wvF (M : Nat) (ins : List Nat) (ns : List Nd) : List Nat × List Nat := ns.foldl (wvStep M) ([], ins)
theorem wvF_snoc (M : Nat) (ins : List Nat) (ns : List Nd) (x : Nd) : wvF M ins (ns ++ [x]) = wvStep M (wvF M ins ns) x := by unfold wvF; rw [List.foldl_append]; rfl
theorem wvF_len (M : Nat) (ins : List Nat) (ns : List Nd) : (wvF M ins ns).1.length = ns.length := by
  induction ns using List.snocRec with
  | nil => rfl
  | snoc ns x ih =>
    rw [wvF_snoc]
    unfold wvStep
    (repeat' split) <;> simp [ih]
theorem wref_ext {M : Nat} {vs more : List Nat} {r : Nat} (h : r < 2 * vs.length) : wref M (vs ++ more) r = wref M vs r := by
  unfold wref
  rw [List.getD_eq_getElem?_getD, List.getD_eq_getElem?_getD, List.getElem?_append_left (by omega)]
theorem wref_bit {N k : Nat} (hk : k < N) (vs : List Nat) (r : Nat) : (wref (2 ^ N - 1) vs r).testBit k = rv (vs.map fun v => v.testBit k) r := by
  have hg : (vs.map fun v => v.testBit k).getD (r / 2) false = (vs.getD (r / 2) 0).testBit k := by
    rw [List.getD_eq_getElem?_getD, List.getD_eq_getElem?_getD, List.getElem?_map]
    cases vs[r / 2]? <;> simp
  unfold wref rv
  rw [hg]
  split
  · rename_i h
    rw [Nat.testBit_xor, Nat.testBit_two_pow_sub_one, decide_eq_true hk, decide_eq_true h, Bool.xor_comm]
  · rename_i h
    rw [decide_eq_false h, Bool.xor_false]
/-- bit by bit, the words are what the nodes are for one assignment -/
theorem wvF_bits {N k : Nat} (hk : k < N) (ins : List Nat) (ns : List Nd) :
    (wvF (2 ^ N - 1) ins ns).1.map (fun v => v.testBit k) = (nv (fun i => (ins.getD i 0).testBit k) ns).1 ∧ (wvF (2 ^ N - 1) ins ns).2 = ins.drop (nv (fun i => (ins.getD i 0).testBit k) ns).2 := by
  induction ns using List.snocRec with
  | nil => exact ⟨rfl, rfl⟩
  | snoc ns x ih =>
    obtain ⟨h1, h2⟩ := ih
    rw [wvF_snoc, nv_snoc]
    unfold wvStep nvStep
    split
    · refine ⟨?_, h2⟩
      simp only [List.map_append, List.map_cons, List.map_nil, h1, Nat.testBit_and, wref_bit hk]
    · split
      · refine ⟨?_, ?_⟩
        · simp only [List.map_append, List.map_cons, List.map_nil, h1, h2]
          congr 2
          rw [List.headD_eq_head?_getD, List.head?_drop, List.getD_eq_getElem?_getD]
        · simp only [h2, List.tail_drop]
      · refine ⟨?_, h2⟩
        simp only [List.map_append, List.map_cons, List.map_nil, h1, Nat.zero_testBit]
theorem wv_bv {N k : Nat} (hk : k < N) (ins : List Nat) (ns : List Nd) (r : Nat) : (wref (2 ^ N - 1) (wvF (2 ^ N - 1) ins ns).1 r).testBit k = bv (fun i => (ins.getD i 0).testBit k) ns r := by
  rw [wref_bit hk, (wvF_bits hk ins ns).1]
  rfl
theorem wref_lt {N : Nat} {vs : List Nat} (h : ∀ v ∈ vs, v < 2 ^ N) (r : Nat) : wref (2 ^ N - 1) vs r < 2 ^ N := by
  have hp : 0 < 2 ^ N := Nat.two_pow_pos N
  have hg : vs.getD (r / 2) 0 < 2 ^ N := by
    rw [List.getD_eq_getElem?_getD]
    cases hq : vs[r / 2]? with
    | none => exact hp
    | some v => exact h v (List.mem_of_getElem? hq)
  unfold wref
  split
  · exact Nat.xor_lt_two_pow (by omega) hg
  · exact hg
theorem wvF_lt {N : Nat} {ins : List Nat} (hi : ∀ v ∈ ins, v < 2 ^ N) (ns : List Nd) : (∀ v ∈ (wvF (2 ^ N - 1) ins ns).1, v < 2 ^ N) ∧ ∀ v ∈ (wvF (2 ^ N - 1) ins ns).2, v < 2 ^ N := by
  have hp : 0 < 2 ^ N := Nat.two_pow_pos N
  induction ns using List.snocRec with
  | nil => exact ⟨by simp [wvF], hi⟩
  | snoc ns x ih =>
    obtain ⟨h1, h2⟩ := ih
    rw [wvF_snoc]
    unfold wvStep
    split
    · refine ⟨fun v hv => ?_, h2⟩
      rcases List.mem_append.1 hv with hv | hv
      · exact h1 v hv
      · rw [List.mem_singleton.1 hv]
        exact Nat.and_lt_two_pow _ (wref_lt h1 _)
    · split
      · refine ⟨fun v hv => ?_, fun v hv => h2 v (List.mem_of_mem_tail hv)⟩
        rcases List.mem_append.1 hv with hv | hv
        · exact h1 v hv
        · rw [List.mem_singleton.1 hv]
          cases hq : (wvF (2 ^ N - 1) ins ns).2 with
          | nil => exact hp
          | cons a l => exact h2 a (by rw [hq]; exact List.mem_cons_self ..)
      · refine ⟨fun v hv => ?_, h2⟩
        rcases List.mem_append.1 hv with hv | hv
        · exact h1 v hv
        · rw [List.mem_singleton.1 hv]; exact hp
/-- how many inputs there are -/
theorem nv_count (env : Nat → Bool) (ns : List Nd) : (nv env ns).2 = (inputs ns).length := by
  have : ∀ (ns : List Nd) (n : Nat), (inputsFrom ns n).length = (ns.filter fun x => x.k == 2).length := by
    intro ns
    induction ns with
    | nil => intro n; rfl
    | cons x ns ih =>
      intro n
      unfold inputsFrom
      split
      · rename_i h; simp [h, ih]
      · rename_i h; simp [h, ih]
  unfold inputs
  rw [this]
  induction ns using List.snocRec with
  | nil => rfl
  | snoc ns x ih =>
    rw [nv_snoc, List.filter_append, List.length_append, ← ih]
    unfold nvStep
    split
    · rename_i h; simp [h]
    · split
      · rename_i h; simp [h]
      · rename_i h; simp [h]
end Go.Aig
namespace Go.Proofs.YtkedpifopclipaaGreat
open Go.RowKit Go.Mem Go.Aig
def u64s (l : List Nat) : List Value := l.map fun (r : Nat) => .int .u64 r
/-- the words of the four inputs -/
def inWords : List Nat := [43690, 52428, 61680, 65280]
/-- the word of a reference, over the words of the nodes -/
def wv (vs : List Nat) (r : Nat) : Nat := if r % 2 = 1 then vs.getD (r / 2) 0 ^^^ 65535 else vs.getD (r / 2) 0
end Go.Proofs.YtkedpifopclipaaGreat
namespace Go.Aig
/-- what the program tells of a node -/
theorem node_tells {G : Gra} (h : Ok G) {n : Nat} {x : Nd} (hx : G.nodes[n]? = some x) : kindOf G.nodes ((2 * n : Nat) : Int) = x.k ∧ lOf G.nodes ((2 * n : Nat) : Int) = x.l ∧ rOf G.nodes ((2 * n : Nat) : Int) = x.r ∧ x.k ≤ 3 := by
  have hn : nodeAt G.nodes ((2 * n : Nat) : Int) = some x := by
    unfold nodeAt
    rw [if_pos (by omega), Int.toNat_natCast, show 2 * n / 2 = n by omega, hx]
  unfold kindOf lOf rOf
  rw [hn]
  refine ⟨rfl, ?_, ?_, ?_⟩
  · show (if x.k = 3 then x.l else 0) = x.l
    by_cases h0 : n = 0
    · subst h0; rw [h.wf.const] at hx; cases hx; rfl
    · rcases h.wf.other n x hx (by omega) with e | e
      · rw [e]; rfl
      · rw [if_pos e.1]
  · show (if x.k = 3 then x.r else 0) = x.r
    by_cases h0 : n = 0
    · subst h0; rw [h.wf.const] at hx; cases hx; rfl
    · rcases h.wf.other n x hx (by omega) with e | e
      · rw [e]; rfl
      · rw [if_pos e.1]
  · by_cases h0 : n = 0
    · subst h0; rw [h.wf.const] at hx; cases hx; decide
    · rcases h.wf.other n x hx (by omega) with e | e
      · rw [e]; decide
      · omega
end Go.Aig
namespace Go.Proofs.YtkedpifopclipaaGreat
open Go.RowKit Go.Mem Go.Aig
section
variable {w : World} {g : Nat} {G : Gra} {F : List Nat}
end
end Go.Proofs.YtkedpifopclipaaGreat
namespace Go.Proofs.YtkedpifopclipaaGreat
open Go.RowKit Go.Mem Go.Aig
/-- all bits -/
abbrev U64 : Nat := 18446744073709551615
theorem u64_pow : (2 ^ 64 - 1 : Nat) = U64 := rfl
theorem infoU64 : (Tryz.prog.info? 110).map (fun i => (i.zero, i.size, i.bytes)) = some (some (.int .u64 0), 1, 8) := by kernel_rfl
theorem slU64s : SliceTy Tryz.prog 109 110 1 8 (.int .u64 0) := ⟨Tryz.underlying109, infoU64, rfl, by decide⟩
theorem run_make_u64s (w : World) (n : Nat) (hn : n ≤ 1000000) : (Instr.makeSlice 109 (.int .i64 n) (.int .i64 n)).run Tryz.prog w = .ok (.slice (some ⟨w.heap.size, 0, none⟩) n n) (w.alloc (.cells (u64s (List.replicate n 0)).toArray 110)) := by
  obtain ⟨i, hi, hz, hs, hb⟩ := info_parts infoU64
  have := run_make (P := Tryz.prog) w 109 110 i (.int .u64 0) Tryz.underlying109 hi hz .i64 .i64 n n (by omega) (by omega) (by rw [hb]; omega) (by omega)
  rw [this, hs]
  have e : madeCells (Value.int .u64 0).cells ((n : Int).toNat * 1) = (u64s (List.replicate n 0)).toArray := by
    apply Array.ext'
    have h := toList_madeCells_one (Value.int .u64 0) ((n : Int).toNat * 1)
    simpa [u64s, Value.cells] using h
  rw [e]; simp
theorem u64s_get {l : List Nat} {i v : Nat} (h : l[i]? = some v) : (u64s l)[i]? = some (.int .u64 v) := by simp [u64s, h]
section
variable {w : World}
set_option maxRecDepth 100000 in
set_option maxHeartbeats 2000000 in
theorem simof1_is {bx nb n c : Nat} {vs : List Nat} (hb : w.cell? ⟨bx, 0, none⟩ = some (.slice (some ⟨nb, 0, none⟩) n c)) (hk : blk w nb (u64s vs)) (hn : vs.length = n) (hlt : ∀ v ∈ vs, v < 2 ^ 64) (r : Nat) (hr : r < 2 * n) (hr2 : r ≤ 1000000) :
    Calls Tryz.prog 107 #[.int .i64 r, .pointer (some ⟨bx, 0, none⟩)] w fun e w' => e = .returned (.int .u64 (wref U64 vs r)) ∧ w = w' := by
  have hg : vs[r / 2]? = some vs[r / 2] := List.getElem?_eq_getElem (by omega)
  have hx := hlt _ (List.getElem_mem (show r / 2 < vs.length by omega))
  have c0 : w.cell? ⟨nb, r / 2, none⟩ = some (.int .u64 vs[r / 2]) := hk.cell (u64s_get hg)
  have hv : wref U64 vs r = if r % 2 = 1 then U64 ^^^ vs[r / 2] else vs[r / 2] := by unfold wref; rw [List.getD_eq_getElem?_getD, hg]; rfl
  rw [hv]
  generalize vs[r / 2] = x at *
  clear hg hk hlt hv
  by_cases h1 : r % 2 = 1
  · rw [if_pos h1]
    have hbb : ((r : Int) % 2 == 1) = true := by simp; omega
    have hnx := bits_xor_u64_nat U64 x (by decide) (by omega)
    have H1 := Lib.hid h1; clear h1
    have HNX := Lib.hid hnx; clear hnx
    have HN := Lib.hid hn; clear hn
    go_enter Tryz.func107, Tryz.ntmps107
    go_wp2_with fail
    go_ret
    exact ⟨ret_int (by first | exact HNX.out | (rw [show IntKind.u64.max = ((U64 : Nat) : Int) from by decide]; exact HNX.out)), rfl⟩
  · rw [if_neg h1]
    have hbb : ((r : Int) % 2 == 1) = false := by simp; omega
    have H1 := Lib.hid h1; clear h1
    have HN := Lib.hid hn; clear hn
    go_enter Tryz.func107, Tryz.ntmps107
    go_wp2_with fail
    go_ret
    exact ⟨rfl, rfl⟩
theorem fnvsimof1 : Fnv 107 := fnv_of Tryz.func107 (by simp [Tryz.f107]) (by simp [Tryz.f107])
set_option maxRecDepth 100000 in
set_option maxHeartbeats 400000 in
theorem simof_is (a : Option Addr) (n c : Nat) : Calls Tryz.prog 95 #[.slice a n c] w fun e w' => e = .returned (.func (.func 107) #[] #[.pointer (some ⟨w.heap.size, 0, none⟩)]) ∧ w' = w.alloc (.cells #[.slice a n c] 109) := by
  go_enter Tryz.func95, Tryz.ntmps95
  go_wp2_with fail
  go_ret
  exact ⟨rfl, rfl⟩
theorem isAnd_at {G : Gra} (hG : Ok G) {n : Nat} {x : Nd} (hx : G.nodes[n]? = some x) : isAndAt G.nodes ((2 * n : Nat) : Int) = (x.k == 3) := by
  have := (node_tells hG hx).1
  unfold isAndAt
  rw [this]
theorem Sv.ch2 {F : List Nat} {w w' : World} {a : Option Addr} {xs : List Value} (h : Sv w a xs) (hc : Ch F w w') (hF : 0 < xs.length → ∀ p, a = some p → p.block ∉ F) : Sv w' a xs :=
  ⟨fun i x hx => by
    obtain ⟨b, o, rfl, hcell⟩ := h.cells i x hx
    have hlt := (List.getElem?_eq_some_iff.1 hx).1
    exact ⟨b, o, rfl, (hc.cell (p := ⟨b, o + i, none⟩) (cell_lt hcell) (hF (by omega) ⟨b, o, none⟩ rfl)).trans hcell⟩, h.bd⟩
theorem u64s_len (l : List Nat) : (u64s l).length = l.length := by simp [u64s]
theorem set_mid (L : List Nat) (m v : Nat) (hm : 0 < m) : (u64s (L ++ List.replicate m 0)).set L.length (.int .u64 v) = u64s ((L ++ [v]) ++ List.replicate (m - 1) 0) := by
  obtain ⟨k, rfl⟩ : ∃ k, m = k + 1 := ⟨m - 1, by omega⟩
  unfold u64s
  rw [List.map_append, List.set_append_right _ _ (by simp)]
  simp [List.replicate_succ]
theorem set_zero (L : List Nat) (m : Nat) (hm : 0 < m) : u64s (L ++ List.replicate m 0) = u64s ((L ++ [0]) ++ List.replicate (m - 1) 0) := by
  obtain ⟨k, rfl⟩ : ∃ k, m = k + 1 := ⟨m - 1, by omega⟩
  simp [u64s, List.replicate_succ]
set_option maxRecDepth 100000 in
set_option maxHeartbeats 8000000 in
theorem simnodes_is {g : Nat} {G : Gra} {F : List Nat} (h : GIn w g G F) {xa : Option Addr} {ins : List Nat} (xc : Nat) (hS : Sv w xa (u64s ins)) (hi : (inputs G.nodes).length = ins.length) (hlt : ∀ v ∈ ins, v < 2 ^ 64) (hcap : ins.length ≤ xc) (hxc : xc ≤ 9223372036854775807) :
    Calls Tryz.prog 96 #[.pointer (some ⟨g, 0, none⟩), .slice xa ins.length xc] w fun e w' => e = .returned (.slice (some ⟨w.heap.size, 0, none⟩) G.nodes.length G.nodes.length) ∧ blk w' w.heap.size (u64s (wvF U64 ins G.nodes).1) ∧ Ch [] w w' := by
  have hok := h.ok
  have hroom := hok.room
  have hmost := hok.most
  obtain ⟨N, hN⟩ : ∃ N, N = G.nodes.length := ⟨_, rfl⟩
  have hN0 : N ≤ 65536 := by omega
  have hLen := Len_g h
  rw [← hN] at hLen ⊢
  have hE0 : wvF U64 ins (G.nodes.take 0) = ([], ins) := rfl
  have hEn : wvF U64 ins (G.nodes.take N) = wvF U64 ins G.nodes := by rw [List.take_of_length_le (by omega)]
  have hEs : ∀ (k : Nat) (x : Nd), G.nodes[k]? = some x → wvF U64 ins (G.nodes.take (k + 1)) = wvStep U64 (wvF U64 ins (G.nodes.take k)) x := fun k x hx => by
    rw [List.take_add_one, hx]; exact wvF_snoc _ _ _ _
  have hEl : ∀ k, k ≤ N → (wvF U64 ins (G.nodes.take k)).1.length = k := fun k hk => by rw [wvF_len, List.length_take]; omega
  have hEb := fun k => wvF_lt (N := 64) hlt (G.nodes.take k)
  rw [u64_pow] at hEb
  have hE2 : ∀ (k : Nat) (x : Nd), G.nodes[k]? = some x → x.k = 2 → 0 < (wvF U64 ins (G.nodes.take k)).2.length := fun k x hx hk2 => by
    have h1 := (wvF_bits (N := 64) (k := 0) (by omega) ins (G.nodes.take k)).2
    rw [u64_pow] at h1
    rw [h1, nv_count, List.length_drop]
    have hsp := split_at hx
    have h2 : (inputs (G.nodes.take (k + 1))).length = (inputs (G.nodes.take k)).length + 1 := by
      rw [List.take_add_one, hx]
      rw [show (some x).toList = [x] from rfl, inputs_input hk2, List.length_append]; rfl
    have h3 : (inputs (G.nodes.take (k + 1))).length ≤ (inputs G.nodes).length := by
      rw [← nv_count (fun _ => false), ← nv_count (fun _ => false)]
      have : ∀ (ms ns : List Nd), (nv (fun _ => false) ns).2 ≤ (nv (fun _ => false) (ns ++ ms)).2 := by
        intro ms
        induction ms with
        | nil => intro ns; simp
        | cons y ms ih =>
          intro ns
          rw [List.append_cons]
          refine Nat.le_trans ?_ (ih (ns ++ [y]))
          rw [nv_snoc]; unfold nvStep
          (repeat' split) <;> simp
      conv => rhs; rw [← List.take_append_drop (k + 1) G.nodes]
      exact this _ _
    omega
  obtain ⟨E, hE⟩ : ∃ E : Nat → List Nat × List Nat, E = fun k => wvF U64 ins (G.nodes.take k) := ⟨_, rfl⟩
  have hEk : ∀ k, wvF U64 ins (G.nodes.take k) = E k := fun k => by rw [hE]
  simp only [hEk] at hE0 hEn hEs hEl hEb hE2
  rw [← hEn]
  clear hE hEk hEn
  have hmk := run_make_u64s w N (by omega)
  have hnt : ∀ (k : Nat) (x : Nd), G.nodes[k]? = some x → kindOf G.nodes (2 * (k : Int)) = x.k ∧ lOf G.nodes (2 * (k : Int)) = x.l ∧ rOf G.nodes (2 * (k : Int)) = x.r ∧ isAndAt G.nodes (2 * (k : Int)) = (x.k == 3) ∧ x.k ≤ 3 := fun k x hx => by
    obtain ⟨a1, a2, a3, a4⟩ := node_tells hok hx
    have a5 := isAnd_at hok hx
    rw [show ((2 * k : Nat) : Int) = 2 * (k : Int) by omega] at a1 a2 a3 a5
    exact ⟨a1, a2, a3, a5, a4⟩
  have hwf := hok.wf
  have HWF := Lib.hid hwf; clear hwf
  have HNT := Lib.hid hnt; clear hnt
  have H := Lib.hid h; clear h
  have HS := Lib.hid hS; clear hS
  have HE0 := Lib.hid hE0; clear hE0
  have HES := Lib.hid hEs; clear hEs
  have HEL := Lib.hid hEl; clear hEl
  have HEB := Lib.hid hEb; clear hEb
  have HE2 := Lib.hid hE2; clear hE2
  have HN := Lib.hid hN; clear hN hi hlt
  have hcf : ∀ args w, (callFunc 107 args).run Tryz.prog w = .ok (.enter 107 args) w := fnvsimof1
  go_enter Tryz.func96, Tryz.ntmps96
  go_wp2_with fail
  refine hLen.mono ?_
  rintro e w' ⟨rfl, rfl⟩
  go_upto_region 2 with fail
  refine wp_alw ?_
  intro W1 hW1
  have hbo : blk W1 w.heap.size (u64s (List.replicate N 0)) := by rw [hW1]; exact blk.new' _ _ rfl
  have hc1 : Ch [] w W1 := by rw [hW1]; exact (Ch.refl _ _).alloc _
  have hz1 : W1.heap.size = w.heap.size + 1 := by rw [hW1]; simp
  clear hW1 hmk hLen
  have hOf := simof_is (w := W1) (some ⟨w.heap.size, 0, none⟩) N N
  have HOF := Lib.hid hOf; clear hOf
  have HBO := Lib.hid hbo; clear hbo
  have HC1 := Lib.hid hc1; clear hc1
  go_wp2_with fail
  refine HOF.out.mono ?_
  rintro e W2 ⟨rfl, hW2⟩
  have hbx := alw_blk (xs := [.slice (some ⟨w.heap.size, 0, none⟩) N N]) hW2
  have hc2 := HC1.out.trans (alw_ch hW2) (by simp)
  have hbo := HBO.out.ch (alw_ch hW2) (by simp)
  clear hW2 HBO HC1 HOF
  rw [hz1] at hbx
  simp only [hz1]
  clear hz1
  have HBX := Lib.hid hbx; clear hbx
  have HBO := Lib.hid hbo; clear hbo
  have HC2 := Lib.hid hc2; clear hc2
  go_wp2_with fail
  go_loopw [1, 19] (fun u i wr => ∃ (k : Nat) (xk : Option Addr) (ck : Nat), k ≤ N ∧ i = .int .i64 k ∧ u = .slice xk (E k).2.length ck ∧ (E k).2.length ≤ ck ∧ ck ≤ 9223372036854775807 ∧ Sv wr xk (u64s (E k).2) ∧ blk wr w.heap.size (u64s ((E k).1 ++ List.replicate (N - k) 0)) ∧ blk wr (w.heap.size + 1) [.slice (some ⟨w.heap.size, 0, none⟩) N N] ∧ Ch [] w wr ∧ (∀ p, xk = some p → 0 < (E k).2.length → p.block < w.heap.size)) (fun _ i _ => N - (intOf i).toNat)
  case atStart =>
    refine ⟨0, xa, xc, by omega, rfl, by rw [HE0.out], by rw [HE0.out]; exact hcap, hxc, by rw [HE0.out]; exact HS.out.ch HC2.out (by simp), by rw [HE0.out]; exact HBO.out, HBX.out, HC2.out, fun p hp h0 => ?_⟩
    rw [HE0.out] at h0
    obtain ⟨b, o, e, hc⟩ := HS.out.cells 0 _ (List.getElem?_eq_getElem (show 0 < (u64s ins).length by simpa [u64s] using h0))
    rw [hp] at e; cases e
    exact cell_lt hc
  case round =>
    clear HBX HBO HC2
    obtain ⟨k, xk, ck, hk, rfl, rfl, hck, hck2, hsv, hbo, hbx, hc, hlo⟩ := hrel
    by_cases hkn : k < N
    · obtain ⟨x, hx⟩ : ∃ x, G.nodes[k]? = some x := ⟨_, List.getElem?_eq_getElem (by rw [← HN.out]; exact hkn)⟩
      obtain ⟨t1, t2, t3, t4, t5⟩ := HNT.out k x hx
      have hes := HES.out k x hx
      have hel := HEL.out k hk
      have heb := HEB.out k
      have he2 := HE2.out k x hx
      have hsides : x.k = 3 → x.l < 2 * k ∧ x.r < 2 * k := fun e => by have := HWF.out.sides hx e; omega
      have hg := H.out.same hc (by simp)
      have hSd := Sides_g hg (2 * (k : Int)) (by omega)
      rw [t2, t3, t4] at hSd
      generalize hEE : E (k + 1) = EN at hes
      generalize E k = ES at hes hel heb he2 hck hsv hbo hlo ⊢
      obtain ⟨L, I⟩ := ES
      simp only at hel heb he2 hck hsv hbo hlo ⊢
      unfold wvStep at hes
      have HSD := Lib.hid hSd; clear hSd
      have HG := Lib.hid hg; clear hg
      have HSV := Lib.hid hsv; clear hsv
      have HLO := Lib.hid hlo; clear hlo
      have HBO := Lib.hid hbo; clear hbo
      have HBX := Lib.hid hbx; clear hbx
      have HEL' := Lib.hid hel; clear hel
      have HEB' := Lib.hid heb; clear heb
      have HC := Lib.hid hc; clear hc
      by_cases h3 : x.k = 3
      · rw [if_pos h3] at hes
        subst hes
        obtain ⟨hl, hr⟩ := hsides h3
        have h33 : (x.k == 3) = true := by rw [h3]; rfl
        rw [h33] at HSD
        have HEE := Lib.hid hEE; clear hEE
        clear t1 t2 t3 t4 t5 h3 h33 he2 hsides hx
        generalize x.l = a at *
        generalize x.r = b at *
        go_wp2_with fail
        refine HSD.out.mono ?_
        rintro e w3 ⟨rfl, hc3⟩
        have hbo := HBO.out.ch hc3 (by simp)
        have hbx := HBX.out.ch hc3 (by simp)
        have hlen : (L ++ List.replicate (N - k) 0).length = N := by rw [List.length_append, List.length_replicate, HEL'.out]; omega
        have hbd : ∀ v ∈ L ++ List.replicate (N - k) 0, v < 2 ^ 64 := fun v hv => by
          rcases List.mem_append.1 hv with hv | hv
          · exact HEB'.out.1 v hv
          · rw [(List.mem_replicate.1 hv).2]; omega
        have hA := simof1_is (hbx.cell (i := 0) rfl) hbo hlen hbd a (by omega) (by omega)
        have hB := simof1_is (hbx.cell (i := 0) rfl) hbo hlen hbd b (by omega) (by omega)
        rw [wref_ext (by rw [HEL'.out]; exact hl)] at hA
        rw [wref_ext (by rw [HEL'.out]; exact hr)] at hB
        have hwa := wref_lt (N := 64) HEB'.out.1 a
        have hwb := wref_lt (N := 64) HEB'.out.1 b
        rw [u64_pow] at hwa hwb
        have hand := bits_and_u64_nat (wref U64 L a) (wref U64 L b) hwa hwb
        generalize hva : wref U64 L a = va at *
        generalize hvb : wref U64 L b = vb at *
        have f0 := hbo.frozen (i := k)
        obtain ⟨old, c0⟩ : ∃ old, w3.cell? ⟨w.heap.size, k, none⟩ = some old := ⟨_, hbo.cell (List.getElem?_eq_getElem (show k < (u64s (L ++ List.replicate (N - k) 0)).length by rw [u64s_len, hlen]; exact hkn))⟩
        have hlt0 := hbo.lt
        have HA := Lib.hid hA; clear hA
        have HB := Lib.hid hB; clear hB
        have HBO3 := Lib.hid hbo; clear hbo HBO
        have HBX3 := Lib.hid hbx; clear hbx HBX
        have HC3 := Lib.hid (HC.out.trans hc3 (by simp)); clear HC HSD
        have HC13 := Lib.hid hc3; clear hc3
        clear hva hvb hwa hwb hlen hbd
        go_wp2_with fail
        refine HA.out.mono ?_
        rintro e w' ⟨rfl, rfl⟩
        go_wp2_with fail
        refine HB.out.mono ?_
        rintro e w' ⟨rfl, rfl⟩
        go_wp2_with fail
        go_roundw
        case rel =>
          have hcs : Ch [w.heap.size] w3 (w3.setCell ⟨w.heap.size, k, none⟩ (.int .u64 (va &&& vb : Nat))) := (Ch.refl _ _).setCell (.inl (by simp)) _
          have hset := HBO3.out.set (i := k) (.int .u64 (va &&& vb : Nat))
          rw [show k = L.length from HEL'.out.symm, set_mid L (N - L.length) _ (by rw [HEL'.out]; omega), HEL'.out] at hset
          exact ⟨k + 1, xk, ck, by omega, by go_num, by rw [HEE.out], by rw [HEE.out]; exact hck, hck2, by rw [HEE.out]; exact (HSV.out.ch HC13.out (by simp)).ch2 hcs (fun h0 p hp hin => by rw [u64s_len] at h0; have := HLO.out p hp h0; have := List.mem_singleton.1 hin; omega), by rw [HEE.out, show N - (k + 1) = N - k - 1 by omega]; exact hset, HBX3.out.ch hcs (by simp), HC3.out.trans hcs (fun q hq => .inr (by have := List.mem_singleton.1 hq; omega)), fun p hp h0 => HLO.out p hp (by rw [HEE.out] at h0; exact h0)⟩
        case measure => simp [intOf]; omega
      · rw [if_neg h3] at hes
        have h33 : (x.k == 3) = false := by rw [beq_eq_false_iff_ne]; exact h3
        rw [h33] at HSD
        have hKd := fun (W : World) (hW : Ch [] wr W) => Kind_g (HG.out.same hW (by simp)) (2 * (k : Int)) (by omega)
        rw [t1] at hKd
        have HKD := Lib.hid hKd; clear hKd
        by_cases h2 : x.k = 2
        · rw [if_pos h2] at hes
          subst hes
          have hI := he2 h2
          rw [h2] at HKD
          have HEE := Lib.hid hEE; clear hEE
          clear t1 t2 t3 t4 t5 h3 h33 he2 hsides hx h2
          obtain ⟨v0, I', rfl⟩ : ∃ v0 I', I = v0 :: I' := by
            cases I with
            | nil => simp at hI
            | cons a l => exact ⟨a, l, rfl⟩
          obtain ⟨xb, xo, rfl, hcx⟩ := HSV.out.cells 0 (.int .u64 v0) rfl
          have hv0 := HEB'.out.2 v0 (List.mem_cons_self ..)
          have hxlo := HLO.out _ rfl hI
          simp only [List.length_cons] at hck hI
          go_wp2_with fail
          refine HSD.out.mono ?_
          rintro e w3 ⟨rfl, hc3⟩
          have hKd := HKD.out w3 hc3
          have HC13 := Lib.hid hc3; clear hc3 HSD
          have HKD3 := Lib.hid hKd; clear hKd HKD
          go_wp2_with fail
          refine HKD3.out.mono ?_
          rintro e w' ⟨rfl, rfl⟩
          have hbo := HBO.out.ch HC13.out (by simp)
          have hbx := HBX.out.ch HC13.out (by simp)
          have hlen : (L ++ List.replicate (N - k) 0).length = N := by rw [List.length_append, List.length_replicate, HEL'.out]; omega
          have c0 := (HC13.out.cell (cell_lt hcx) (by simp)).trans hcx
          rw [Nat.add_zero] at c0
          have f0 := hbo.frozen (i := k)
          obtain ⟨old, d0⟩ : ∃ old, w3.cell? ⟨w.heap.size, k, none⟩ = some old := ⟨_, hbo.cell (List.getElem?_eq_getElem (show k < (u64s (L ++ List.replicate (N - k) 0)).length by rw [u64s_len, hlen]; exact hkn))⟩
          have hlt0 := hbo.lt
          have HBO3 := Lib.hid hbo; clear hbo HBO
          have HBX3 := Lib.hid hbx; clear hbx HBX
          have HC3 := Lib.hid (HC.out.trans HC13.out (by simp)); clear HC
          clear hlen hcx
          by_cases hc1 : ck = 1
          · subst hc1
            have hI0 : I'.length = 0 := by omega
            obtain rfl : I' = [] := List.eq_nil_of_length_eq_zero hI0
            clear hI0
            go_wp2_with fail
            refine Ord.St.door (fun _ => True) [.fl, .fl, .fl, .fl, .rd, .fl, .fl, .fl, .ef, .fl] [0, 0, 0, 4, 12, 0, 32, 31, 159, 511] [0, 1, 2, 3, 4, 5, 6, 7, 8, 9] mixed (by kernel_rfl) rfl ?_
            refine Ord.St.fl2 (T' := ?_) 0 [1, 2, 3, 4, 5, 6, 7, 8, 9] _ _ rfl (by kernel_rfl) rfl rfl rfl rfl (fun K w' hk => ?_) ?_
            rotate_left
            · go_step; exact hk
            refine Ord.St.fl2 (T' := ?_) 1 [2, 3, 4, 5, 6, 7, 8, 9] _ _ rfl (by kernel_rfl) rfl rfl rfl rfl (fun K w' hk => ?_) ?_
            rotate_left
            · go_step; exact hk
            refine Ord.St.fl2 (T' := ?_) 2 [3, 4, 5, 6, 7, 8, 9] _ _ rfl (by kernel_rfl) rfl rfl rfl rfl (fun K w' hk => ?_) ?_
            rotate_left
            · go_step; exact hk
            refine Ord.St.fl2 (T' := ?_) 3 [4, 5, 6, 7, 8, 9] _ _ rfl (by kernel_rfl) rfl rfl rfl rfl (fun K w' hk => ?_) ?_
            rotate_left
            · go_step; exact hk
            refine Ord.St.rd2 (T' := ?_) 4 [5, 6, 7, 8, 9] _ _ rfl (by kernel_rfl) rfl rfl rfl rfl (fun K hk => ?_) ?_
            rotate_left
            · go_step; exact hk
            refine Ord.St.fl2 (T' := ?_) 5 [6, 7, 8, 9] _ _ rfl (by kernel_rfl) rfl rfl rfl rfl (fun K w' hk => ?_) ?_
            rotate_left
            · go_step; exact hk
            refine Ord.St.fl2 (T' := ?_) 6 [7, 8, 9] _ _ rfl (by kernel_rfl) rfl rfl rfl rfl (fun K w' hk => ?_) ?_
            rotate_left
            · go_step; exact hk
            refine Ord.St.fl2 (T' := ?_) 7 [8, 9] _ _ rfl (by kernel_rfl) rfl rfl rfl rfl (fun K w' hk => ?_) ?_
            rotate_left
            · go_step; exact hk
            refine Ord.St.ef 8 [9] _ rfl (by kernel_rfl) (fun K hK => ?_)
            go_wp2_with fail
            refine ⟨rfl, hK _ _ ?_⟩; clear hK K
            refine Ord.St.fl2 (T' := ?_) 9 [] _ _ rfl (by kernel_rfl) rfl rfl rfl rfl (fun K w' hk => ?_) ?_
            rotate_left
            · go_step; exact hk
            refine Ord.St.nil ?_
            go_wp2_with fail
            go_roundw
            case rel =>
              have hcd : Ch [] w3 w3.drew := (Ch.refl [] w3).drew
              have hcs : Ch [w.heap.size] w3.drew (w3.drew.setCell ⟨w.heap.size, k, none⟩ (.int .u64 v0)) := (Ch.refl _ _).setCell (.inl (by simp)) _
              have hset := (HBO3.out.ch hcd (by simp)).set (i := k) (.int .u64 v0)
              rw [show k = L.length from HEL'.out.symm, set_mid L (N - L.length) _ (by rw [HEL'.out]; omega), HEL'.out] at hset
              have hsv := ((HSV.out.ch HC13.out (by simp)).ch hcd (by simp)).ch2 hcs (fun _ p hp hin => by cases hp; have := List.mem_singleton.1 hin; simp only at hxlo this; omega)
              have hsv2 : Sv (w3.drew.setCell ⟨w.heap.size, k, none⟩ (.int .u64 v0)) (some ⟨xb, xo, none⟩) (u64s []) := ⟨by simp [u64s], by simp [u64s]⟩
              exact ⟨k + 1, some ⟨xb, xo, none⟩, 0, by omega, by go_num, by rw [HEE.out]; rfl, by rw [HEE.out]; show ([] : List Nat).length ≤ 0; simp, by omega, by rw [HEE.out]; exact hsv2, by rw [HEE.out, show N - (k + 1) = N - k - 1 by omega]; exact hset, (HBX3.out.ch hcd (by simp)).ch hcs (by simp), (HC3.out.trans hcd (by simp)).trans hcs (fun q hq => .inr (by have := List.mem_singleton.1 hq; omega)), fun p hp h0 => by rw [HEE.out] at h0; simp at h0⟩
            case measure => simp [intOf]; omega
          · have hck1 : 1 < ck := by omega
            have hcki : (ck : Int) - 1 = ((ck - 1 : Nat) : Int) := by omega
            go_wp2_with fail
            refine Ord.St.door (fun _ => True) [.fl, .fl, .fl, .fl, .rd, .fl, .fl, .fl, .ef, .fl] [0, 0, 0, 4, 12, 0, 32, 31, 159, 511] [0, 1, 2, 3, 4, 5, 6, 7, 8, 9] mixed (by kernel_rfl) rfl ?_
            refine Ord.St.fl2 (T' := ?_) 0 [1, 2, 3, 4, 5, 6, 7, 8, 9] _ _ rfl (by kernel_rfl) rfl rfl rfl rfl (fun K w' hk => ?_) ?_
            rotate_left
            · go_step; exact hk
            refine Ord.St.fl2 (T' := ?_) 1 [2, 3, 4, 5, 6, 7, 8, 9] _ _ rfl (by kernel_rfl) rfl rfl rfl rfl (fun K w' hk => ?_) ?_
            rotate_left
            · go_step; exact hk
            refine Ord.St.fl2 (T' := ?_) 2 [3, 4, 5, 6, 7, 8, 9] _ _ rfl (by kernel_rfl) rfl rfl rfl rfl (fun K w' hk => ?_) ?_
            rotate_left
            · go_step; exact hk
            refine Ord.St.fl2 (T' := ?_) 3 [4, 5, 6, 7, 8, 9] _ _ rfl (by kernel_rfl) rfl rfl rfl rfl (fun K w' hk => ?_) ?_
            rotate_left
            · go_step; exact hk
            refine Ord.St.rd2 (T' := ?_) 4 [5, 6, 7, 8, 9] _ _ rfl (by kernel_rfl) rfl rfl rfl rfl (fun K hk => ?_) ?_
            rotate_left
            · go_step; exact hk
            refine Ord.St.fl2 (T' := ?_) 5 [6, 7, 8, 9] _ _ rfl (by kernel_rfl) rfl rfl rfl rfl (fun K w' hk => ?_) ?_
            rotate_left
            · go_step; exact hk
            refine Ord.St.fl2 (T' := ?_) 6 [7, 8, 9] _ _ rfl (by kernel_rfl) rfl rfl rfl rfl (fun K w' hk => ?_) ?_
            rotate_left
            · go_step; exact hk
            refine Ord.St.fl2 (T' := ?_) 7 [8, 9] _ _ rfl (by kernel_rfl) rfl rfl rfl rfl (fun K w' hk => ?_) ?_
            rotate_left
            · go_step; exact hk
            refine Ord.St.ef 8 [9] _ rfl (by kernel_rfl) (fun K hK => ?_)
            go_wp2_with fail
            refine ⟨rfl, hK _ _ ?_⟩; clear hK K
            refine Ord.St.fl2 (T' := ?_) 9 [] _ _ rfl (by kernel_rfl) rfl rfl rfl rfl (fun K w' hk => ?_) ?_
            rotate_left
            · go_step; exact hk
            refine Ord.St.nil ?_
            go_wp2_with fail
            go_roundw
            case rel =>
              have hcd : Ch [] w3 w3.drew := (Ch.refl [] w3).drew
              have hcs : Ch [w.heap.size] w3.drew (w3.drew.setCell ⟨w.heap.size, k, none⟩ (.int .u64 v0)) := (Ch.refl _ _).setCell (.inl (by simp)) _
              have hset := (HBO3.out.ch hcd (by simp)).set (i := k) (.int .u64 v0)
              rw [show k = L.length from HEL'.out.symm, set_mid L (N - L.length) _ (by rw [HEL'.out]; omega), HEL'.out] at hset
              have hsv := ((HSV.out.ch HC13.out (by simp)).ch hcd (by simp)).ch2 hcs (fun _ p hp hin => by cases hp; have := List.mem_singleton.1 hin; simp only at hxlo this; omega)
              have hsv2 : Sv (w3.drew.setCell ⟨w.heap.size, k, none⟩ (.int .u64 v0)) (some ⟨xb, xo + 1, none⟩) (u64s I') := ⟨fun i x hx => by
                obtain ⟨b9, o9, e9, hc9⟩ := hsv.cells (i + 1) x (by simpa [u64s] using hx)
                cases e9
                exact ⟨_, _, rfl, by rw [show xo + 1 + i = xo + (i + 1) by omega]; exact hc9⟩, by have := hsv.bd; simp [u64s] at this ⊢; omega⟩
              exact ⟨k + 1, some ⟨xb, xo + 1, none⟩, ck - 1, by omega, by go_num, by rw [HEE.out]; rfl, by rw [HEE.out]; show I'.length ≤ _; omega, by omega, by rw [HEE.out]; exact hsv2, by rw [HEE.out, show N - (k + 1) = N - k - 1 by omega]; exact hset, (HBX3.out.ch hcd (by simp)).ch hcs (by simp), (HC3.out.trans hcd (by simp)).trans hcs (fun q hq => .inr (by have := List.mem_singleton.1 hq; omega)), fun p hp h0 => by cases hp; exact hxlo⟩
            case measure => simp [intOf]; omega
        · rw [if_neg h2] at hes
          subst hes
          have h22 : ((x.k : Int) == 2) = false := by rw [beq_eq_false_iff_ne]; omega
          have HEE := Lib.hid hEE; clear hEE
          clear t1 t2 t3 t4 h3 h33 he2 hsides hx h2
          generalize x.k = xkk at *
          go_wp2_with fail
          refine HSD.out.mono ?_
          rintro e w3 ⟨rfl, hc3⟩
          have hKd := HKD.out w3 hc3
          have HC13 := Lib.hid hc3; clear hc3 HSD
          have HKD3 := Lib.hid hKd; clear hKd HKD
          go_wp2_with fail
          refine HKD3.out.mono ?_
          rintro e w' ⟨rfl, rfl⟩
          go_wp2_with fail
          go_roundw
          case rel =>
            have hset := HBO.out.ch HC13.out (by simp)
            rw [show N - k = N - L.length by rw [HEL'.out], set_zero L (N - L.length) (by rw [HEL'.out]; omega), HEL'.out] at hset
            exact ⟨k + 1, xk, ck, by omega, by go_num, by rw [HEE.out], by rw [HEE.out]; exact hck, hck2, by rw [HEE.out]; exact HSV.out.ch HC13.out (by simp), by rw [HEE.out, show N - (k + 1) = N - k - 1 by omega]; exact hset, HBX.out.ch HC13.out (by simp), HC.out.trans HC13.out (by simp), fun p hp h0 => HLO.out p hp (by rw [HEE.out] at h0; exact h0)⟩
          case measure => simp [intOf]; omega
    · have hkN : k = N := by omega
      have hbo2 : blk wr w.heap.size (u64s (E N).1) := by
        have := hbo
        rw [hkN, Nat.sub_self, List.replicate_zero, List.append_nil] at this
        exact this
      have HBO2 := Lib.hid hbo2; clear hbo2 hbo hbx hsv hlo
      have HC := Lib.hid hc; clear hc
      go_wp2_with fail
      go_ret
      exact ⟨rfl, HBO2.out, HC.out⟩
end
end Go.Proofs.YtkedpifopclipaaGreat
namespace Go.Aig
/-- what a word of references is, for words of the inputs -/
def wsOf (ins : List Nat) (ns : List Nd) (l : List Nat) : List Nat := l.map (wref 18446744073709551615 (wvF 18446744073709551615 ins ns).1)
/-- what a word of references is, for an assignment -/
def bsOf (ins : List Bool) (ns : List Nd) (l : List Nat) : List Bool := l.map (bv (fun i => ins.getD i false) ns)
def wOf (l : List Bool) : List Nat := l.map fun b => if b then 1 else 0
theorem wOf_bit (l : List Bool) : (fun i => ((wOf l).getD i 0).testBit 0) = fun i => l.getD i false := by
  funext i
  unfold wOf
  rw [List.getD_eq_getElem?_getD, List.getD_eq_getElem?_getD, List.getElem?_map]
  cases l[i]? with
  | none => rfl
  | some b => cases b <;> rfl
theorem wsOf_bits (ins : List Bool) (ns : List Nd) (l : List Nat) : (wsOf (wOf ins) ns l).map (fun v => v.testBit 0) = bsOf ins ns l := by
  unfold wsOf bsOf
  rw [List.map_map]
  apply List.map_congr_left
  intro r _
  have := wv_bv (N := 64) (k := 0) (by omega) (wOf ins) ns r
  rw [wOf_bit] at this
  exact this
theorem wOf_lt (l : List Bool) : ∀ v ∈ wOf l, v < 2 ^ 64 := fun v hv => by
  obtain ⟨b, _, rfl⟩ := List.mem_map.1 hv
  cases b <;> decide
theorem wsOf_lt {ins : List Nat} (h : ∀ v ∈ ins, v < 2 ^ 64) (ns : List Nd) (l : List Nat) : ∀ v ∈ wsOf ins ns l, v < 2 ^ 64 := fun v hv => by
  obtain ⟨r, _, rfl⟩ := List.mem_map.1 hv
  exact wref_lt (N := 64) (wvF_lt (N := 64) h ns).1 r
end Go.Aig
namespace Go.Proofs.YtkedpifopclipaaGreat
open Go.RowKit Go.Mem Go.Aig
section
variable {w : World} {g : Nat} {G : Gra} {F : List Nat}
theorem fnvsimcheck1 : Fnv 106 := fnv_of Tryz.func106 (by simp [Tryz.f106]) (by simp [Tryz.f106])
set_option maxRecDepth 100000 in
set_option maxHeartbeats 1000000 in
theorem simcheck1_is (h : GIn w g G F) {bx : Nat} (hb : w.cell? ⟨bx, 0, none⟩ = some (.pointer (some ⟨g, 0, none⟩))) (r : Int) (hr : r ≤ 9223372036854775807) :
    Calls Tryz.prog 106 (#[.int .i64 r] ++ #[.pointer (some ⟨bx, 0, none⟩)]) w fun e w' => e = .returned (.bool (!right G.nodes r)) ∧ w = w' := by
  show Calls Tryz.prog 106 #[.int .i64 r, .pointer (some ⟨bx, 0, none⟩)] w _
  have HR := Right_g h r hr
  clear h
  generalize right G.nodes r = q at *
  go_enter Tryz.func106, Tryz.ntmps106
  go_wp2_with fail
  refine HR.mono ?_
  rintro e w' ⟨rfl, rfl⟩
  go_wp2_with fail
  go_ret
  exact ⟨ret_bool rfl, rfl⟩
set_option maxRecDepth 100000 in
set_option maxHeartbeats 2000000 in
theorem simcheck_is (h : GIn w g G F) {a : Option Addr} {l : List Int} (n c : Nat) (hn : l.length = n) (hS : Sl w a l) (hbd : ∀ r ∈ l, r ≤ 9223372036854775807) :
    Calls Tryz.prog 93 #[.pointer (some ⟨g, 0, none⟩), .slice a n c] w fun e w' => e = .returned (.int .i64 (if badIn G l then 200 else 0 : Nat)) ∧ Ch [] w w' := by
  subst hn
  have hpos := h.ok.wf.pos
  have hp0 : ((G.nodes.length : Int) == 0) = false := beqN (by omega)
  have hC : ∀ W, W = w.alloc (.cells #[.pointer (some ⟨g, 0, none⟩)] 24) → Calls Tryz.prog 21 #[.slice a l.length c, .func (.func 106) #[] #[.pointer (some ⟨w.heap.size, 0, none⟩)]] W fun e w' => e = .returned (.bool (badIn G l)) ∧ W = w' := fun W hW => by
    have hc := alw_ch hW
    have hb := alw_blk (xs := [.pointer (some ⟨g, 0, none⟩)]) hW
    exact CFref_is c 106 #[.pointer (some ⟨w.heap.size, 0, none⟩)] (fun r => !right G.nodes r) (hS.ch hc (by simp)) (fun r hr => simcheck1_is (h.same hc (by simp)) (hb.cell (i := 0) rfl) r (hbd r hr)) fnvsimcheck1
  have hL : ∀ W, W = w.alloc (.cells #[.pointer (some ⟨g, 0, none⟩)] 24) → Calls Tryz.prog 20 #[.pointer (some ⟨g, 0, none⟩)] W fun e w' => e = .returned (.int .i64 G.nodes.length) ∧ W = w' := fun W hW => Len_g (h.same (alw_ch hW) (by simp))
  have hw : w.cell? ⟨w.heap.size, 0, none⟩ = none := by simp [World.cell?]
  have HC := Lib.hid hC; clear hC
  have HL := Lib.hid hL; clear hL hw
  clear h hS hbd
  cases hq : badIn G l
  · rw [hq] at HC
    have HQ := Lib.hid hq; clear hq
    go_enter Tryz.func93, Tryz.ntmps93
    go_wp2_with fail
    refine (HL.out _ rfl).mono ?_
    rintro e w' ⟨rfl, rfl⟩
    go_wp2_with fail
    refine (HC.out _ rfl).mono ?_
    rintro e w' ⟨rfl, rfl⟩
    go_wp2_with fail
    go_ret
    exact ⟨rfl, (Ch.refl _ _).alloc _⟩
  · rw [hq] at HC
    have HQ := Lib.hid hq; clear hq
    go_enter Tryz.func93, Tryz.ntmps93
    go_wp2_with fail
    refine (HL.out _ rfl).mono ?_
    rintro e w' ⟨rfl, rfl⟩
    go_wp2_with fail
    refine (HC.out _ rfl).mono ?_
    rintro e w' ⟨rfl, rfl⟩
    go_wp2_with fail
    go_ret
    exact ⟨rfl, (Ch.refl _ _).alloc _⟩
/-- what Words returns -/
def wordsR (G : Gra) (ins : List Nat) (l : List Int) : List Nat × Nat := if badIn G l then ([], 200) else if ins.length ≠ (inputs G.nodes).length then ([], 210) else (wsOf ins G.nodes (nats l), 0)
/-- a new slice of words -/
def UNew (w : World) (v : Value) (l : List Nat) (w' : World) : Prop := row w' 110 1 v l.length (u64s l) ∧ (∀ q ∈ v.ownBlock.toList, w.heap.size ≤ q) ∧ Ch [] w w'
set_option maxRecDepth 100000 in
set_option maxHeartbeats 8000000 in
theorem simWords_is (h : GIn w g G F) {xa : Option Addr} {ins : List Nat} (xc : Nat) (hS : Sv w xa (u64s ins)) (hlt : ∀ v ∈ ins, v < 2 ^ 64) (hcap : ins.length ≤ xc) (hxc : xc ≤ 9223372036854775807) {a : Option Addr} {l : List Int} (c : Nat) (hL : Sl w a l) (hbd : ∀ r ∈ l, -9223372036854775808 ≤ r ∧ r ≤ 9223372036854775807) (hll : l.length ≤ 100000) :
    Calls Tryz.prog 61 #[.pointer (some ⟨g, 0, none⟩), .slice xa ins.length xc, .slice a l.length c] w fun e w' => ∃ v, e = .returned (.tuple #[v, .int .i64 (wordsR G ins l).2]) ∧ UNew w v (wordsR G ins l).1 w' := by
  have hpos := h.ok.wf.pos
  have hroom := h.ok.room
  have hmost := h.ok.most
  have hCk := simcheck_is h l.length c rfl hL (fun r hr => (hbd r hr).2)
  have hIn := fun (W : World) (hW : Ch [] w W) => Inputs_g (h.same hW (by simp))
  by_cases hb : badIn G l = true
  · have hR : wordsR G ins l = ([], 200) := by unfold wordsR; rw [if_pos hb]
    rw [hR]
    rw [if_pos hb] at hCk
    have HCK := Lib.hid hCk; clear hCk h hS hlt hL hbd hIn hb hR
    go_enter Tryz.func61, Tryz.ntmps61
    go_wp2_with fail
    refine HCK.out.mono ?_
    rintro e w1 ⟨rfl, hc1⟩
    have HC1 := Lib.hid hc1; clear hc1
    go_wp2_with fail
    go_ret2
    exact ⟨_, rfl, ⟨rfl, .inl ⟨rfl, rfl⟩⟩, by simp, HC1.out⟩
  · have hb2 : badIn G l = false := by simpa using hb
    rw [if_neg hb] at hCk
    obtain ⟨hnat, hnlt⟩ := badIn_no hb2
    by_cases hi : ins.length = (inputs G.nodes).length
    · have hR : wordsR G ins l = (wsOf ins G.nodes (nats l), 0) := by unfold wordsR; rw [if_neg hb, if_neg (by simp [hi])]
      rw [hR]
      have hNd := fun (W : World) (hW : Ch [] w W) => simnodes_is (h.same hW (by simp)) xc (hS.ch hW (by simp)) hi.symm hlt hcap hxc
      have hvl := wvF_len U64 ins G.nodes
      have hvb := (wvF_lt (N := 64) hlt G.nodes).1
      rw [u64_pow] at hvb
      unfold wsOf
      generalize hV : (wvF U64 ins G.nodes).1 = V at *
      clear hV
      have hie : ((ins.length : Int) != (inputs G.nodes).length) = false := by simp [hi]
      have HCK := Lib.hid hCk; clear hCk
      have HIN := Lib.hid hIn; clear hIn
      have HND := Lib.hid hNd; clear hNd
      have HVL := Lib.hid hvl; clear hvl
      have HVB := Lib.hid hvb; clear hvb
      have HL := Lib.hid hL; clear hL
      have HNL := Lib.hid hnlt; clear hnlt
      have HNT := Lib.hid hnat; clear hnat
      clear h hS hlt hbd hb hb2 hR hi
      generalize (inputs G.nodes).length = ni at *
      have hcf : ∀ args w, (callFunc 107 args).run Tryz.prog w = .ok (.enter 107 args) w := fnvsimof1
      go_enter Tryz.func61, Tryz.ntmps61
      go_wp2_with fail
      refine HCK.out.mono ?_
      rintro e w1 ⟨rfl, hc1⟩
      have hI1 := HIN.out w1 hc1
      have HI1 := Lib.hid hI1; clear hI1 HIN
      have HC1 := Lib.hid hc1; clear hc1
      go_wp2_with fail
      refine HI1.out.mono ?_
      rintro e w2 ⟨v, rfl, hro, _, hc2⟩
      obtain ⟨ia, ic, rfl⟩ := row.shape hro
      have hc12 := HC1.out.trans hc2 (by simp)
      have hN2 := HND.out w2 hc12
      have HN2 := Lib.hid hN2; clear hN2 HND hro hc2
      have HC2 := Lib.hid hc12; clear hc12 HI1 HC1
      go_wp2_with fail
      refine HN2.out.mono ?_
      rintro e w3 ⟨rfl, hbo, hc3⟩
      have hc13 := HC2.out.trans hc3 (by simp)
      have hz23 := HC2.out.size
      clear HN2
      generalize w2.heap.size = ob at *
      have hOf := simof_is (w := w3) (some ⟨ob, 0, none⟩) G.nodes.length G.nodes.length
      have HOF := Lib.hid hOf; clear hOf
      have HBO := Lib.hid hbo; clear hbo
      have HC3 := Lib.hid hc13; clear hc13 hc3 HC2
      go_wp2_with fail
      refine HOF.out.mono ?_
      rintro e w4 ⟨rfl, hw4⟩
      have hbx := alw_blk (xs := [.slice (some ⟨ob, 0, none⟩) G.nodes.length G.nodes.length]) hw4
      have hbo := HBO.out.ch (alw_ch hw4) (by simp)
      have hc4 := HC3.out.trans (alw_ch hw4) (by simp)
      have hz34 := HC3.out.size
      clear hw4 HOF HBO HC3
      generalize w3.heap.size = bx at *
      have HBX := Lib.hid hbx; clear hbx
      have HBO := Lib.hid hbo; clear hbo
      have HC4 := Lib.hid hc4; clear hc4
      go_wp2_with fail
      go_loopw [10, 31] (fun o i wr => ∃ k : Nat, k ≤ l.length ∧ i = .int .i64 k ∧ Ch [] w4 wr ∧ row wr 110 1 o k (u64s (((nats l).take k).map (wref U64 V))) ∧ ∀ q ∈ o.ownBlock.toList, w4.heap.size ≤ q) (fun _ i _ => l.length - (intOf i).toNat)
      case atStart => exact ⟨0, by omega, rfl, Ch.refl _ _, ⟨rfl, .inl ⟨rfl, rfl⟩⟩, by simp⟩
      case round =>
        obtain ⟨k, hk, rfl, hc, hrow, hlo⟩ := hrel
        obtain ⟨oa, oc, rfl⟩ := row.shape hrow
        by_cases hlt : k < l.length
        · obtain ⟨x, hx⟩ : ∃ x, (nats l)[k]? = some x := ⟨_, List.getElem?_eq_getElem (by rw [nats_len]; exact hlt)⟩
          have hxl := HNL.out x (List.mem_of_getElem? hx)
          have hlx : l[k]? = some (x : Int) := by rw [← HNT.out, List.getElem?_map, hx]; rfl
          obtain ⟨xb, xo, rfl, hcl⟩ := HL.out.cells k x hlx
          have c0 := ((HC4.out.trans hc (by simp)).cell (cell_lt hcl) (by simp)).trans hcl
          have hW := simof1_is ((HBX.out.ch hc (by simp)).cell (i := 0) rfl) (HBO.out.ch hc (by simp)) HVL.out HVB.out x hxl (by omega)
          have hsu : u64s (((nats l).take (k + 1)).map (wref U64 V)) = u64s (((nats l).take k).map (wref U64 V)) ++ [.int .u64 (wref U64 V x)] := by rw [List.take_add_one, hx]; simp [u64s]
          generalize wref U64 V x = vx at hW hsu
          have hcA : Ch [] wr (wr.alloc (.cells #[.int .u64 vx] 110)) := (Ch.refl _ _).alloc _
          have hrA := hrow.ch hcA (by simp)
          have hbA : blk (wr.alloc (.cells #[.int .u64 vx] 110)) wr.heap.size [.int .u64 vx] := blk.new' _ _ rfl
          have HW := Lib.hid hW; clear hW
          have HSU := Lib.hid hsu; clear hsu
          have HRA := Lib.hid hrA; clear hrA hrow
          have HBA := Lib.hid hbA; clear hbA
          have HCA := Lib.hid hcA; clear hcA
          have HCP := Lib.hid hc; clear hc
          have HLO := Lib.hid hlo; clear hlo hcl hlx hx
          go_wp2_with fail
          refine HW.out.mono ?_
          rintro e w' ⟨rfl, rfl⟩
          go_wp2_with (at_builtin; go_loud (refine wpList_append_row slU64s rfl _ _ rfl (v := .slice oa k oc) (n := k) (xs := u64s (((nats l).take k).map (wref U64 V))) rfl HRA.out (ad := ⟨wr.heap.size, 0, none⟩) (m := 1) (c := 1) (news := [.int .u64 vx]) rfl rfl (news_blk HBA.out) (by simp [Value.oneCell']) (by omega) (by omega) ?_; intro v' w5 hown4 hC4 hf4; have HO4 := Lib.hid hown4; clear hown4; have HCC4 := Lib.hid hC4; clear hC4; have HF4 := Lib.hid hf4; clear hf4))
          go_roundw
          case rel =>
            obtain ⟨q1, q2⟩ := app_step HCP.out HCA.out HLO.out HCC4.out HF4.out
            refine ⟨k + 1, by omega, by go_num, q1, ?_, q2⟩
            rw [HSU.out]; exact HO4.out
          case measure => simp [intOf]; omega
        · have hkn : k = l.length := by omega
          have hall : (nats l).take k = nats l := List.take_of_length_le (by rw [nats_len]; omega)
          rw [hall] at hrow
          rw [hkn] at hrow hlo
          rw [hkn]
          have HROW := Lib.hid hrow; clear hrow
          have HLO := Lib.hid hlo; clear hlo
          have HCP := Lib.hid hc; clear hc hall hkn
          go_wp2_with fail
          go_ret2
          refine ⟨.slice oa l.length oc, rfl, ?_, fun q hq => Nat.le_trans HC4.out.size (HLO.out q hq), HC4.out.trans HCP.out (by simp)⟩
          have := HROW.out
          simpa using this
    · have hR : wordsR G ins l = ([], 210) := by unfold wordsR; rw [if_neg hb, if_pos hi]
      rw [hR]
      have hie : ((ins.length : Int) != (inputs G.nodes).length) = true := by simp; omega
      have HCK := Lib.hid hCk; clear hCk
      have HIN := Lib.hid hIn; clear hIn
      clear h hS hlt hL hbd hb hb2 hR hi hnat hnlt
      generalize (inputs G.nodes).length = ni at *
      go_enter Tryz.func61, Tryz.ntmps61
      go_wp2_with fail
      refine HCK.out.mono ?_
      rintro e w1 ⟨rfl, hc1⟩
      have hI1 := HIN.out w1 hc1
      have HI1 := Lib.hid hI1; clear hI1 HIN
      have HC1 := Lib.hid hc1; clear hc1
      go_wp2_with fail
      refine HI1.out.mono ?_
      rintro e w2 ⟨v, rfl, hro, _, hc2⟩
      obtain ⟨ia, ic, rfl⟩ := row.shape hro
      have HC2 := Lib.hid (HC1.out.trans hc2 (by simp)); clear hc2 HI1 HC1 hro
      go_wp2_with fail
      go_ret2
      exact ⟨_, rfl, ⟨rfl, .inl ⟨rfl, rfl⟩⟩, by simp, HC2.out⟩
end
end Go.Proofs.YtkedpifopclipaaGreat
namespace Go.Aig
/-- the assignment of a number -/
def asg (n a : Nat) : Nat → Bool := fun i => decide (i < n) && a.testBit i
end Go.Aig
namespace Go.Aig
/-- how many bits of a word of 64 are 1 -/
def cnt (w : Nat) : Nat := ((List.range 64).filter fun k => w.testBit k).length
end Go.Aig
namespace Go.Proofs.YtkedpifopclipaaGreat
open Go.RowKit Go.Mem Go.Aig
theorem bits_and_i64_nat (a b : Nat) (ha : a < 9223372036854775808) (hb : b < 9223372036854775808) : bits .and .i64 (a : Int) (b : Int) = ((a &&& b : Nat) : Int) := by
  have hx : a &&& b ≤ a := Nat.and_le_left
  have h1 : (BitVec.ofInt 64 (a : Int)).toNat = a := by
    rw [BitVec.ofInt_natCast, BitVec.toNat_ofNat]; exact Nat.mod_eq_of_lt (by omega)
  have h2 : (BitVec.ofInt 64 (b : Int)).toNat = b := by
    rw [BitVec.ofInt_natCast, BitVec.toNat_ofNat]; exact Nat.mod_eq_of_lt (by omega)
  show IntKind.i64.wrap ((BitVec.ofInt 64 (a : Int) &&& BitVec.ofInt 64 (b : Int)).toNat : Int) = _
  rw [BitVec.toNat_and, h1, h2, IntKind.wrap_i64]
  omega
/-- a bit, as the code asks for it -/
theorem bit_i64 (x d : Nat) (hx : x < 9223372036854775808) : (bits .and .i64 ((x : Int) / 2 ^ d) 1 == 1) = decide (x / 2 ^ d % 2 = 1) := by
  have h1 : x / 2 ^ d < 9223372036854775808 := Nat.lt_of_le_of_lt (Nat.div_le_self _ _) hx
  have h2 := bits_and_i64_nat (x / 2 ^ d) 1 h1 (by omega)
  have h3 : ((x / 2 ^ d : Nat) : Int) = (x : Int) / 2 ^ d := by rw [Int.natCast_ediv]; simp
  rw [Nat.and_one_is_mod, h3] at h2
  rw [show (1 : Int) = ((1 : Nat) : Int) from rfl, h2]
  rcases Nat.mod_two_eq_zero_or_one (x / 2 ^ d) with h | h <;> rw [h] <;> rfl
section
variable {w : World}
end
end Go.Proofs.YtkedpifopclipaaGreat
namespace Go.Proofs.YtkedpifopclipaaGreat
open Go.RowKit Go.Mem Go.Aig
theorem row.capLe' {w : World} {e : TypeId} {size : Nat} {a : Option Addr} {n c m : Nat} {xs : List Value} (h : row w e size (.slice a n c) m xs) : m ≤ c ∧ c ≤ 9223372036854775807 := by
  rcases h.2 with ⟨e1, h0⟩ | ⟨g', cap', cur, e1, _, _, h1, h2, _⟩
  · cases e1; omega
  · cases e1; exact ⟨h1, by unfold maxLen at h2; exact h2⟩
/-- what Bits returns -/
def bitsR (G : Gra) (ins : List Bool) (l : List Int) : List Bool × Nat := if badIn G l then ([], 200) else if ins.length ≠ (inputs G.nodes).length then ([], 210) else (bsOf ins G.nodes (nats l), 0)
theorem wOf_len (l : List Bool) : (wOf l).length = l.length := by simp [wOf]
theorem bitsR_words (G : Gra) (ins : List Bool) (l : List Int) : bitsR G ins l = ((wordsR G (wOf ins) l).1.map (fun v => v.testBit 0), (wordsR G (wOf ins) l).2) := by
  unfold bitsR wordsR
  rw [wOf_len]
  split
  · rfl
  · split
    · rfl
    · rw [wsOf_bits]
/-- a new slice of truths -/
def BNew (w : World) (v : Value) (l : List Bool) (w' : World) : Prop := row w' 4 1 v l.length (bools l) ∧ (∀ q ∈ v.ownBlock.toList, w.heap.size ≤ q) ∧ Ch [] w w'
section
variable {w : World} {g : Nat} {G : Gra} {F : List Nat}
set_option maxRecDepth 100000 in
set_option maxHeartbeats 8000000 in
theorem simBits_is (h : GIn w g G F) {xa : Option Addr} {ins : List Bool} (n xc : Nat) (hn : ins.length = n) (hS : Sb w xa ins) (hnl : n ≤ 100000) {a : Option Addr} {l : List Int} (m c : Nat) (hm : l.length = m) (hL : Sl w a l) (hbd : ∀ r ∈ l, -9223372036854775808 ≤ r ∧ r ≤ 9223372036854775807) (hll : m ≤ 100000) :
    Calls Tryz.prog 33 #[.pointer (some ⟨g, 0, none⟩), .slice xa n xc, .slice a m c] w fun e w' => ∃ v, e = .returned (.tuple #[v, .int .i64 (bitsR G ins l).2]) ∧ BNew w v (bitsR G ins l).1 w' := by
  subst hn hm
  have hW := fun (W : World) (hW : Ch [] w W) (wa : Option Addr) (wc : Nat) (hwa : row W 110 1 (.slice wa ins.length wc) ins.length (u64s (wOf ins))) => simWords_is (h.same hW (by simp)) (ins := wOf ins) (xa := wa) wc (row.sv hwa rfl (by omega)) (wOf_lt ins) (by rw [wOf_len]; exact (row.capLe' hwa).1) (row.capLe' hwa).2 c (hL.ch hW (by simp)) hbd hll
  simp only [wOf_len] at hW
  rw [bitsR_words]
  have hwl : (wordsR G (wOf ins) l).1.length ≤ l.length := by
    unfold wordsR
    split
    · simp
    · split
      · simp
      · simp [wsOf]
  have hwb : ∀ v ∈ (wordsR G (wOf ins) l).1, v < 2 ^ 64 := by
    unfold wordsR
    split
    · simp
    · split
      · simp
      · exact wsOf_lt (wOf_lt ins) _ _
  generalize wordsR G (wOf ins) l = R at *
  obtain ⟨ws, e0⟩ := R
  simp only at hwl hwb hW ⊢
  have HW := Lib.hid hW; clear hW
  have HS := Lib.hid hS; clear hS h hL hbd
  have HWB := Lib.hid hwb; clear hwb
  go_enter Tryz.func33, Tryz.ntmps33
  go_wp2_with fail
  go_loopw [8, 19] (fun o i wr => ∃ k : Nat, k ≤ ins.length ∧ i = .int .i64 k ∧ Ch [] w wr ∧ row wr 110 1 o k (u64s (wOf (ins.take k))) ∧ ∀ q ∈ o.ownBlock.toList, w.heap.size ≤ q) (fun _ i _ => ins.length - (intOf i).toNat)
  case atStart => exact ⟨0, by omega, rfl, Ch.refl _ _, ⟨rfl, .inl ⟨rfl, rfl⟩⟩, by simp⟩
  case round =>
    obtain ⟨k, hk, rfl, hc, hrow, hlo⟩ := hrel
    obtain ⟨oa, oc, rfl⟩ := row.shape hrow
    by_cases hlt : k < ins.length
    · obtain ⟨x, hx⟩ : ∃ x, ins[k]? = some x := ⟨_, List.getElem?_eq_getElem hlt⟩
      obtain ⟨xb, xo, rfl, hcl⟩ := HS.out.cells k (.bool x) (by simp [hx])
      have c0 := (hc.cell (cell_lt hcl) (by simp)).trans hcl
      cases x
      · have hsu : u64s (wOf (ins.take (k + 1))) = u64s (wOf (ins.take k)) ++ [.int .u64 0] := by rw [List.take_add_one, hx]; simp [u64s, wOf]
        have hcA : Ch [] wr (wr.alloc (.cells #[.int .u64 0] 110)) := (Ch.refl _ _).alloc _
        have hrA := hrow.ch hcA (by simp)
        have hbA : blk (wr.alloc (.cells #[.int .u64 0] 110)) wr.heap.size [.int .u64 0] := blk.new' _ _ rfl
        have HSU := Lib.hid hsu; clear hsu
        have HRA := Lib.hid hrA; clear hrA hrow
        have HBA := Lib.hid hbA; clear hbA
        have HCA := Lib.hid hcA; clear hcA
        have HCP := Lib.hid hc; clear hc
        have HLO := Lib.hid hlo; clear hlo hcl hx
        go_wp2_with (at_builtin; go_loud (refine wpList_append_row slU64s rfl _ _ rfl (v := .slice oa k oc) (n := k) (xs := u64s (wOf (ins.take k))) rfl HRA.out (ad := ⟨wr.heap.size, 0, none⟩) (m := 1) (c := 1) (news := [.int .u64 0]) rfl rfl (news_blk HBA.out) (by simp [Value.oneCell']) (by omega) (by omega) ?_; intro v' w5 hown4 hC4 hf4; have HO4 := Lib.hid hown4; clear hown4; have HCC4 := Lib.hid hC4; clear hC4; have HF4 := Lib.hid hf4; clear hf4))
        go_roundw
        case rel =>
          obtain ⟨q1, q2⟩ := app_step HCP.out HCA.out HLO.out HCC4.out HF4.out
          refine ⟨k + 1, by omega, by go_num, q1, ?_, q2⟩
          rw [HSU.out]; exact HO4.out
        case measure => simp [intOf]; omega
      · have hsu : u64s (wOf (ins.take (k + 1))) = u64s (wOf (ins.take k)) ++ [.int .u64 1] := by rw [List.take_add_one, hx]; simp [u64s, wOf]
        have hcA : Ch [] wr (wr.alloc (.cells #[.int .u64 1] 110)) := (Ch.refl _ _).alloc _
        have hrA := hrow.ch hcA (by simp)
        have hbA : blk (wr.alloc (.cells #[.int .u64 1] 110)) wr.heap.size [.int .u64 1] := blk.new' _ _ rfl
        have HSU := Lib.hid hsu; clear hsu
        have HRA := Lib.hid hrA; clear hrA hrow
        have HBA := Lib.hid hbA; clear hbA
        have HCA := Lib.hid hcA; clear hcA
        have HCP := Lib.hid hc; clear hc
        have HLO := Lib.hid hlo; clear hlo hcl hx
        go_wp2_with (at_builtin; go_loud (refine wpList_append_row slU64s rfl _ _ rfl (v := .slice oa k oc) (n := k) (xs := u64s (wOf (ins.take k))) rfl HRA.out (ad := ⟨wr.heap.size, 0, none⟩) (m := 1) (c := 1) (news := [.int .u64 1]) rfl rfl (news_blk HBA.out) (by simp [Value.oneCell']) (by omega) (by omega) ?_; intro v' w5 hown4 hC4 hf4; have HO4 := Lib.hid hown4; clear hown4; have HCC4 := Lib.hid hC4; clear hC4; have HF4 := Lib.hid hf4; clear hf4))
        go_roundw
        case rel =>
          obtain ⟨q1, q2⟩ := app_step HCP.out HCA.out HLO.out HCC4.out HF4.out
          refine ⟨k + 1, by omega, by go_num, q1, ?_, q2⟩
          rw [HSU.out]; exact HO4.out
        case measure => simp [intOf]; omega
    · have hkn : k = ins.length := by omega
      rw [hkn, List.take_of_length_le (Nat.le_refl _)] at hrow
      rw [hkn] at hlo
      rw [hkn]
      have hW1 := HW.out wr hc oa oc hrow
      have HW1 := Lib.hid hW1; clear hW1 HW hrow hlo hkn
      have HC := Lib.hid hc; clear hc
      go_wp2_with fail
      refine HW1.out.mono ?_
      rintro e w3 ⟨v, rfl, hrv, _, hc3⟩
      obtain ⟨va, vc, rfl⟩ := row.shape hrv
      have hsv := row.sv hrv rfl (by omega)
      have HSV := Lib.hid hsv; clear hsv hrv
      have HC3 := Lib.hid (HC.out.trans hc3 (by simp)); clear hc3 HC HW1
      go_wp2_with fail
      go_loopw [14, 38] (fun o i wq => ∃ j : Nat, j ≤ ws.length ∧ i = .int .i64 j ∧ Ch [] w3 wq ∧ row wq 4 1 o j (bools ((ws.take j).map (fun v => v.testBit 0))) ∧ ∀ q ∈ o.ownBlock.toList, w3.heap.size ≤ q) (fun _ i _ => ws.length - (intOf i).toNat)
      case atStart => exact ⟨0, by omega, rfl, Ch.refl _ _, ⟨rfl, .inl ⟨rfl, rfl⟩⟩, by simp⟩
      case round =>
        obtain ⟨j, hj, rfl, hc, hrow, hlo⟩ := hrel
        obtain ⟨oa, oc, rfl⟩ := row.shape hrow
        by_cases hlt : j < ws.length
        · obtain ⟨x, hx⟩ : ∃ x, ws[j]? = some x := ⟨_, List.getElem?_eq_getElem hlt⟩
          have hxb := HWB.out x (List.mem_of_getElem? hx)
          obtain ⟨xb, xo, rfl, hcl⟩ := HSV.out.cells j (.int .u64 x) (u64s_get hx)
          have c0 := (hc.cell (cell_lt hcl) (by simp)).trans hcl
          have hand : bits .and .u64 (x : Int) 1 = ((x &&& 1 : Nat) : Int) := bits_and_u64_nat x 1 (by omega) (by omega)
          have hbe : (((x &&& 1 : Nat) : Int) == 1) = x.testBit 0 := by
            rw [Nat.testBit_zero, show x &&& 1 = x % 2 from Nat.and_one_is_mod x]
            rcases Nat.mod_two_eq_zero_or_one x with h | h <;> simp [h]
          have hsu : bools ((ws.take (j + 1)).map (fun v => v.testBit 0)) = bools ((ws.take j).map (fun v => v.testBit 0)) ++ [.bool (x.testBit 0)] := by rw [List.take_add_one, hx]; simp [bools]
          generalize x.testBit 0 = tb at hbe hsu
          generalize x &&& 1 = x1 at hand hbe
          have hcA : Ch [] wr (wr.alloc (.cells #[.bool tb] 4)) := (Ch.refl _ _).alloc _
          have hrA := hrow.ch hcA (by simp)
          have hbA : blk (wr.alloc (.cells #[.bool tb] 4)) wr.heap.size [.bool tb] := blk.new' _ _ rfl
          have HSU := Lib.hid hsu; clear hsu
          have HRA := Lib.hid hrA; clear hrA hrow
          have HBA := Lib.hid hbA; clear hbA
          have HCA := Lib.hid hcA; clear hcA
          have HCP := Lib.hid hc; clear hc
          have HLO := Lib.hid hlo; clear hlo hcl hx hxb
          go_wp2_with (at_builtin; go_loud (refine wpList_append_row slBools rfl _ _ rfl (v := .slice oa j oc) (n := j) (xs := bools ((ws.take j).map (fun v => v.testBit 0))) rfl HRA.out (ad := ⟨wr.heap.size, 0, none⟩) (m := 1) (c := 1) (news := [.bool tb]) rfl rfl (news_blk HBA.out) (by simp [Value.oneCell']) (by omega) (by omega) ?_; intro v' w5 hown4 hC4 hf4; have HO4 := Lib.hid hown4; clear hown4; have HCC4 := Lib.hid hC4; clear hC4; have HF4 := Lib.hid hf4; clear hf4))
          go_roundw
          case rel =>
            obtain ⟨q1, q2⟩ := app_step HCP.out HCA.out HLO.out HCC4.out HF4.out
            refine ⟨j + 1, by omega, by go_num, q1, ?_, q2⟩
            rw [HSU.out]; exact HO4.out
          case measure => simp [intOf]; omega
        · have hkn : j = ws.length := by omega
          rw [hkn, List.take_of_length_le (Nat.le_refl _)] at hrow
          rw [hkn] at hlo
          rw [hkn]
          have HROW := Lib.hid hrow; clear hrow
          have HLO := Lib.hid hlo; clear hlo
          have HCP := Lib.hid hc; clear hc hkn
          go_wp2_with fail
          go_ret2
          refine ⟨.slice oa ws.length oc, rfl, ?_, fun q hq => Nat.le_trans HC3.out.size (HLO.out q hq), HC3.out.trans HCP.out (by simp)⟩
          have := HROW.out
          simpa using this
end
end Go.Proofs.YtkedpifopclipaaGreat
namespace Go.Aig
end Go.Aig
namespace Go.Proofs.YtkedpifopclipaaGreat
open Go.RowKit Go.Mem Go.Aig
theorem run_storeFunc {P : Program} {w : World} {a : Addr} {m : Mode} (f : Fn) (b c : Array Value) : (store a (.func f b c) m).run P w = stored P w a (.func f b c) m := run_store P w a _ m rfl
attribute [local go_sem] run_storeFunc
section
variable {w0 w1 w : World} {F0 : List Nat} {g : Nat} {G : Gra} {F : List Nat} {L : List (Value × List Int)} {bok bout bfn : Nat} {ok : Bool} {oa : Option Addr} {m oc : Nat} {vs : List Value}
end
end Go.Proofs.YtkedpifopclipaaGreat
namespace Go.Ord
open Go
theorem list_wide {lp n : Nat} {P : Program} {ops : Array Oper} {Q : Exit → Act → World → Prop} (hnl : ¬ LetsOut Q) : ∀ (l : List Oper) (a : Act) (w : World), l.all noDefer = true → wpList P ops Q l a w → wpListIn (Fence.wide.inRound lp) n P ops Q l a w
  | [], _, _, _, h => h
  | o :: rest, a, w, hq, h => by
    rw [List.all_cons, Bool.and_eq_true] at hq
    unfold wpList at h
    unfold wpListIn
    split
    · rename_i hw
      rw [if_pos hw] at h
      exact wide_in hq.1 (Oper.wp_mono (fun a w hh => list_wide hnl rest a w hq.2 hh) (h.resolve_right fun hh => hnl hh.2))
    · rename_i hw
      rw [if_neg hw] at h
      exact ⟨fun _ _ => trivial, list_wide hnl rest _ w hq.2 h⟩
theorem plainR {lp n id : Nat} {P : Program} {l : List Oper} {Q' : Exit → Act → World → Prop} {a : Act} {w : World} (hqq : l.all noDefer = true) (h : wpList P l.toArray (only (Q' .normal)) l a w) :
    (Code.region id l.toArray false).wpIn (Fence.wide.inRound lp) n P Q' a w := by
  refine Go.wpIn_mono (Q := only (Q' .normal)) ?_ (fun e a w ⟨he, hq⟩ => he ▸ hq)
  exact wpIn_region_lit (list_wide (only_lets _) l a w hqq h)
end Go.Ord
namespace Go.Proofs.YtkedpifopclipaaGreat
open Go.RowKit Go.Mem Go.Aig
attribute [local go_sem] Oper.semAt_some
section
variable {w : World} {g : Nat} {G : Gra} {F : List Nat}
end
end Go.Proofs.YtkedpifopclipaaGreat
namespace Go.Aig
end Go.Aig
namespace Go.Proofs.YtkedpifopclipaaGreat
open Go.RowKit Go.Mem Go.Aig
attribute [local go_sem] Oper.semAt_some
section
variable {w : World} {g : Nat} {G : Gra} {F : List Nat}
end
end Go.Proofs.YtkedpifopclipaaGreat
namespace Go.Aig
end Go.Aig
namespace Go.Proofs.YtkedpifopclipaaGreat
open Go.RowKit Go.Mem Go.Aig
attribute [local go_sem] Oper.semAt_some
section
variable {w : World} {g : Nat} {G : Gra} {F : List Nat}
end
end Go.Proofs.YtkedpifopclipaaGreat
namespace Go.Aig
theorem xor_lt {a : Nat} (h : a < 65536) : a ^^^ 65535 < 65536 := Nat.xor_lt_two_pow (n := 16) h (by decide)
end Go.Aig
namespace Go.Proofs.YtkedpifopclipaaGreat
open Go.Aig
/-- the bits of the inputs, for the assignment j -/
def envOf (j k : Nat) : Bool := (inWords.getD k 0).testBit j
theorem nv_count (env : Nat → Bool) : ∀ (ms ns : List Nd), (nv env (ns ++ ms)).2 = (nv env ns).2 + (ms.filter fun x => x.k == 2).length
  | [], ns => by simp
  | x :: ms, ns => by
    rw [List.append_cons, nv_count env ms (ns ++ [x]), nv_snoc]
    unfold nvStep
    by_cases h3 : x.k = 3
    · simp [h3]
    · by_cases h2 : x.k = 2
      · simp [h2]; omega
      · simp [h3, h2]
end Go.Proofs.YtkedpifopclipaaGreat
namespace Go.Proofs.YtkedpifopclipaaGreat
open Go.Aig
def wvStep (s : List Nat × Nat) (x : Nd) : List Nat × Nat :=
  if x.k = 3 then (s.1 ++ [wv s.1 x.l &&& wv s.1 x.r], s.2) else if x.k = 2 then (s.1 ++ [inWords.getD s.2 0], s.2 + 1) else (s.1 ++ [0], s.2)
def wvs (ns : List Nd) : List Nat × Nat := ns.foldl wvStep ([], 0)
theorem wvs_snoc (ns : List Nd) (x : Nd) : wvs (ns ++ [x]) = wvStep (wvs ns) x := by unfold wvs; rw [List.foldl_append]; rfl
theorem inWords_lt (k : Nat) : inWords.getD k 0 < 65536 := by
  rcases k with _ | _ | _ | _ | k <;> simp [inWords]
theorem wv_lt {vs : List Nat} (h : ∀ x ∈ vs, x < 65536) (r : Nat) : wv vs r < 65536 := by
  have hd : vs.getD (r / 2) 0 < 65536 := by
    rw [List.getD_eq_getElem?_getD]
    cases hi : vs[r / 2]? with
    | none => simp
    | some x => exact h x (List.mem_of_getElem? hi)
  unfold wv; split
  · exact xor_lt hd
  · exact hd
/-- the words go with the bits -/
structure WB (ns : List Nd) : Prop where
  len : (wvs ns).1.length = ns.length
  cnt : ∀ env, (wvs ns).2 = (nv env ns).2
  lt : ∀ x ∈ (wvs ns).1, x < 65536
  bit : ∀ j, j < 16 → ∀ i, ((wvs ns).1.getD i 0).testBit j = (nv (envOf j) ns).1.getD i false
theorem wv_bit {ns : List Nd} (h : WB ns) {j : Nat} (hj : j < 16) (r : Nat) : (wv (wvs ns).1 r).testBit j = bv (envOf j) ns r := by
  unfold wv bv rv
  split
  · rename_i h1
    rw [Nat.testBit_xor, h.bit j hj, show (65535 : Nat) = 2 ^ 16 - 1 from rfl, Nat.testBit_two_pow_sub_one]
    simp [hj, h1]
  · rename_i h1
    rw [h.bit j hj]
    simp [h1]
theorem getD_snoc {α : Type} (l : List α) (x d : α) (i : Nat) : (l ++ [x]).getD i d = if i < l.length then l.getD i d else if i = l.length then x else d := by
  simp only [List.getD_eq_getElem?_getD]
  by_cases h : i < l.length
  · rw [if_pos h, List.getElem?_append_left h]
  · rw [if_neg h]
    by_cases h2 : i = l.length
    · subst h2; rw [if_pos rfl, List.getElem?_append_right (Nat.le_refl _)]; simp
    · rw [if_neg h2, List.getElem?_eq_none (by simp; omega)]; rfl
theorem wb_nil : WB [] := ⟨rfl, fun _ => rfl, by simp [wvs], by intro j _ i; simp [wvs, nv]⟩
theorem wb_snoc {ns : List Nd} (h : WB ns) (x : Nd) : WB (ns ++ [x]) := by
  have hl : ∀ env, (nv env ns).1.length = (wvs ns).1.length := fun env => by rw [nv_len, h.len]
  refine ⟨?_, fun env => ?_, fun y hy => ?_, fun j hj i => ?_⟩
  · rw [wvs_snoc]; unfold wvStep; (repeat' split) <;> simp [h.len]
  · rw [wvs_snoc, nv_snoc]; unfold wvStep nvStep; (repeat' split) <;> simp [h.cnt env]
  · rw [wvs_snoc] at hy
    unfold wvStep at hy
    (repeat' split at hy) <;> simp at hy <;> rcases hy with hy | rfl
    · exact h.lt y hy
    · exact Nat.and_lt_two_pow (n := 16) _ (wv_lt h.lt _)
    · exact h.lt y hy
    · have := inWords_lt (wvs ns).2; simpa using this
    · exact h.lt y hy
    · omega
  · rw [wvs_snoc, nv_snoc]
    have e := h.cnt (envOf j)
    unfold wvStep nvStep
    split
    · rw [getD_snoc, getD_snoc, hl]
      (repeat' split)
      · exact h.bit j hj i
      · rw [Nat.testBit_and, wv_bit h hj, wv_bit h hj]; rfl
      · simp
    · split
      · rw [getD_snoc, getD_snoc, hl]
        (repeat' split)
        · exact h.bit j hj i
        · rw [e]; rfl
        · simp
      · rw [getD_snoc, getD_snoc, hl]
        (repeat' split)
        · exact h.bit j hj i
        · simp
        · simp
theorem wb_all : ∀ (ms ns : List Nd), WB ns → WB (ns ++ ms)
  | [], ns, h => by simpa using h
  | x :: ms, ns, h => by
    rw [List.append_cons]
    exact wb_all ms (ns ++ [x]) (wb_snoc h x)
theorem wb (ns : List Nd) : WB ns := by simpa using wb_all ns [] wb_nil
end Go.Proofs.YtkedpifopclipaaGreat
namespace Go.Proofs.YtkedpifopclipaaGreat
open Go.ChangeShapes Go.WideShapes Go.ChangeAt Go.RowKit Go.Mem Go.Aig Go.Deep
theorem wf_u64 {n : Int} (h : (Lit.int .u64 n).wf = true) : ∃ m : Nat, n = m ∧ m < 2 ^ 64 := by
  have : 0 ≤ n ∧ n ≤ 18446744073709551615 := by simpa [Lit.wf, IntKind.min, IntKind.max, IntKind.signed, IntKind.bits] using h
  exact ⟨n.toNat, by omega, by omega⟩
theorem wf_u16 {n : Int} (h : (Lit.int .u16 n).wf = true) : ∃ m : Nat, n = m ∧ m < 2 ^ 16 := by
  have : 0 ≤ n ∧ n ≤ 65535 := by simpa [Lit.wf, IntKind.min, IntKind.max, IntKind.signed, IntKind.bits] using h
  exact ⟨n.toNat, by omega, by omega⟩
/-- a slice of numbers of one kind that came in -/
structure NumS (k : IntKind) (bits : Nat) (w : World) (a : Option Addr) (n cap : Nat) (l : List Nat) : Prop where
  sv : Sv w a (l.map fun (x : Nat) => .int k x)
  len : l.length = n
  bd : ∀ x ∈ l, x < 2 ^ bits
  le : n ≤ cap
  max : cap ≤ 9223372036854775807
section
variable {H : Type} {enc : TypeId × Value → H} {W : World}
set_option maxRecDepth 100000 in
theorem u64s_open6 {a : Option Addr} {len cap : Nat} {d : DataW H} {p : List MemPlace} (h : DataW.Trod enc Tryz.prog W 0 (fun _ => true) true 109 (.slice a len cap) d p) : ∃ l, NumS .u64 64 W a len cap l := by
  obtain ⟨fuel, hf⟩ := h
  rcases open_slice Tryz.underlying109 hf with ⟨hcs, _⟩ | ⟨y, l, cp, m, n, D, Pl, hcs, _, hl, hm, hmm, _, hi⟩
  · simp [Value.cells] at hcs
    obtain ⟨rfl, rfl, rfl⟩ := hcs
    exact ⟨[], ⟨by simp, by simp⟩, rfl, by simp, by omega, by omega⟩
  · simp [Value.cells] at hcs
    obtain ⟨rfl, rfl, rfl⟩ := hcs
    have hm' : cap ≤ 9223372036854775807 := by unfold maxLen at hm; exact hm
    have hC : Tryz.prog.cellsOf 110 = 1 := by kernel_rfl
    have hspot : 0 < len → y.spot = none := fun h0 => by
      obtain ⟨cs', hc, _⟩ := hi 0 (by rw [hmm]; simp; omega)
      rw [hC] at hc
      obtain ⟨_, hcl, hat⟩ := World.cells?_some hc
      have e0 := hat 0 (by omega)
      rw [List.getElem?_eq_getElem (by omega)] at e0
      simpa [Addr.add] using World.cell?_spot e0
    have key : ∀ i, i < len → ∃ z : Nat, (∃ b o, (some y : Option Addr) = some ⟨b, o, none⟩ ∧ W.cell? ⟨b, o + i, none⟩ = some (.int .u64 z)) ∧ z < 2 ^ 64 := by
      intro i hlt
      obtain ⟨cs', hc, ht⟩ := hi i (by rw [hmm]; simp; omega)
      rw [hC] at hc
      obtain ⟨_, hcl, hat⟩ := World.cells?_some hc
      match cs', hcl with
      | [c0], _ =>
        obtain ⟨z, hz, _, hw⟩ := DataW.trod_int Tryz.underlying110 ht
        obtain ⟨m, rfl, hb⟩ := wf_u64 hw
        simp at hz
        subst hz
        have e0 := hat 0 (by omega)
        simp at e0
        obtain ⟨b, o, spot⟩ := y
        have hsp : spot = none := hspot (by omega)
        subst hsp
        simp only [Addr.add_lit] at e0
        exact ⟨m, ⟨b, o, rfl, by simpa using e0⟩, hb⟩
    obtain ⟨ll, hll, hp⟩ := list_of _ len key
    refine ⟨ll, ⟨fun i s hs => ?_, by rw [List.length_map]; omega⟩, hll, fun s hs => ?_, hl, hm'⟩
    · rw [List.getElem?_map, Option.map_eq_some_iff] at hs
      obtain ⟨q, hq, rfl⟩ := hs
      exact (hp i q hq).1
    · obtain ⟨i, hi2⟩ := List.mem_iff_getElem?.1 hs
      exact (hp i s hi2).2
set_option maxRecDepth 100000 in
theorem u16s_open6 {a : Option Addr} {len cap : Nat} {d : DataW H} {p : List MemPlace} (h : DataW.Trod enc Tryz.prog W 0 (fun _ => true) true 22 (.slice a len cap) d p) : ∃ l, NumS .u16 16 W a len cap l := by
  obtain ⟨fuel, hf⟩ := h
  rcases open_slice Tryz.underlying22 hf with ⟨hcs, _⟩ | ⟨y, l, cp, m, n, D, Pl, hcs, _, hl, hm, hmm, _, hi⟩
  · simp [Value.cells] at hcs
    obtain ⟨rfl, rfl, rfl⟩ := hcs
    exact ⟨[], ⟨by simp, by simp⟩, rfl, by simp, by omega, by omega⟩
  · simp [Value.cells] at hcs
    obtain ⟨rfl, rfl, rfl⟩ := hcs
    have hm' : cap ≤ 9223372036854775807 := by unfold maxLen at hm; exact hm
    have hC : Tryz.prog.cellsOf 35 = 1 := by kernel_rfl
    have hspot : 0 < len → y.spot = none := fun h0 => by
      obtain ⟨cs', hc, _⟩ := hi 0 (by rw [hmm]; simp; omega)
      rw [hC] at hc
      obtain ⟨_, hcl, hat⟩ := World.cells?_some hc
      have e0 := hat 0 (by omega)
      rw [List.getElem?_eq_getElem (by omega)] at e0
      simpa [Addr.add] using World.cell?_spot e0
    have key : ∀ i, i < len → ∃ z : Nat, (∃ b o, (some y : Option Addr) = some ⟨b, o, none⟩ ∧ W.cell? ⟨b, o + i, none⟩ = some (.int .u16 z)) ∧ z < 2 ^ 16 := by
      intro i hlt
      obtain ⟨cs', hc, ht⟩ := hi i (by rw [hmm]; simp; omega)
      rw [hC] at hc
      obtain ⟨_, hcl, hat⟩ := World.cells?_some hc
      match cs', hcl with
      | [c0], _ =>
        obtain ⟨z, hz, _, hw⟩ := DataW.trod_int Tryz.underlying35 ht
        obtain ⟨m, rfl, hb⟩ := wf_u16 hw
        simp at hz
        subst hz
        have e0 := hat 0 (by omega)
        simp at e0
        obtain ⟨b, o, spot⟩ := y
        have hsp : spot = none := hspot (by omega)
        subst hsp
        simp only [Addr.add_lit] at e0
        exact ⟨m, ⟨b, o, rfl, by simpa using e0⟩, hb⟩
    obtain ⟨ll, hll, hp⟩ := list_of _ len key
    refine ⟨ll, ⟨fun i s hs => ?_, by rw [List.length_map]; omega⟩, hll, fun s hs => ?_, hl, hm'⟩
    · rw [List.getElem?_map, Option.map_eq_some_iff] at hs
      obtain ⟨q, hq, rfl⟩ := hs
      exact (hp i q hq).1
    · obtain ⟨i, hi2⟩ := List.mem_iff_getElem?.1 hs
      exact (hp i s hi2).2
end
end Go.Proofs.YtkedpifopclipaaGreat
namespace Go.Aig
def bad24 (n0 : Nat) (x : List Int) : Bool := decide (x.length < 1) || (decide (16 < x.length) || decide (x.length ≠ n0))
/-- what check of muldiv finds wrong -/
def chk24 (G : Gra) (ws : List (List Int)) : Nat :=
  if ws.any (bad24 (ws.headD []).length) then 240 else if ws.any (badIn G) then 200 else 0
end Go.Aig
namespace Go.Proofs.YtkedpifopclipaaGreat
open Go.RowKit Go.Mem Go.Aig
/-- the value with which muldiv stops -/
def stopV (er : Nat) : Value := .iface 100 (.agg #[.int .i64 er])
section
variable {w : World} {g : Nat} {G : Gra} {F : List Nat}
theorem fnvmdcheck1 : Fnv 49 := fnv_of Tryz.func49 (by simp [Tryz.f49]) (by simp [Tryz.f49])
set_option maxRecDepth 100000 in
set_option maxHeartbeats 1000000 in
theorem mdcheck1_is (h : GIn w g G F) {bx : Nat} (hb : w.cell? ⟨bx, 0, none⟩ = some (.pointer (some ⟨g, 0, none⟩))) (r : Int) (hr : r ≤ 9223372036854775807) :
    Calls Tryz.prog 49 (#[.int .i64 r] ++ #[.pointer (some ⟨bx, 0, none⟩)]) w fun e w' => e = .returned (.bool (!right G.nodes r)) ∧ w = w' := by
  show Calls Tryz.prog 49 #[.int .i64 r, .pointer (some ⟨bx, 0, none⟩)] w _
  have HR := Right_g h r hr
  clear h
  generalize right G.nodes r = q at *
  go_enter Tryz.func49, Tryz.ntmps49
  go_wp2_with fail
  refine HR.mono ?_
  rintro e w' ⟨rfl, rfl⟩
  go_wp2_with fail
  go_ret
  exact ⟨ret_bool rfl, rfl⟩
set_option maxRecDepth 100000 in
set_option maxHeartbeats 4000000 in
theorem mdcheck_is (h : GIn w g G F) {b : Nat} {ws : List WV} (n c : Nat) (hn : ws.length = n) (hn0 : n ≤ 2) (hc : ∀ i x, ws[i]? = some x → w.cell? ⟨b, i, none⟩ = some x.val) (hS : ∀ x ∈ ws, WVok w x) :
    Calls Tryz.prog 25 #[.pointer (some ⟨g, 0, none⟩), .slice (some ⟨b, 0, none⟩) n c] w fun e w' => e = .returned (.int .i64 (chk24 G (ws.map WV.l))) ∧ Ch [] w w' := by
  subst hn
  have hW1 : Ch [] w (w.alloc (.cells #[.pointer (some ⟨g, 0, none⟩)] 24)) := (Ch.refl _ _).alloc _
  have H1 := h.same hW1 (by simp)
  have HL := Len_g H1
  have b1 : (w.alloc (.cells #[.pointer (some ⟨g, 0, none⟩)] 24)).cell? ⟨w.heap.size, 0, none⟩ = some (.pointer (some ⟨g, 0, none⟩)) := by go_simp
  have hpos := h.ok.wf.pos
  have HCF : ∀ x ∈ ws, Calls Tryz.prog 21 #[.slice x.a x.l.length x.c, .func (.func 49) #[] #[.pointer (some ⟨w.heap.size, 0, none⟩)]] (w.alloc (.cells #[.pointer (some ⟨g, 0, none⟩)] 24)) fun e w' => e = .returned (.bool (badIn G x.l)) ∧ (w.alloc (.cells #[.pointer (some ⟨g, 0, none⟩)] 24)) = w' := fun x hx =>
    CFref_is x.c 49 #[.pointer (some ⟨w.heap.size, 0, none⟩)] (fun r => !right G.nodes r) ((hS x hx).ch hW1 (by simp)).sl (fun r hr => mdcheck1_is H1 b1 r ((hS x hx).bd r hr).2) fnvmdcheck1
  have hcc : ∀ i x, ws[i]? = some x → (w.alloc (.cells #[.pointer (some ⟨g, 0, none⟩)] 24)).cell? ⟨b, i, none⟩ = some (.slice x.a x.l.length x.c) := fun i x hx => (hW1.cell (p := ⟨b, i, none⟩) (cell_lt (hc i x hx)) (by simp)).trans (hc i x hx)
  have hlen : ∀ x ∈ ws, x.l.length ≤ 1000000 := fun x hx => (hS x hx).len
  have hroom := h.ok.room
  have hmost := h.ok.most
  have hp0 : ((G.nodes.length : Int) == 0) = false := beqN (by omega)
  have HCC := Lib.hid hcc; clear hcc
  have HCF := Lib.hid HCF
  clear hc hS h H1 b1
  generalize hWC : chk24 G (ws.map WV.l) = WC
  have HWC := Lib.hid hWC; clear hWC
  have HW1 := Lib.hid hW1; clear hW1
  have HLEN := Lib.hid hlen; clear hlen
  go_enter Tryz.func25, Tryz.ntmps25
  go_wp2_with fail
  refine HL.mono ?_
  rintro e w' ⟨rfl, rfl⟩
  go_wp2_with fail
  go_loopw [14] (fun i wr => ∃ k : Nat, k ≤ ws.length ∧ i = .int .i64 k ∧ wr = w.alloc (.cells #[.pointer (some ⟨g, 0, none⟩)] 24) ∧ ((ws.map WV.l).take k).any (bad24 ((ws.map WV.l).headD []).length) = false) (fun i _ => ws.length - (intOf i).toNat)
  case atStart => exact ⟨0, by omega, rfl, rfl, rfl⟩
  case round =>
    obtain ⟨k, hk, rfl, rfl, hno⟩ := hrel
    by_cases hlt : k < ws.length
    · obtain ⟨x, hx⟩ : ∃ x, ws[k]? = some x := ⟨_, List.getElem?_eq_getElem hlt⟩
      obtain ⟨x0, hx0⟩ : ∃ x0, ws[0]? = some x0 := ⟨_, List.getElem?_eq_getElem (by omega)⟩
      have c0 := HCC.out 0 x0 hx0
      have c1 := HCC.out k x hx
      have hh0 : ((ws.map WV.l).headD []).length = x0.l.length := by
        cases ws with
        | nil => cases hx0
        | cons y ws => simp at hx0; subst hx0; rfl
      have hxm : (ws.map WV.l)[k]? = some x.l := by simp [hx]
      have hxl := HLEN.out x (List.mem_of_getElem? hx)
      have hx0l := HLEN.out x0 (List.mem_of_getElem? hx0)
      have hyes : (decide (x.l.length < 1) || (decide (16 < x.l.length) || decide (x.l.length ≠ x0.l.length))) = true → WC = 240 := fun hb0 => by
        have hb : bad24 x0.l.length x.l = true := hb0
        rw [← HWC.out]
        unfold chk24
        rw [hh0, if_pos (List.any_eq_true.2 ⟨x.l, List.mem_of_getElem? hxm, hb⟩)]
      have hnx : (decide (x.l.length < 1) || (decide (16 < x.l.length) || decide (x.l.length ≠ x0.l.length))) = false → ((ws.map WV.l).take (k + 1)).any (bad24 ((ws.map WV.l).headD []).length) = false := fun hb0 => by
        have hb : bad24 x0.l.length x.l = false := hb0
        rw [List.take_add_one, hxm, List.any_append, hno, hh0]; simp [hb]
      have HYES := Lib.hid hyes; clear hyes
      have HNX := Lib.hid hnx; clear hnx hno hh0 hxm hx hx0
      generalize x.l.length = n1 at *
      generalize x0.l.length = n0 at *
      by_cases h1 : n1 < 1
      · have hy := HYES.out (by rw [decide_eq_true h1]; rfl)
        have d1 : decide (n1 < 1) = true := decide_eq_true h1
        have d1b : decide ((n1 : Int) < 1) = true := decide_eq_true (by omega)
        subst hy
        go_wp2_with fail
        try simp only [Exit.noGoto]
        go_ret
        exact ⟨rfl, HW1.out⟩
      have d1 : decide (n1 < 1) = false := decide_eq_false h1
      have d1b : decide ((n1 : Int) < 1) = false := decide_eq_false (by omega)
      by_cases h2 : 16 < n1
      · have hy := HYES.out (by rw [decide_eq_true h2]; simp)
        have d2 : decide (16 < n1) = true := decide_eq_true h2
        subst hy
        go_wp2_with fail
        try simp only [Exit.noGoto]
        go_ret
        exact ⟨rfl, HW1.out⟩
      have d2 : decide (16 < n1) = false := decide_eq_false h2
      by_cases h3 : n1 = n0
      · have hy := HNX.out (by rw [d1, d2, decide_eq_false (by simpa using h3)]; rfl)
        have d3 : ((n1 : Int) != (n0 : Int)) = false := by rw [h3]; simp
        have HY := Lib.hid hy; clear hy h3
        go_wp2_with fail
        go_roundw
        case rel => exact ⟨k + 1, by omega, by go_num, by first | trivial | rfl, HY.out⟩
        case measure => simp [intOf]; omega
      · have hy := HYES.out (by rw [decide_eq_true (by simpa using h3 : n1 ≠ n0)]; simp)
        have d3 : ((n1 : Int) != (n0 : Int)) = true := by rw [bne_iff_ne]; omega
        subst hy
        go_wp2_with fail
        try simp only [Exit.noGoto]
        go_ret
        exact ⟨rfl, HW1.out⟩
    · rw [List.take_of_length_le (by simp; omega)] at hno
      have hWC : WC = if (ws.map WV.l).any (badIn G) then 200 else 0 := by
        rw [← HWC.out]; unfold chk24; rw [hno]; rfl
      have HWC2 := Lib.hid hWC; clear hWC hno HWC
      go_wp2_with fail
      go_loopw [38] (fun i wr => ∃ k : Nat, k ≤ ws.length ∧ i = .int .i64 k ∧ wr = w.alloc (.cells #[.pointer (some ⟨g, 0, none⟩)] 24) ∧ ((ws.map WV.l).take k).any (badIn G) = false) (fun i _ => ws.length - (intOf i).toNat)
      case atStart => exact ⟨0, by omega, rfl, rfl, rfl⟩
      case round =>
        obtain ⟨k, hk, rfl, rfl, hno⟩ := hrel
        by_cases hlt : k < ws.length
        · obtain ⟨x, hx⟩ : ∃ x, ws[k]? = some x := ⟨_, List.getElem?_eq_getElem hlt⟩
          have c1 := HCC.out k x hx
          have hxm : (ws.map WV.l)[k]? = some x.l := by simp [hx]
          have hxl := HLEN.out x (List.mem_of_getElem? hx)
          have HC := HCF.out x (List.mem_of_getElem? hx)
          have hnx : badIn G x.l = false → ((ws.map WV.l).take (k + 1)).any (badIn G) = false := fun hb => by
            rw [List.take_add_one, hxm, List.any_append, hno]; simp [hb]
          have hyes : badIn G x.l = true → WC = 200 := fun hb => by
            rw [HWC2.out, if_pos (List.any_eq_true.2 ⟨x.l, List.mem_of_getElem? hxm, hb⟩)]
          have HYES := Lib.hid hyes; clear hyes
          have HNX := Lib.hid hnx; clear hnx hno hxm hx
          generalize badIn G x.l = t at *
          have HX := Lib.hid HC; clear HC
          cases t
          · have hy := HNX.out rfl
            have HY := Lib.hid hy; clear hy
            go_wp2_with fail
            refine HX.out.mono ?_
            rintro e w' ⟨rfl, rfl⟩
            go_wp2_with fail
            go_roundw
            case rel => exact ⟨k + 1, by omega, by go_num, by first | trivial | rfl, HY.out⟩
            case measure => simp [intOf]; omega
          · have hy := HYES.out rfl
            subst hy
            go_wp2_with fail
            refine HX.out.mono ?_
            rintro e w' ⟨rfl, rfl⟩
            go_wp2_with fail
            try simp only [Exit.noGoto]
            go_ret
            exact ⟨rfl, HW1.out⟩
        · rw [List.take_of_length_le (by simp; omega)] at hno
          have hz : WC = 0 := by rw [HWC2.out, hno]; rfl
          subst hz
          go_wp2_with fail
          go_ret
          exact ⟨rfl, HW1.out⟩
end
/-- what must does with an error: it stops -/
def MustTo (v : Value) (er : Nat) (w : World) (e : Ending) (w' : World) : Prop := w = w' ∧ ((er = 0 ∧ e = .returned v) ∨ (er ≠ 0 ∧ e = .panicked [{ v := stopV er, recovered := false }]))
set_option maxRecDepth 100000 in
set_option maxHeartbeats 1000000 in
theorem mdmustR_is (w : World) (r : Int) (er : Nat) : Calls Tryz.prog 53 #[.int .i64 r, .int .i64 er] w (MustTo (.int .i64 r) er w) := by
  unfold MustTo
  by_cases h : er = 0
  · subst h
    go_enter Tryz.func53, Tryz.ntmps53
    go_wp2_with fail
    go_ret
    first | exact ⟨trivial, .inl ⟨rfl, rfl⟩⟩ | exact ⟨rfl, .inl ⟨rfl, rfl⟩⟩ | simp
  · have d : ((er : Int) != 0) = true := by rw [bne_iff_ne]; omega
    go_enter Tryz.func53, Tryz.ntmps53
    go_wp2_with fail
    exact ⟨rfl, rfl, .inr ⟨h, rfl⟩⟩
set_option maxRecDepth 100000 in
set_option maxHeartbeats 1000000 in
theorem mdmustW_is (w : World) (a : Option Addr) (n c : Nat) (er : Nat) : Calls Tryz.prog 54 #[.slice a n c, .int .i64 er] w (MustTo (.slice a n c) er w) := by
  unfold MustTo
  by_cases h : er = 0
  · subst h
    go_enter Tryz.func54, Tryz.ntmps54
    go_wp2_with fail
    go_ret
    first | exact ⟨trivial, .inl ⟨rfl, rfl⟩⟩ | exact ⟨rfl, .inl ⟨rfl, rfl⟩⟩ | simp
  · have d : ((er : Int) != 0) = true := by rw [bne_iff_ne]; omega
    go_enter Tryz.func54, Tryz.ntmps54
    go_wp2_with fail
    exact ⟨rfl, rfl, .inr ⟨h, rfl⟩⟩
end Go.Proofs.YtkedpifopclipaaGreat
namespace Go.Proofs.YtkedpifopclipaaGreat
open Go.RowKit Go.Mem Go.Aig
section
variable {w : World} {g : Nat} {G : Gra} {F : List Nat}
set_option maxRecDepth 100000 in
set_option maxHeartbeats 2000000 in
theorem mdbuild1_stop (h : GIn w g G F) {bg bn be : Nat} (n : Nat) (hn : n ≤ 1000000) (er : Nat) (older : List PanicEntry) (h1 : blk w bg [.pointer (some ⟨g, 0, none⟩)]) (h2 : blk w bn [.int .i64 n]) (h3 : blk w be [.int .i64 0]) (hb : be ∉ F) :
    CallsD Tryz.prog 51 #[.pointer (some ⟨bg, 0, none⟩), .pointer (some ⟨bn, 0, none⟩), .pointer (some ⟨be, 0, none⟩)] (.panicking ({ v := stopV er, recovered := false } :: older)) w fun e u' w' =>
      e = .returned (.tuple #[]) ∧ u' = .panicking ({ v := stopV er, recovered := true } :: older) ∧ ∃ F', GIn w' g (doCut G n).1 F' ∧ Ch (be :: F) w w' ∧ (∀ k ∈ F', k ∈ F ∨ w.heap.size ≤ k) ∧ F'[2]? = F[2]? ∧ blk w' be [.int .i64 er] := by
  have c1 := (h1.alloc (.cells #[.int .i64 er] 100)).cell (i := 0) rfl
  have c2 := (h2.alloc (.cells #[.int .i64 er] 100)).cell (i := 0) rfl
  have hbl := h3.lt
  have hta : ∀ w : World, (Instr.typeAssert (.iface 100 (.agg #[.int .i64 er])) 20 100 true).run Tryz.prog w = .ok (.tuple #[.agg #[.int .i64 er], .bool true]) w := fun _ => by kernel_rfl
  refine callsD_of_wpS Tryz.func51 rfl fun c₀ cs hu => ?_
  apply wpS_seq
  apply wpS_region
  unfold stopV at hu
  simp [wpOpsS, go_sem, recoverD, hu, Tryz.ntmps51, Exit.thenS]
  refine wpS_of_wp ?_
  have hlt := h.lt
  have hcut := Cut_g (h.same (F' := []) ((Ch.refl [] w).alloc (.cells #[.int .i64 er] 100)) (by simp)) n (by omega) (by omega)
  have s0 := blk.new w [.int .i64 er] 100
  have t0 := h3.alloc (.cells #[.int .i64 er] 100)
  clear h h1 h2 h3
  go_wp2_with fail
  refine hcut.mono ?_
  rintro e w1 ⟨rfl, F1, hg1, hc1, hn1, h21⟩
  have s1 := (s0.ch hc1 (fun hm => by have := hlt _ hm; omega)).cell (i := 0) rfl
  have b1 := t0.ch hc1 hb
  have z1 := b1.cell (i := 0) rfl
  have y1 := b1.frozen (i := 0)
  have hbF : be ∉ F1 := fun hm => (hn1 _ hm).elim hb (fun e => by simp at e; omega)
  go_wp2_with fail
  clear hcut s0 t0 c1 c2 hta
  simp [bodyPostS, results, Tryz.results51]
  refine ⟨rfl, F1, hg1.same (F' := [be]) ((Ch.refl _ _).setCell (.inl (by simp)) _) (fun k hk hm => hbF (by simp at hm; exact hm ▸ hk)), ?_, fun k hk => (hn1 k hk).imp id (fun e => by simp at e; omega), h21, b1.set _⟩
  exact ((((Ch.refl (be :: F) w).alloc (.cells #[.int .i64 er] 100))).trans hc1 (fun k hk => .inl (List.mem_cons_of_mem _ hk))).setCell (.inl (by simp)) _
set_option maxRecDepth 100000 in
set_option maxHeartbeats 2000000 in
theorem mdbuild1_idle (w : World) (a b c : Value) : CallsD Tryz.prog 51 #[a, b, c] .returning w fun e u' w' => e = .returned (.tuple #[]) ∧ u' = .returning ∧ w' = w := by
  refine callsD_of_wpS Tryz.func51 rfl fun c₀ cs hu => ?_
  apply wpS_seq
  apply wpS_region
  simp [wpOpsS, go_sem, recoverD, hu, Tryz.ntmps51, Exit.thenS]
  refine wpS_of_wp ?_
  go_wp2_with fail
  cases c₀
  simp_all [bodyPostS, results, Tryz.results51]
/-- what a closure that may stop does: it is done, or it stops and the graph has grown -/
def Stops (w : World) (g : Nat) (G : Gra) (X F : List Nat) (er : Nat) (D : World → World → Prop) (e : Ending) (w' : World) : Prop :=
  (er = 0 ∧ e = .returned (.tuple #[]) ∧ D w w') ∨ (er ≠ 0 ∧ e = .panicked [{ v := stopV er, recovered := false }] ∧ ∃ G' F', Ext G G' ∧ GIn w' g G' F' ∧ Ch (X ++ F) w w' ∧ (∀ k ∈ F', k ∈ F ∨ w.heap.size ≤ k) ∧ F'[2]? = F[2]?)
/-- what build leaves of it -/
def Builds (w : World) (g : Nat) (G : Gra) (X F : List Nat) (er : Nat) (D : World → World → Prop) (w' : World) : Prop :=
  (er = 0 ∧ ∃ be W1 W2, w.heap.size ≤ be ∧ be < W1.heap.size ∧ Ch [] w W1 ∧ D W1 W2 ∧ Ch [be] W2 w') ∨ (er ≠ 0 ∧ ∃ F', GIn w' g G F' ∧ Ch (X ++ F) w w' ∧ (∀ k ∈ F', k ∈ F ∨ w.heap.size ≤ k) ∧ F'[2]? = F[2]?)
set_option maxRecDepth 100000 in
set_option maxHeartbeats 2000000 in
theorem mdbuild_is (h : GIn w g G F) (fid : Nat) (caps : Array Value) (hfn : Fnv fid) (X : List Nat) (hX : ∀ k ∈ X, k < w.heap.size) (er : Nat) (D : World → World → Prop) (hD : ∀ a b, D a b → Ch (X ++ F) a b)
    (hf : ∀ W, Ch [] w W → GIn W g G F → Calls Tryz.prog fid caps W (Stops W g G X F er D)) :
    Calls Tryz.prog 26 #[.pointer (some ⟨g, 0, none⟩), .func (.func fid) #[] caps] w fun e w' => e = .returned (.int .i64 er) ∧ Builds w g G X F er D w' := by
  have hg := h.lt
  have hok := h.ok
  have hroom := h.ok.room
  have hmost := h.ok.most
  have hmf : ∀ (fn : Fn) (first cap : Array Value) (w : World), (Instr.makeFunc fn first cap).run Tryz.prog w = .ok (.func fn first cap) w := fun _ _ _ _ => rfl
  have hcf : ∀ args w, (callFunc fid args).run Tryz.prog w = .ok (.enter fid args) w := hfn
  have ch1 : Ch [] w ((w.alloc (.cells #[.pointer (some ⟨g, 0, none⟩)] 24)).alloc (.cells #[.int .i64 0] 28)) := ((Ch.refl _ _).alloc _).alloc _
  have ch2 : Ch [] w (((w.alloc (.cells #[.pointer (some ⟨g, 0, none⟩)] 24)).alloc (.cells #[.int .i64 0] 28)).alloc (.cells #[.int .i64 G.nodes.length] 3)) := ch1.alloc _
  have HL := Len_g (h.same ch1 (by simp))
  have hb1 : blk (((w.alloc (.cells #[.pointer (some ⟨g, 0, none⟩)] 24)).alloc (.cells #[.int .i64 0] 28)).alloc (.cells #[.int .i64 G.nodes.length] 3)) w.heap.size [.pointer (some ⟨g, 0, none⟩)] := ((blk.new w _ _).alloc _).alloc _
  have hb2 : blk (((w.alloc (.cells #[.pointer (some ⟨g, 0, none⟩)] 24)).alloc (.cells #[.int .i64 0] 28)).alloc (.cells #[.int .i64 G.nodes.length] 3)) (w.heap.size + 1) [.int .i64 0] := (blk.new' _ _ (by simp)).alloc _
  have hb3 : blk (((w.alloc (.cells #[.pointer (some ⟨g, 0, none⟩)] 24)).alloc (.cells #[.int .i64 0] 28)).alloc (.cells #[.int .i64 G.nodes.length] 3)) (w.heap.size + 1 + 1) [.int .i64 G.nodes.length] := blk.new' _ _ (by simp)
  have hXF : ∀ k ∈ X ++ F, k < w.heap.size := fun k hk => (List.mem_append.1 hk).elim (hX k) (hg k)
  have HF := hf _ ch2 (h.same ch2 (by simp))
  generalize hW1 : (((w.alloc (.cells #[.pointer (some ⟨g, 0, none⟩)] 24)).alloc (.cells #[.int .i64 0] 28)).alloc (.cells #[.int .i64 G.nodes.length] 3)) = W1 at HF ch2 hb1 hb2 hb3
  have H := Lib.hid h; clear h
  have HOK := Lib.hid hok; clear hok
  have HB1 := Lib.hid hb1; clear hb1
  have HB2 := Lib.hid hb2; clear hb2
  have HB3 := Lib.hid hb3; clear hb3
  have HXF := Lib.hid hXF; clear hXF
  have HHG := Lib.hid hg; clear hg hX
  have HHD := Lib.hid hD; clear hD
  have CH2 := Lib.hid ch2; clear ch2
  clear hf ch1
  go_enter_defers Tryz.func26, Tryz.ntmps26
  go_wp2_with fail
  refine HL.mono ?_
  rintro e w' ⟨rfl, rfl⟩
  go_wp2_with fail
  refine HF.mono ?_
  rintro e w2 (⟨rfl, rfl, hd⟩ | ⟨he, rfl, G', F', hext, hG', hC, hF', hF2⟩)
  · have hC := HHD.out _ _ hd
    have b2 := HB2.out.ch hC (fun hm => by have := HXF.out _ hm; omega)
    have z2 := b2.cell (i := 0) rfl
    have y2 := b2.frozen (i := 0)
    go_wp2_with fail
    have b3 := b2.set (i := 0) (.int .i64 0)
    have z3 := b3.cell (i := 0) rfl
    refine leaves_cons (f := 51) (args := #[.pointer (some ⟨w.heap.size, 0, none⟩), .pointer (some ⟨w.heap.size + 1 + 1, 0, none⟩), .pointer (some ⟨w.heap.size + 1, 0, none⟩)]) (by simp) (by simp [go_sem]) ?_
    refine (mdbuild1_idle _ _ _ _).mono ?_
    rintro e u' w'' ⟨rfl, rfl, rfl⟩
    simp [Leaves, settle, results, Tryz.results26, go_sem, z3]
    exact .inl ⟨rfl, w.heap.size + 1, W1, w2, by omega, HB2.out.lt, CH2.out, hd, (Ch.refl _ _).setCell (.inl (by simp)) _⟩
  · have hnf : ∀ k, w.heap.size ≤ k → k ∉ X ++ F := fun k hk hm => by have := HXF.out _ hm; omega
    have b1 := HB1.out.ch hC (hnf _ (by omega))
    have b2 := HB2.out.ch hC (hnf _ (by omega))
    have b3 := HB3.out.ch hC (hnf _ (by omega))
    have hz1 := CH2.out.size
    have l1 := HB1.out.lt
    have l2 := HB2.out.lt
    have hnF : w.heap.size + 1 ∉ F' := fun hm => by
      rcases hF' _ hm with hm | hm
      · have := HHG.out _ hm; omega
      · omega
    have hst := mdbuild1_stop hG' G.nodes.length (by omega) er [] b1 b3 b2 hnF
    go_wp2_with fail
    refine leaves_cons (f := 51) (args := #[.pointer (some ⟨w.heap.size, 0, none⟩), .pointer (some ⟨w.heap.size + 1 + 1, 0, none⟩), .pointer (some ⟨w.heap.size + 1, 0, none⟩)]) (by simp) (by simp [go_sem]) ?_
    refine hst.mono ?_
    rintro e u' w'' ⟨rfl, rfl, F2, hG2, hC2, hF2', hF22, hbe⟩
    have z3 := hbe.cell (i := 0) rfl
    simp [Leaves, settle, results, Tryz.results26, go_sem, z3]
    rw [doCut_back HOK.out hext] at hG2
    refine .inr ⟨he, F2, hG2, ?_, fun k hk => ?_, hF22.trans hF2⟩
    · refine ((CH2.out.mono (F' := X ++ F) (by simp)).trans hC (fun k hk => .inl hk)).trans hC2 (fun k hk => ?_)
      rcases List.mem_cons.1 hk with rfl | hk
      · right; omega
      · rcases hF' _ hk with hk | hk
        · exact .inl (List.mem_append_right _ hk)
        · right; omega
    · rcases hF2' _ hk with hk | hk
      · rcases hF' _ hk with hk | hk
        · exact .inl hk
        · right; omega
      · have := hC.size
        right; omega
end
end Go.Proofs.YtkedpifopclipaaGreat
namespace Go.Proofs.YtkedpifopclipaaGreat
open Go.RowKit Go.Mem Go.Aig
theorem row_at2 {w : World} {e : TypeId} {b n c : Nat} {vs : List Value} (h : row w e 1 (.slice (some ⟨b, 0, none⟩) n c) n vs) {k : Nat} {v : Value} (hk : vs[k]? = some v) : w.cell? ⟨b, k, none⟩ = some v := by
  have := h.cells (g := b) rfl k v hk
  rw [Addr.add_lit] at this
  simpa using this
theorem row_fz {w : World} {e : TypeId} {b n c : Nat} {vs : List Value} (h : row w e 1 (.slice (some ⟨b, 0, none⟩) n c) n vs) (hn : 0 < n) (k : Nat) : w.frozen? ⟨b, k, none⟩ = false := by
  obtain ⟨b', ys, e1, hb, _⟩ := rowBlk h 0 hn
  cases e1
  exact hb.frozen
end Go.Proofs.YtkedpifopclipaaGreat
namespace Go.Aig
/-- a word shifted: to the left (1), or to the right -/
def shL (side : Nat) (x : List Int) (n : Nat) : List Int := (List.range x.length).map fun i => if side = 1 then (if n ≤ i then x.getD (i - n) 0 else 0) else x.getD (i + n) 0
@[simp] theorem shL_len (side : Nat) (x : List Int) (n : Nat) : (shL side x n).length = x.length := by simp [shL]
end Go.Aig
namespace Go.Proofs.YtkedpifopclipaaGreat
open Go.RowKit Go.Mem Go.Aig
theorem row_fresh {w W : World} {l : List Int} {n : Nat} (hW : W = w.alloc (.cells (intCells l).toArray 53)) (hn : l.length = n) (hl : n ≤ 1000000) : row W 53 1 (.slice (some ⟨w.heap.size, 0, none⟩) n n) n (intCells l) := by
  subst hn hW
  have hx : (w.alloc (.cells (intCells l).toArray 53)).heap[w.heap.size]? = some (.cells (intCells l).toArray 53 (0, 0)) := heap_alloc_new w _
  exact ⟨by simp [intCells], .inr ⟨w.heap.size, l.length, (intCells l).toArray, rfl, by simp, hx, Nat.le_refl _, by unfold maxLen; omega, by simp [intCells], by rw [Nat.mul_one]; exact List.take_of_length_le (by simp [intCells])⟩⟩
section
variable {w : World}
end
end Go.Proofs.YtkedpifopclipaaGreat
namespace Go.Aig
/-- a word turned -/
def turnL (x : List Int) (n : Int) : List Int := let k := (n.emod x.length).toNat; x.drop k ++ x.take k
end Go.Aig
namespace Go.Proofs.YtkedpifopclipaaGreat
open Go.RowKit Go.Mem Go.Aig
section
variable {w : World}
end
end Go.Proofs.YtkedpifopclipaaGreat
namespace Go.Aig
/-- a choice by a bit that is known: a if it is false, b if it is true -/
def muxOf (c : Nat) (G : Gra) (a b : Nat) : Res := if c < 2 * G.nodes.length then rMux G c b a else (G, 0, 201)
theorem eachF_app (op : Mk → Nat → Nat → Mk × Nat) (s : Mk) (l m : List (Nat × Nat)) : eachF op s (l ++ m) = m.foldl (eachS op) (eachF op s l) := by unfold eachF; rw [List.foldl_append]
theorem eachS_bad (f : Gra → Nat → Nat → Res) : ∀ (m : List (Nat × Nat)) (q : Mk × List Nat), q.1.2 ≠ 0 → (m.foldl (eachS (rop f)) q).1 = q.1
  | [], _, _ => rfl
  | p :: m, q, h => by
    rw [List.foldl_cons]
    have e : (eachS (rop f) q p).1 = q.1 := by unfold eachS rop; rw [rstep_bad h]
    rw [eachS_bad f m _ (by rw [e]; exact h), e]
theorem eachF_bad (f : Gra → Nat → Nat → Res) (s : Mk) (l m : List (Nat × Nat)) (h : (eachF (rop f) s l).1.2 ≠ 0) : (eachF (rop f) s (l ++ m)).1 = (eachF (rop f) s l).1 := by
  rw [eachF_app, eachS_bad f m _ h]
theorem eachF_lenT (op : Mk → Nat → Nat → Mk × Nat) (s : Mk) (l : List (Nat × Nat)) : (eachF op s l).2.length = l.length := by
  have : ∀ (l : List (Nat × Nat)) (q : Mk × List Nat), (l.foldl (eachS op) q).2.length = q.2.length + l.length := by
    intro l
    induction l with
    | nil => intro q; rfl
    | cons p l ih => intro q; rw [List.foldl_cons, ih]; simp [eachS]; omega
  rw [eachF, this]; simp
end Go.Aig
namespace Go.Mem
end Go.Mem
namespace Go.Aig
/-- a step that makes a word -/
def wstep (s : Mk) (R : Gra × List Nat × Nat) : Mk × List Nat := if s.2 ≠ 0 then (s, []) else if R.2.2 ≠ 0 then ((s.1, R.2.2), []) else ((R.1, 0), R.2.1)
theorem wstep_bad {s : Mk} (h : s.2 ≠ 0) (R : Gra × List Nat × Nat) : wstep s R = (s, []) := by unfold wstep; rw [if_pos h]
theorem wstep_no {s : Mk} (h : s.2 = 0) {R : Gra × List Nat × Nat} (hR : R.2.2 ≠ 0) : wstep s R = ((s.1, R.2.2), []) := by unfold wstep; rw [if_neg (by simp [h]), if_pos hR]
theorem wstep_ok {s : Mk} (h : s.2 = 0) {R : Gra × List Nat × Nat} (hR : R.2.2 = 0) : wstep s R = ((R.1, 0), R.2.1) := by unfold wstep; rw [if_neg (by simp [h]), if_neg (by simp [hR])]
def addR (G : Gra) (x y : List Nat) : Gra × List Nat × Nat := wres G (sumW x.length (G, 0) (x.zip y) 0)
def subR (G : Gra) (x y : List Nat) : Gra × List Nat × Nat := wres G (sumW x.length (G, 0) (x.zip (y.map neg)) 1)
def leR (G : Gra) (x y : List Nat) : Res := negG (rres G (ltF (G, 0) (y.zip x)))
/-- the lower bits of a word, each with one bit -/
def andsF (s : Mk) (b : Nat) (l : List Nat) : Mk × List Nat := eachF (rop and) s (l.map fun a => (a, b))
theorem andsF_snoc (s : Mk) (b : Nat) (l : List Nat) (a : Nat) : andsF s b (l ++ [a]) = eachS (rop and) (andsF s b l) (a, b) := by
  unfold andsF
  rw [List.map_append]
  exact eachF_snoc _ _ _ _
theorem andsF_bad (s : Mk) (b : Nat) (l m : List Nat) (h : (andsF s b l).1.2 ≠ 0) : (andsF s b (l ++ m)).1 = (andsF s b l).1 := by
  unfold andsF at h ⊢
  rw [List.map_append]
  exact eachF_bad and s _ _ h
/-- one more bit of the second word -/
def prodS (x : List Nat) (q : Mk × List Nat) (p : Nat × Nat) : Mk × List Nat :=
  if p.2 = 0 then ((andsF q.1 p.1 (x.take (x.length - p.2))).1, List.replicate p.2 0 ++ (andsF q.1 p.1 (x.take (x.length - p.2))).2)
  else wstep (andsF q.1 p.1 (x.take (x.length - p.2))).1 (addR (andsF q.1 p.1 (x.take (x.length - p.2))).1.1 q.2 (List.replicate p.2 0 ++ (andsF q.1 p.1 (x.take (x.length - p.2))).2))
def prodF (x : List Nat) (s : Mk) (y : List Nat) : Mk × List Nat := y.zipIdx.foldl (prodS x) (s, [])
theorem prodF_snoc (x : List Nat) (s : Mk) (y : List Nat) (b : Nat) : prodF x s (y ++ [b]) = prodS x (prodF x s y) (b, y.length) := by
  unfold prodF
  rw [List.zipIdx_append, List.foldl_append]
  simp
theorem andsF_keep {s : Mk} (h : s.2 ≠ 0) (b : Nat) (l : List Nat) : (andsF s b l).1 = s := by
  have := andsF_bad s b [] l (by simpa [andsF, eachF] using h)
  simpa [andsF, eachF] using this
theorem prodS_bad (x : List Nat) (q : Mk × List Nat) (p : Nat × Nat) (h : q.1.2 ≠ 0) : (prodS x q p).1 = q.1 := by
  unfold prodS
  split
  · exact andsF_keep h _ _
  · rw [wstep_bad (by rw [andsF_keep h]; exact h)]
    exact andsF_keep h _ _
theorem prodF_bad (x : List Nat) (s : Mk) (y z : List Nat) (h : (prodF x s y).1.2 ≠ 0) : (prodF x s (y ++ z)).1 = (prodF x s y).1 := by
  induction z generalizing y with
  | nil => rw [List.append_nil]
  | cons b z ih =>
    have e : (prodF x s (y ++ [b])).1 = (prodF x s y).1 := by rw [prodF_snoc]; exact prodS_bad _ _ _ h
    rw [show y ++ b :: z = (y ++ [b]) ++ z by simp, ih (y ++ [b]) (by rw [e]; exact h), e]
theorem full_andX : Full2 and := fun _ h _ _ ha hb => and_full h ha hb
theorem andsF_lok {G : Gra} (hG : Ok G) {b : Nat} {l : List Nat} (hb : b < 2 * G.nodes.length) (hl : ∀ r ∈ l, r < 2 * G.nodes.length) : LOk G (andsF (G, 0) b l) :=
  eachF_lok hG full_andX _ (fun p hp => by obtain ⟨r, hr, rfl⟩ := List.mem_map.1 hp; exact ⟨hl r hr, hb⟩)
theorem andsF_len (s : Mk) (b : Nat) (l : List Nat) : (andsF s b l).2.length = l.length := by
  unfold andsF
  rw [eachF_lenT, List.length_map]
section
variable {x y : List Nat} {s : Mk} {Gp : Gra} {ol : List Nat} {k b : Nat} (hst : prodF x s (y.take k) = ((Gp, 0), ol)) (hb : y[k]? = some b)
include hst hb
theorem prodF_next : prodF x s (y.take (k + 1)) = prodS x ((Gp, 0), ol) (b, k) := by
  have hl := (List.getElem?_eq_some_iff.1 hb).1
  rw [List.take_add_one, hb, Option.toList_some, prodF_snoc, hst, List.length_take, Nat.min_eq_left (by omega)]
theorem prodF_stop {e : Nat} (h0 : e ≠ 0) (h : (prodS x ((Gp, 0), ol) (b, k)).1.2 = e) : (prodF x s y).1.2 = e := by
  have h1 := prodF_next hst hb
  have h2 := prodF_bad x s (y.take (k + 1)) (y.drop (k + 1)) (by rw [h1, h]; exact h0)
  rw [List.take_append_drop] at h2
  rw [h2, h1, h]
theorem prodF_and_stop {e : Nat} (h0 : e ≠ 0) (h : (andsF (Gp, 0) b (x.take (x.length - k))).1.2 = e) : (prodF x s y).1.2 = e := by
  refine prodF_stop hst hb h0 ?_
  unfold prodS
  split
  · exact h
  · rw [wstep_bad (by rw [h]; exact h0)]
    exact h
theorem prodF_add_stop {Gq : Gra} {ml : List Nat} (hk : k ≠ 0) (hA : andsF (Gp, 0) b (x.take (x.length - k)) = ((Gq, 0), ml)) (h0 : (addR Gq ol (List.replicate k 0 ++ ml)).2.2 ≠ 0) : (prodF x s y).1.2 = (addR Gq ol (List.replicate k 0 ++ ml)).2.2 := by
  refine prodF_stop hst hb h0 ?_
  unfold prodS
  rw [if_neg hk]
  simp only [hA]
  rw [wstep_no rfl h0]
theorem prodF_zero {Gq : Gra} {ml : List Nat} (hk : k = 0) (hA : andsF (Gp, 0) b (x.take (x.length - k)) = ((Gq, 0), ml)) : prodF x s (y.take (k + 1)) = ((Gq, 0), List.replicate k 0 ++ ml) := by
  rw [prodF_next hst hb]
  unfold prodS
  rw [if_pos hk]
  simp only [hA]
theorem prodF_more {Gq : Gra} {ml : List Nat} (hk : k ≠ 0) (hA : andsF (Gp, 0) b (x.take (x.length - k)) = ((Gq, 0), ml)) (h0 : (addR Gq ol (List.replicate k 0 ++ ml)).2.2 = 0) : prodF x s (y.take (k + 1)) = (((addR Gq ol (List.replicate k 0 ++ ml)).1, 0), (addR Gq ol (List.replicate k 0 ++ ml)).2.1) := by
  rw [prodF_next hst hb]
  unfold prodS
  rw [if_neg hk]
  simp only [hA]
  rw [wstep_ok rfl h0]
end
end Go.Aig
namespace Go.Proofs.YtkedpifopclipaaGreat
open Go.RowKit Go.Mem Go.Aig
/-- the graph, and two words of one's own -/
structure P2 (w : World) (g : Nat) (F : List Nat) (W : World) (Gp : Gra) (F' : List Nat) (ov : Value) (ol : List Nat) (pv : Value) (pl : List Nat) : Prop where
  gin : GIn W g Gp F'
  ch : Ch F w W
  own : ∀ k ∈ F', k ∈ F ∨ w.heap.size ≤ k
  f2 : F'[2]? = F[2]?
  orow : row W 53 1 ov ol.length (refsCells ol)
  olo : ∀ k, ov.ownBlock = some k → w.heap.size ≤ k ∧ k ∉ F'
  prow : row W 53 1 pv pl.length (refsCells pl)
  plo : ∀ k, pv.ownBlock = some k → w.heap.size ≤ k ∧ k ∉ F'
  ne : ∀ k, pv.ownBlock = some k → ov.ownBlock ≠ some k
/-- how a part ends that may stop -/
def MakesW (w : World) (g : Nat) (G : Gra) (F : List Nat) (R : Mk × List Nat) (e : Ending) (w' : World) : Prop :=
  (R.1.2 = 0 ∧ ∃ v, e = .returned v ∧ GVo w g R.1.1 [] F v R.2 w') ∨ (R.1.2 ≠ 0 ∧ e = .panicked [{ v := stopV R.1.2, recovered := false }] ∧ ∃ G' F', Ext G G' ∧ GIn w' g G' F' ∧ Ch F w w' ∧ (∀ k ∈ F', k ∈ F ∨ w.heap.size ≤ k) ∧ F'[2]? = F[2]?)
theorem P2.start {w wr W : World} {g : Nat} {F : List Nat} {Gp : Gra} {ov : Value} {ol : List Nat} (h : GVo w g Gp [] F ov ol wr) (k : Nat) (hk : k ≤ 1000000) (hW : W = wr.alloc (.cells (refsCells (List.replicate k 0)).toArray 53)) :
    ∃ F', P2 w g F W Gp F' ov ol (.slice (some ⟨wr.heap.size, 0, none⟩) k k) (List.replicate k 0) := by
  obtain ⟨F', h1, h2, h3, h4, h5, h6⟩ := h
  have hc : Ch [] wr W := by rw [hW]; exact (Ch.refl _ _).alloc _
  have hz := h2.size
  have hrow : row W 53 1 (.slice (some ⟨wr.heap.size, 0, none⟩) k k) k (refsCells (List.replicate k 0)) := by
    have := row_fresh (w := wr) (W := W) (l := List.replicate k 0) (n := k) (by rw [hW]; simp [intCells, refsCells]) (by simp) hk
    simpa [intCells, refsCells] using this
  refine ⟨F', h1.same hc (by simp), h2.trans hc (by simp), h3, h4, h5.ch hc (by simp), h6, by simpa using hrow, fun q hq => ?_, fun q hq he => ?_⟩
  · cases hq
    exact ⟨by simpa using hz, fun hm => absurd (h1.lt _ hm) (Nat.lt_irrefl _)⟩
  · cases hq
    exact absurd (h5.lt _ he).2 (Nat.lt_irrefl _)
theorem P2.to {w W W' : World} {g : Nat} {F F' : List Nat} {Gp G' : Gra} {ov pv : Value} {ol pl : List Nat} (h : P2 w g F W Gp F' ov ol pv pl) (ht : GTo W g G' F' W') : ∃ F1, P2 w g F W' G' F1 ov ol pv pl := by
  obtain ⟨F1, a1, a2, a3, a4⟩ := ht
  have hs := h.ch.size
  refine ⟨F1, a1, h.ch.trans a2 (fun q hq => h.own q hq), fun q hq => (a3 q hq).elim (h.own q) (fun e => .inr (by omega)), a4.trans h.f2, h.orow.ch a2 (fun q hq => (h.olo q hq).2), fun q hq => ⟨(h.olo q hq).1, fun hm => (a3 q hm).elim (h.olo q hq).2 (fun e => by have := (h.orow.lt q hq).2; omega)⟩, h.prow.ch a2 (fun q hq => (h.plo q hq).2), fun q hq => ⟨(h.plo q hq).1, fun hm => (a3 q hm).elim (h.plo q hq).2 (fun e => by have := (h.prow.lt q hq).2; omega)⟩, h.ne⟩
/-- one more bit of the second word -/
theorem P2.app {w W W1 W4 : World} {g : Nat} {F F' : List Nat} {Gp : Gra} {ov pv pv' : Value} {ol pl : List Nat} {r : Nat} (h : P2 w g F W Gp F' ov ol pv pl) (h1 : Ch [] W W1) (hrow : row W4 53 1 pv' (pl.length + 1) (refsCells pl ++ [.int .i64 r])) (hC : Ch pv.ownBlock.toList W1 W4) (hf : ∀ k, pv'.ownBlock = some k → pv.ownBlock = some k ∨ W1.heap.size ≤ k) :
    P2 w g F W4 Gp F' ov ol pv' (pl ++ [r]) := by
  have hs := h.ch.size
  have hs1 := h1.size
  have hc : Ch pv.ownBlock.toList W W4 := (h1.mono (by simp)).trans hC (fun k hk => .inl hk)
  refine ⟨h.gin.same hc (fun k hk hm => (h.plo k (by simpa using hm)).2 hk), h.ch.trans hc (fun k hk => .inr (h.plo k (by simpa using hk)).1), h.own, h.f2, h.orow.ch hc (fun k hk hm => h.ne k (by simpa using hm) hk), h.olo, by rw [List.length_append, show refsCells (pl ++ [r]) = refsCells pl ++ [.int .i64 r] by simp [refsCells]]; exact hrow, fun k hk => ?_, fun k hk he => ?_⟩
  · rcases hf k hk with e | e
    · exact h.plo k e
    · exact ⟨by omega, fun hm => by have := h.gin.lt k hm; omega⟩
  · rcases hf k hk with e | e
    · exact h.ne k e he
    · have := (h.orow.lt k he).2; omega
theorem P2.second {w W : World} {g : Nat} {F F' : List Nat} {Gp : Gra} {ov pv : Value} {ol pl : List Nat} (h : P2 w g F W Gp F' ov ol pv pl) : GVo w g Gp [] F pv pl W := ⟨F', h.gin, h.ch, h.own, h.f2, h.prow, h.plo⟩
theorem GVo.next' {w w1 w2 : World} {g : Nat} {G1 : Gra} {F F' : List Nat} {v : Value} {l : List Nat} (hc : Ch F w w1) (hF : ∀ k ∈ F', k ∈ F ∨ w.heap.size ≤ k) (h2 : F'[2]? = F[2]?) (h : GVo w1 g G1 [] F' v l w2) : GVo w g G1 [] F v l w2 := by
  obtain ⟨F1, a1, a2, a3, a4, a5, a6⟩ := h
  refine ⟨F1, a1, hc.trans a2 (fun k hk => hF k hk), fun k hk => (a3 k hk).elim (hF k) (fun e => .inr (Nat.le_trans hc.size e)), a4.trans h2, a5, fun k hk => ⟨Nat.le_trans hc.size (a6 k hk).1, (a6 k hk).2⟩⟩
theorem natsOf_len (l : List Nat) : (natInts l).length = l.length := by simp [natInts]
theorem wv_of_row {w : World} {F : List Nat} {a : Option Addr} {n c : Nat} {l : List Nat} (h : row w 53 1 (.slice a n c) l.length (refsCells l)) (hn : l.length = n) (hlo : ∀ k, (Value.slice a n c).ownBlock = some k → k ∉ F) (hl : l.length ≤ 1000000) (hb : ∀ r ∈ l, r ≤ 1000000) : WVin w F ⟨a, natInts l, c⟩ := by
  subst hn
  refine ⟨⟨Sl.of_row' h rfl hl, fun r hr => ?_, by rw [natsOf_len]; exact hl⟩, fun k hk => ?_⟩
  · obtain ⟨q, hq, rfl⟩ := List.mem_map.1 hr
    have := hb q hq
    omega
  · cases a with
    | none => simp [ablk] at hk
    | some p =>
      have hk : k = p.block := by simpa [ablk] using hk
      subst hk
      have hp : (Value.slice (some p) l.length c).ownBlock = some p.block := rfl
      exact ⟨hlo _ hp, (h.lt _ hp).2⟩
end Go.Proofs.YtkedpifopclipaaGreat
namespace Go.Aig
/-- a choice, bit by bit -/
def chF (c : Nat) (s : Mk) (l : List (Nat × Nat)) : Mk × List Nat := eachF (fun s a b => sMux s c a b) s l
theorem chF_snoc (c : Nat) (s : Mk) (l : List (Nat × Nat)) (p : Nat × Nat) : chF c s (l ++ [p]) = eachS (fun s a b => sMux s c a b) (chF c s l) p := eachF_snoc _ s l p
theorem chF_bad (c : Nat) (s : Mk) (a : List (Nat × Nat)) (h : (chF c s a).1.2 ≠ 0) : ∀ b, (chF c s (a ++ b)).1 = (chF c s a).1 := by
  intro b
  induction b generalizing a with
  | nil => rw [List.append_nil]
  | cons p b ih =>
    have e : (chF c s (a ++ [p])).1 = (chF c s a).1 := by
      rw [chF_snoc]
      show (sMux (chF c s a).1 c p.1 p.2).1 = _
      unfold sMux
      rw [rstep_bad h]
    rw [show a ++ p :: b = (a ++ [p]) ++ b by simp, ih (a ++ [p]) (by rw [e]; exact h), e]
end Go.Aig
namespace Go.Proofs.YtkedpifopclipaaGreat
open Go.RowKit Go.Mem Go.Aig
attribute [local go_sem] Oper.semAt_some
section
variable {w : World} {g m : Nat} {G : Gra} {F : List Nat}
end
end Go.Proofs.YtkedpifopclipaaGreat
namespace Go.Aig
theorem nats_natInts' (l : List Nat) : nats (natInts l) = l := Go.Proofs.YtkedpifopclipaaGreat.toNats l
theorem chk2_ok {G : Gra} {x y : List Nat} {n : Nat} (hx : x.length = n) (hy : y.length = n) (h1 : 1 ≤ n) (h17 : n ≤ 17) (hxr : ∀ r ∈ x, r < 2 * G.nodes.length) (hyr : ∀ r ∈ y, r < 2 * G.nodes.length) : chk G [natInts x, natInts y] = 0 := by
  have h : rightW (n : Int) = true := by unfold rightW; simp; omega
  have hb : ∀ z : List Nat, (∀ r ∈ z, r < 2 * G.nodes.length) → badIn G (natInts z) = false := fun z hz => by
    unfold badIn natInts
    rw [List.any_map, List.any_eq_false]
    intro r hr
    have := hz r hr
    simp [right]; omega
  unfold chk
  simp only [List.any_cons, List.any_nil, Bool.or_false, List.headD_cons, hb x hxr, hb y hyr, badAs, natInts_len, hx, hy, h]
  simp
theorem constL_le (x n : Nat) : ∀ r ∈ constL x n, r ≤ 1 := fun r hr => by
  unfold constL at hr
  obtain ⟨i, _, rfl⟩ := List.mem_map.1 hr
  cases x.testBit i <;> simp
end Go.Aig
namespace Go.Proofs.YtkedpifopclipaaGreat
open Go.RowKit Go.Mem Go.Aig
section
variable {w : World} {g m : Nat} {G : Gra} {F : List Nat}
end
end Go.Proofs.YtkedpifopclipaaGreat
namespace Go.Aig
section
variable {G : Gra} (hG : Ok G) {x y : List Nat} {n : Nat} (hxl : x.length = n) (hyl : y.length = n) (hxr : ∀ r ∈ x, r < 2 * G.nodes.length) (hyr : ∀ r ∈ y, r < 2 * G.nodes.length)
include hG hxr hyr
theorem addL_lok : LOk G (sumW x.length (G, 0) (x.zip y) 0) := sumF_lok hG _ _ (zip_lt hxr hyr) (by have := hG.wf.pos; omega)
theorem subL_lok : LOk G (sumW x.length (G, 0) (x.zip (y.map neg)) 1) := sumF_lok hG _ _ (zip_lt hxr (fun r hr => by obtain ⟨q, hq, rfl⟩ := List.mem_map.1 hr; exact neg_lt (hyr q hq))) (by have := hG.wf.pos; omega)
theorem addR_wok : WOk G (addR G x y) := (addL_lok hG hxr hyr).res hG
theorem subR_wok : WOk G (subR G x y) := (subL_lok hG hxr hyr).res hG
omit hG hxr hyr in
include hxl hyl in
theorem addR_len (he : (addR G x y).2.2 = 0) : (addR G x y).2.1.length = n := by
  unfold addR wres at he ⊢
  split
  · rename_i h0; rw [if_pos h0] at he; exact absurd he h0
  · show (sumW x.length (G, 0) (x.zip y) 0).2.length = n
    unfold sumW
    rw [Go.Proofs.YtkedpifopclipaaGreat.sumF_len, List.length_zip]
    omega
omit hG hxr hyr in
include hxl hyl in
theorem subR_len (he : (subR G x y).2.2 = 0) : (subR G x y).2.1.length = n := by
  unfold subR wres at he ⊢
  split
  · rename_i h0; rw [if_pos h0] at he; exact absurd he h0
  · show (sumW x.length (G, 0) (x.zip (y.map neg)) 1).2.length = n
    unfold sumW
    rw [Go.Proofs.YtkedpifopclipaaGreat.sumF_len, List.length_zip, List.length_map]
    omega
theorem leR_full : RFull G (leR G x y) := by
  have h := ltF_vok hG (y.zip x) (zip_lt hyr hxr)
  have hp := hG.wf.pos
  unfold leR rres
  split
  · rename_i h0
    rw [h.s.err.resolve_left h0]
    exact ⟨⟨hG, .refl _, by show 0 < 2 * G.nodes.length; omega, .inr rfl⟩, fun _ => rfl⟩
  · exact ⟨⟨h.s.ok, h.s.ext, neg_lt h.lt, .inl rfl⟩, fun he => absurd rfl he⟩
end
end Go.Aig
namespace Go.Proofs.YtkedpifopclipaaGreat
open Go.RowKit Go.Mem Go.Aig
section
variable {w : World} {g : Nat} {G : Gra} {F : List Nat} {x y : List Nat} {xa ya : Option Addr} {xc yc : Nat} (h : GIn w g G F) (n : Nat) (hxl : x.length = n) (hyl : y.length = n) (h1 : 1 ≤ n) (h17 : n ≤ 17)
  (hx : WVin w F ⟨xa, natInts x, xc⟩) (hy : WVin w F ⟨ya, natInts y, yc⟩) (hxr : ∀ r ∈ x, r < 2 * G.nodes.length) (hyr : ∀ r ∈ y, r < 2 * G.nodes.length)
include h hxl hyl h1 h17 hx hy hxr hyr
theorem sAddR : Calls Tryz.prog 55 #[.pointer (some ⟨g, 0, none⟩), .slice xa n xc, .slice ya n yc] w fun e w' => ∃ v, e = .returned (.tuple #[v, .int .i64 (addR G x y).2.2]) ∧ GVo w g (addR G x y).1 [] F v (addR G x y).2.1 w' := by
  have H := sAdd_is h hx hy
  simp only [WV.val, natInts_len, nats_natInts', hxl, hyl] at H
  unfold wordG at H
  rw [if_neg (by rw [chk2_ok hxl hyl h1 h17 hxr hyr]; simp)] at H
  unfold addR
  rw [hxl]
  exact H
theorem sSubR : Calls Tryz.prog 59 #[.pointer (some ⟨g, 0, none⟩), .slice xa n xc, .slice ya n yc] w fun e w' => ∃ v, e = .returned (.tuple #[v, .int .i64 (subR G x y).2.2]) ∧ GVo w g (subR G x y).1 [] F v (subR G x y).2.1 w' := by
  have H := sSub_is h hx hy
  simp only [WV.val, natInts_len, nats_natInts', hxl, hyl] at H
  unfold wordG at H
  rw [if_neg (by rw [chk2_ok hxl hyl h1 h17 hxr hyr]; simp)] at H
  unfold subR
  rw [hxl]
  exact H
theorem sLeR : Calls Tryz.prog 58 #[.pointer (some ⟨g, 0, none⟩), .slice xa n xc, .slice ya n yc] w fun e w' => e = .returned (.tuple #[.int .i64 (leR G x y).2.1, .int .i64 (leR G x y).2.2]) ∧ GTo w g (leR G x y).1 F w' := by
  have H := sLe_is h hx hy
  simp only [WV.val, natInts_len, nats_natInts', hxl, hyl] at H
  unfold refG at H
  rw [if_neg (by rw [chk2_ok hyl hxl h1 h17 hyr hxr]; simp)] at H
  unfold leR
  exact H
end
end Go.Proofs.YtkedpifopclipaaGreat
namespace Go.Proofs.YtkedpifopclipaaGreat
open Go.RowKit Go.Mem Go.Aig
section
variable {w : World} {g : Nat} {G : Gra} {F : List Nat}
theorem MakesW.stop {w W : World} {g : Nat} {G G' : Gra} {F F' : List Nat} (he : Ext G G') (h1 : GIn W g G' F') (h2 : Ch F w W) (h3 : ∀ k ∈ F', k ∈ F ∨ w.heap.size ≤ k) (h4 : F'[2]? = F[2]?) {R : Mk × List Nat} {er : Nat} (h0 : er ≠ 0) (hR : R.1.2 = er) : MakesW w g G F R (.panicked [{ v := stopV er, recovered := false }]) W :=
  .inr ⟨by rw [hR]; exact h0, by rw [hR], G', F', he, h1, h2, h3, h4⟩
set_option maxRecDepth 100000 in
set_option maxHeartbeats 4000000 in
theorem mdproduct_is (h : GIn w g G F) {x y : List Nat} {xa ya : Option Addr} {xc yc : Nat} (n : Nat) (hxl : x.length = n) (hyl : y.length = n) (h1 : 1 ≤ n) (h16 : n ≤ 16) (hxc : n ≤ xc)
    (hx : WVin w F ⟨xa, natInts x, xc⟩) (hy : WVin w F ⟨ya, natInts y, yc⟩) (hxr : ∀ r ∈ x, r < 2 * G.nodes.length) (hyr : ∀ r ∈ y, r < 2 * G.nodes.length) :
    Calls Tryz.prog 28 #[.pointer (some ⟨g, 0, none⟩), .slice xa n xc, .slice ya n yc] w (MakesW w g G F (prodF x (G, 0) y)) := by
  have hok := h.ok
  have HX := Lib.hid hx; clear hx
  have HY := Lib.hid hy; clear hy
  have HXR := Lib.hid hxr; clear hxr
  have HYR := Lib.hid hyr; clear hyr
  have H := Lib.hid h; clear h
  have HXL := Lib.hid hxl; clear hxl
  have HYL := Lib.hid hyl; clear hyl
  have HOK := Lib.hid hok; clear hok
  go_enter Tryz.func28, Tryz.ntmps28
  go_wp2_with fail
  go_loopw [7, 15] (fun ov i wr => ∃ (k : Nat) (Gp : Gra) (ol : List Nat), k ≤ n ∧ i = .int .i64 k ∧ prodF x (G, 0) (y.take k) = ((Gp, 0), ol) ∧ Ext G Gp ∧ (∀ r ∈ ol, r < 2 * Gp.nodes.length) ∧ (0 < k → ol.length = n) ∧ GVo w g Gp [] F ov ol wr) (fun _ i _ => n - (intOf i).toNat)
  case atStart => exact ⟨0, G, [], by omega, rfl, rfl, .refl _, by simp, by omega, GVo.nil H.out (Ch.refl _ _) (fun _ hk => .inl hk) rfl⟩
  case round =>
    obtain ⟨k, Gp, ol, hk, rfl, hst, hext, hol, holn, hv⟩ := hrel
    by_cases hlt : k < n
    · obtain ⟨b, hb⟩ : ∃ b, y[k]? = some b := ⟨_, List.getElem?_eq_getElem (by rw [HYL.out]; exact hlt)⟩
      have hcw : Ch F w wr := by obtain ⟨_, _, h2, _⟩ := hv; exact h2
      obtain ⟨yb, yo, rfl, hyc⟩ := HY.out.ok.sl.cells k (b : Int) (by simp [natInts, hb])
      have c0 := (hcw.cell (p := ⟨yb, yo + k, none⟩) (HY.out.apart yb (by simp [ablk])).2 (HY.out.apart yb (by simp [ablk])).1).trans hyc
      have hbr : b < 2 * Gp.nodes.length := hext.lt (HYR.out b (List.mem_of_getElem? hb))
      have hmk := run_make_refs wr k (by omega)
      have hV := Lib.hid hv; clear hv
      have HST := Lib.hid hst; clear hst
      have HEXT := Lib.hid hext; clear hext
      have HOL := Lib.hid hol; clear hol
      have HOLN := Lib.hid holn; clear holn
      have HB := Lib.hid hb; clear hb
      have HCW := Lib.hid hcw; clear hcw
      clear hyc
      go_wp2_with fail
      refine wp_named fun W0 hW0 => ?_
      obtain ⟨F0, hp0⟩ := P2.start hV.out k (by omega) hW0
      have hlim : (x.take (n - k)).length = n - k := by rw [List.length_take, HXL.out]; omega
      obtain ⟨X, hX⟩ : ∃ X, x.take (n - k) = X := ⟨_, rfl⟩
      have hXr : ∀ r ∈ X, r < 2 * Gp.nodes.length := fun r hr => HEXT.out.lt (HXR.out r (by rw [← hX] at hr; exact List.mem_of_mem_take hr))
      have hXat : ∀ j a, X[j]? = some a → x[j]? = some a := fun j a ha => by
        rw [← hX] at ha
        rw [List.getElem?_take] at ha
        split at ha
        · exact ha
        · cases ha
      rw [hX] at hlim
      have HP0 := Lib.hid hp0; clear hp0
      have HXX := Lib.hid hX; clear hX
      have HLIM := Lib.hid hlim; clear hlim
      have HXR2 := Lib.hid hXr; clear hXr
      have HXAT := Lib.hid hXat; clear hXat
      have hopA : Ok Gp := by obtain ⟨_, a, _⟩ := hV.out; exact a.ok
      have HOPA := Lib.hid hopA; clear hopA
      clear hW0 hmk c0
      go_loopw [10, 29] (fun pv i wq => ∃ (j : Nat) (Gq : Gra) (ml F' : List Nat), j ≤ n - k ∧ i = .int .i64 j ∧ andsF (Gp, 0) b (X.take j) = ((Gq, 0), ml) ∧ P2 w g F wq Gq F' u7 ol pv (List.replicate k 0 ++ ml)) (fun _ i _ => n - k - (intOf i).toNat)
      case atStart => exact ⟨0, Gp, [], F0, by omega, rfl, rfl, by simpa using HP0.out⟩
      case round =>
        obtain ⟨j, Gq, ml, F', hj, rfl, heq, hp⟩ := hrel
        have hlok := andsF_lok HOPA.out (l := X.take j) hbr (fun r hr => HXR2.out r (List.mem_of_mem_take hr))
        have hmll := andsF_len (Gp, 0) b (X.take j)
        rw [heq] at hlok hmll
        have hmll : ml.length = j := by rw [hmll, List.length_take]; have := HLIM.out; omega
        by_cases hjl : j < n - k
        · obtain ⟨a, ha⟩ : ∃ a, X[j]? = some a := ⟨_, List.getElem?_eq_getElem (by rw [HLIM.out]; exact hjl)⟩
          obtain ⟨xb, xo, rfl, hxc2⟩ := HX.out.ok.sl.cells j (a : Int) (by simp [natInts, HXAT.out j a ha])
          have c1 := (hp.ch.cell (p := ⟨xb, xo + j, none⟩) (HX.out.apart xb (by simp [ablk])).2 (HX.out.apart xb (by simp [ablk])).1).trans hxc2
          have haq := hlok.s.ext.lt (HXR2.out a (List.mem_of_getElem? ha))
          have hbq := hlok.s.ext.lt hbr
          have hAnd := And_r hp.gin haq hbq
          have hfa := and_full hlok.s.ok haq hbq
          have hsn : X.take (j + 1) = X.take j ++ [a] := by rw [List.take_add_one, ha]; rfl
          have hnx := andsF_snoc (Gp, 0) b (X.take j) a
          rw [heq, ← hsn] at hnx
          obtain ⟨Q, hQ⟩ : ∃ Q, Q = and Gq a b := ⟨_, rfl⟩
          have hopq : rop and (Gq, 0) a b = rstep (Gq, 0) Q := by rw [hQ]; rfl
          rw [← hQ] at hAnd hfa
          have hmust := fun W => mdmustR_is W (Q.2.1 : Int) Q.2.2
          have HAND := Lib.hid hAnd; clear hAnd
          have HFA := Lib.hid hfa; clear hfa
          have HNX := Lib.hid hnx; clear hnx
          have HP := Lib.hid hp; clear hp
          have HEQ := Lib.hid heq; clear heq
          have HOPQ := Lib.hid hopq; clear hopq
          have HLJ := Lib.hid hlok; clear hlok
          have HSN := Lib.hid hsn; clear hsn
          have HML := Lib.hid hmll; clear hmll
          have HMUST := Lib.hid hmust; clear hmust
          clear haq hbq hQ hxc2 HP0
          go_wp2_with fail
          refine HAND.out.mono ?_
          rintro e w6 ⟨rfl, hto⟩
          go_wp2_with fail
          refine (HMUST.out _).mono ?_
          rintro e w7 ⟨rfl, ⟨h0, rfl⟩ | ⟨h0, rfl⟩⟩
          · obtain ⟨F3, hp3⟩ := HP.out.to hto
            have hQlt := HFA.out.ok.lt
            have hQz : Q.2.2 = 0 := h0
            have hpl : (List.replicate k 0 ++ ml).length = k + j := by rw [List.length_append, List.length_replicate, HML.out]
            have hrow := hp3.prow
            rw [hpl] at hrow
            obtain ⟨pa, pc, rfl⟩ := row.shape hrow
            have hcA : Ch [] w6 (w6.alloc (.cells #[.int .i64 Q.2.1] 53)) := (Ch.refl _ _).alloc _
            have hrA := hrow.ch hcA (by simp)
            have hbA : blk (w6.alloc (.cells #[.int .i64 Q.2.1] 53)) w6.heap.size [.int .i64 Q.2.1] := blk.new' _ _ rfl
            have hnx := HNX.out
            unfold eachS at hnx
            simp only [HOPQ.out, rstep_ok (s := (Gq, 0)) rfl hQz] at hnx
            have HNX2 := Lib.hid hnx; clear hnx
            have HRA := Lib.hid hrA; clear hrA hrow
            have HBA := Lib.hid hbA; clear hbA
            have HCA := Lib.hid hcA; clear hcA
            have HP3 := Lib.hid hp3; clear hp3 hto
            clear hQz HMUST HAND
            go_wp2_with (at_builtin; go_loud (refine wpList_append_row slRefs rfl _ _ rfl (v := .slice pa (k + j) pc) (n := k + j) (xs := refsCells (List.replicate k 0 ++ ml)) rfl HRA.out (ad := ⟨w6.heap.size, 0, none⟩) (m := 1) (c := 1) (news := [.int .i64 Q.2.1]) rfl rfl (news_blk HBA.out) (by simp [Value.oneCell']) (by omega) (by omega) ?_; intro v' w5 hown4 hC4 hf4; have HO4 := Lib.hid hown4; clear hown4; have HCC4 := Lib.hid hC4; clear hC4; have HF4 := Lib.hid hf4; clear hf4))
            go_roundw
            case rel =>
              refine ⟨j + 1, Q.1, ml ++ [Q.2.1], F3, by omega, by go_num, HNX2.out, ?_⟩
              rw [← List.append_assoc]
              exact HP3.out.app HCA.out (by rw [hpl]; exact HO4.out) HCC4.out HF4.out
            case measure => simp [intOf]; omega
          · obtain ⟨F3, hp3⟩ := HP.out.to hto
            have hQ := HFA.out.keep h0
            subst hQ
            have hnx := HNX.out
            unfold eachS at hnx
            simp only [HOPQ.out, rstep_no (s := (Gq, 0)) rfl h0] at hnx
            have hb2 := andsF_bad (Gp, 0) b (X.take (j + 1)) (X.drop (j + 1)) (by rw [hnx]; simp)
            rw [List.take_append_drop, hnx] at hb2
            have hR := prodF_and_stop HST.out HB.out (e := 201) (by omega) (by rw [HXL.out, HXX.out, hb2])
            have hstop := MakesW.stop ((HEXT.out).trans HLJ.out.s.ext) hp3.gin hp3.ch hp3.own hp3.f2 h0 hR
            have HSTOP := Lib.hid hstop
            clear hstop hR hb2 hnx hp3
            go_wp2_with fail
            exact ⟨rfl, HSTOP.out⟩
        · have hjn : j = n - k := by omega
          rw [List.take_of_length_le (by have := HLIM.out; omega)] at heq
          have hA : andsF (Gp, 0) b (x.take (x.length - k)) = ((Gq, 0), ml) := by rw [HXL.out, HXX.out]; exact heq
          have hmlr : ∀ r ∈ ml, r < 2 * Gq.nodes.length := hlok.lt
          have hextq : Ext Gp Gq := hlok.s.ext
          by_cases hk0 : k = 0
          · have hnz := prodF_zero HST.out HB.out hk0 hA
            have hv2 := hp.second
            have hlen : (List.replicate k 0 ++ ml).length = n := by rw [List.length_append, List.length_replicate]; omega
            have hkz : ((k : Int) == 0) = true := by simp; omega
            have HNZ := Lib.hid hnz; clear hnz
            have HV2 := Lib.hid hv2; clear hv2
            have HLEN := Lib.hid hlen; clear hlen
            have HMLR := Lib.hid hmlr; clear hmlr
            have HEXQ := Lib.hid hextq; clear hextq
            have HP := Lib.hid hp; clear hp
            clear hA heq hlok hjl
            go_wp2_with fail
            go_roundw
            case rel =>
              refine ⟨k + 1, Gq, List.replicate k 0 ++ ml, by omega, by go_num, HNZ.out, HEXT.out.trans HEXQ.out, fun r hr => ?_, fun _ => HLEN.out, HV2.out⟩
              rcases List.mem_append.1 hr with hr | hr
              · rw [(List.mem_replicate.1 hr).2]; have := HP.out.gin.ok.wf.pos; omega
              · exact HMLR.out r hr
            case measure => simp [intOf]; omega
          · have hkz : ((k : Int) == 0) = false := by simp; omega
            have hlen : (List.replicate k 0 ++ ml).length = n := by rw [List.length_append, List.length_replicate]; omega
            have hol2 := HOLN.out (by omega)
            have ho := hp.orow
            have hpr := hp.prow
            rw [hol2] at ho
            rw [hlen] at hpr
            obtain ⟨oa, oc, rfl⟩ := row.shape ho
            obtain ⟨pa, pc, rfl⟩ := row.shape hpr
            have hlt1 : ∀ r ∈ ol, r < 2 * Gq.nodes.length := fun r hr => hextq.lt (HOL.out r hr)
            have hlt2 : ∀ r ∈ List.replicate k 0 ++ ml, r < 2 * Gq.nodes.length := fun r hr => by
              rcases List.mem_append.1 hr with hr | hr
              · rw [(List.mem_replicate.1 hr).2]; have := hp.gin.ok.wf.pos; omega
              · exact hmlr r hr
            have hsm := hp.gin.ok.small
            have hadd := sAddR hp.gin n hol2 hlen h1 (by omega) (wv_of_row hp.orow hol2 (fun q hq => (hp.olo q hq).2) (by omega) (fun r hr => by have := hlt1 r hr; omega)) (wv_of_row hp.prow hlen (fun q hq => (hp.plo q hq).2) (by omega) (fun r hr => by have := hlt2 r hr; omega)) hlt1 hlt2
            have hwok := addR_wok hp.gin.ok hlt1 hlt2
            have hlnA := addR_len (G := Gq) hol2 hlen
            have hmore := prodF_more HST.out HB.out hk0 hA
            have hastop := prodF_add_stop HST.out HB.out hk0 hA
            obtain ⟨S, hS⟩ : ∃ S, addR Gq ol (List.replicate k 0 ++ ml) = S := ⟨_, rfl⟩
            rw [hS] at hadd hwok hlnA hmore hastop
            have HADD := Lib.hid hadd; clear hadd
            have HWOK := Lib.hid hwok; clear hwok
            have HLNA := Lib.hid hlnA; clear hlnA
            have HMORE := Lib.hid hmore; clear hmore
            have HASTOP := Lib.hid hastop; clear hastop
            have HP := Lib.hid hp; clear hp
            have HEXQ := Lib.hid hextq; clear hextq
            clear hS hlt1 hlt2 hmlr hA heq hlok hjl ho hpr hlen hol2 HP0
            go_wp2_with fail
            refine HADD.out.mono ?_
            rintro e w6 ⟨v, rfl, hgv⟩
            have hgn := GVo.next' HP.out.ch HP.out.own HP.out.f2 hgv
            obtain ⟨va, vc, rfl⟩ : ∃ va vc, v = .slice va S.2.1.length vc := by
              obtain ⟨_, _, _, _, _, hr, _⟩ := hgv
              exact row.shape hr
            have HGN := Lib.hid hgn; clear hgn hgv HADD
            have hmust := mdmustW_is w6 va S.2.1.length vc S.2.2
            have HMUST := Lib.hid hmust; clear hmust
            go_wp2_with fail
            refine HMUST.out.mono ?_
            rintro e w7 ⟨rfl, ⟨h0, rfl⟩ | ⟨h0, rfl⟩⟩
            · go_wp2_with fail
              go_roundw
              case rel => exact ⟨k + 1, S.1, S.2.1, by omega, by go_num, HMORE.out h0, (HEXT.out.trans HEXQ.out).trans HWOK.out.ext, HWOK.out.lt, fun _ => HLNA.out h0, HGN.out⟩
              case measure => simp [intOf]; omega
            · obtain ⟨F9, q1, q2, q3, q4, _⟩ := HGN.out
              have hstop := MakesW.stop ((HEXT.out.trans HEXQ.out).trans HWOK.out.ext) q1 (by simpa using q2) q3 q4 h0 (HASTOP.out h0)
              have HSTOP := Lib.hid hstop
              clear hstop q1 q2 q3 q4
              go_wp2_with fail
              exact ⟨rfl, HSTOP.out⟩
    · have hkn : k = n := by omega
      subst hkn
      rw [List.take_of_length_le (by rw [HYL.out]; omega)] at hst
      clear HX HY
      go_wp2_with fail
      go_ret
      exact .inl ⟨by rw [hst], _, rfl, by rw [hst]; exact hv⟩
end
end Go.Proofs.YtkedpifopclipaaGreat
namespace Go.Aig
/-- the product of two words -/
def mulG (G : Gra) (x y : List Int) : Gra × List Nat × Nat := if chk24 G [x, y] ≠ 0 then (G, [], chk24 G [x, y]) else wres G (prodF (nats x) (G, 0) (nats y))
structure Chk24 (G : Gra) (x y : List Int) : Prop where
  len : y.length = x.length
  lo : 1 ≤ x.length
  hi : x.length ≤ 16
  ex : natInts (nats x) = x
  ey : natInts (nats y) = y
  rx : ∀ r ∈ nats x, r < 2 * G.nodes.length
  ry : ∀ r ∈ nats y, r < 2 * G.nodes.length
theorem chk24_ok {G : Gra} {x y : List Int} (h : chk24 G [x, y] = 0) : Chk24 G x y := by
  unfold chk24 at h
  split at h
  · cases h
  · rename_i h1
    split at h
    · cases h
    · rename_i h2
      simp only [List.any_cons, List.any_nil, Bool.or_false, List.headD_cons, Bool.or_eq_true, not_or, Bool.not_eq_true] at h1 h2
      have hx := badIn_no h2.1
      have hy := badIn_no h2.2
      unfold bad24 at h1
      simp only [Bool.or_eq_false_iff, decide_eq_false_iff_not] at h1
      exact ⟨by have := h1.2.2.2; omega, by omega, by omega, hx.1, hy.1, hx.2, hy.2⟩
theorem chk24_small (G : Gra) (ws : List (List Int)) : chk24 G ws ≤ 240 := by unfold chk24; split; omega; split <;> omega
end Go.Aig
namespace Go.Proofs.YtkedpifopclipaaGreat
open Go.RowKit Go.Mem Go.Aig
theorem GVo.after {w W1 W W' : World} {g : Nat} {G1 : Gra} {F T : List Nat} {v : Value} {l : List Nat} (h : GVo W1 g G1 [] F v l W) (hc : Ch [] w W1) (hT : Ch T W W') (hTF : ∀ k ∈ T, k ∉ F ∧ w.heap.size ≤ k ∧ k < W1.heap.size) : GVo w g G1 [] F v l W' := by
  obtain ⟨F', h1, h2, h3, h4, h5, h6⟩ := h
  have hz := hc.size
  have hn : ∀ k ∈ T, k ∉ F' := fun k hk hm => (h3 k hm).elim (hTF k hk).1 (fun e => by have := (hTF k hk).2.2; omega)
  refine ⟨F', h1.same hT (fun k hk hm => hn k hm hk), ((hc.mono (F' := [] ++ F) (by simp)).trans h2 (fun k hk => .inl hk)).trans hT (fun k hk => .inr (hTF k hk).2.1), fun k hk => (h3 k hk).imp id (fun e => by omega), h4, h5.ch hT (fun k hk hm => ?_), fun k hk => ⟨by have := (h6 k hk).1; omega, (h6 k hk).2⟩⟩
  have := (h6 k hk).1
  have := (hTF k hm).2.2
  omega
section
variable {w : World} {g : Nat} {G : Gra} {F : List Nat}
theorem fnvmdMul1 : Fnv 27 := fnv_of Tryz.func27 (by simp [Tryz.f27]) (by simp [Tryz.f27])
/-- what the closure of Mul does if it is not stopped: the word is in its cell -/
def MulD (g : Nat) (F : List Nat) (R : Mk × List Nat) (bo : Nat) (w w' : World) : Prop := R.1.2 = 0 ∧ ∃ v W, GVo w g R.1.1 [] F v R.2 W ∧ w' = W.setCell ⟨bo, 0, none⟩ v
set_option maxRecDepth 100000 in
set_option maxHeartbeats 2000000 in
theorem mdMul1_is (h : GIn w g G F) {x y : List Nat} {xa ya : Option Addr} {xc yc : Nat} (n : Nat) (hxl : x.length = n) (hyl : y.length = n) (h1 : 1 ≤ n) (h16 : n ≤ 16) (hxc : n ≤ xc)
    (hx : WVin w F ⟨xa, natInts x, xc⟩) (hy : WVin w F ⟨ya, natInts y, yc⟩) (hxr : ∀ r ∈ x, r < 2 * G.nodes.length) (hyr : ∀ r ∈ y, r < 2 * G.nodes.length)
    {bg bx bY bo : Nat} (hg : blk w bg [.pointer (some ⟨g, 0, none⟩)]) (hbx : blk w bx [.slice xa n xc]) (hby : blk w bY [.slice ya n yc]) (hbo : blk w bo [.slice none 0 0]) (hF : bo ∉ F) :
    Calls Tryz.prog 27 #[.pointer (some ⟨bg, 0, none⟩), .pointer (some ⟨bx, 0, none⟩), .pointer (some ⟨bY, 0, none⟩), .pointer (some ⟨bo, 0, none⟩)] w (Stops w g G [bo] F (prodF x (G, 0) y).1.2 (MulD g F (prodF x (G, 0) y) bo)) := by
  have HM := mdproduct_is h n hxl hyl h1 h16 hxc hx hy hxr hyr
  have c0 := hg.cell (i := 0) rfl
  have c1 := hbx.cell (i := 0) rfl
  have c2 := hby.cell (i := 0) rfl
  clear hg hbx hby h hx hy hxr hyr
  generalize prodF x (G, 0) y = R at *
  go_enter Tryz.func27, Tryz.ntmps27
  go_wp2_with fail
  refine HM.mono ?_
  rintro e w1 (⟨h0, v, rfl, hv⟩ | ⟨h0, rfl, G', F', q1, q2, q3, q4, q5⟩)
  · have hb : blk w1 bo [.slice none 0 0] := by
      obtain ⟨_, _, hc, _⟩ := hv
      exact hbo.ch hc (by simpa using hF)
    have z := hb.cell (i := 0) rfl
    have f := hb.frozen (i := 0)
    obtain ⟨va, vc, rfl⟩ : ∃ va vc, v = .slice va R.2.length vc := by
      obtain ⟨_, _, _, _, _, hr, _⟩ := hv
      exact row.shape hr
    have HV := Lib.hid hv; clear hv
    go_wp2_with fail
    exact ⟨rfl, .tuple #[], by simp [results, Tryz.results27], .inl ⟨h0, rfl, h0, _, w1, HV.out, rfl⟩⟩
  · have hst : Stops w g G [bo] F R.1.2 (MulD g F R bo) (.panicked [{ v := stopV R.1.2, recovered := false }]) w1 := .inr ⟨h0, rfl, G', F', q1, q2, q3.mono (fun k hk => .inl (List.mem_append_right _ hk)), q4, q5⟩
    have HS := Lib.hid hst
    clear hst q1 q2 q3 q4
    go_wp2_with fail
    exact ⟨rfl, HS.out⟩
set_option maxRecDepth 100000 in
set_option maxHeartbeats 2000000 in
theorem mdMul_is (h : GIn w g G F) {x y : WV} (hx : WVin w F x) (hy : WVin w F y) (hxc : x.l.length ≤ x.c) :
    Calls Tryz.prog 7 #[.pointer (some ⟨g, 0, none⟩), x.val, y.val] w fun e w' => ∃ v, e = .returned (.tuple #[v, .int .i64 (mulG G x.l y.l).2.2]) ∧ GVo w g (mulG G x.l y.l).1 [] F v (mulG G x.l y.l).2.1 w' := by
  have hFl := h.lt
  obtain ⟨xa, xl, xc⟩ := x
  obtain ⟨ya, yl, yc⟩ := y
  simp only [WV.val] at *
  unfold mulG
  have hch := chk24_ok (G := G) (x := xl) (y := yl)
  have hcs := chk24_small G [xl, yl]
  have hmf : ∀ (fn : Fn) (first cap : Array Value) (w : World), (Instr.makeFunc fn first cap).run Tryz.prog w = .ok (.func fn first cap) w := fun _ _ _ _ => rfl
  generalize hc : chk24 G [xl, yl] = cc at *
  have hC : ∀ W, Ch [] w W → ∀ b, blk W b [.slice xa xl.length xc, .slice ya yl.length yc] → Calls Tryz.prog 25 #[.pointer (some ⟨g, 0, none⟩), .slice (some ⟨b, 0, none⟩) 2 2] W fun e w' => e = .returned (.int .i64 cc) ∧ Ch [] W w' := fun W hW b hb => by
    have := mdcheck_is (h.same hW (by simp)) (b := b) (ws := [⟨xa, xl, xc⟩, ⟨ya, yl, yc⟩]) 2 2 rfl (by omega) (fun i z hz => by
      match i, hz with
      | 0, hz => cases hz; exact hb.cell rfl
      | 1, hz => cases hz; exact hb.cell rfl) (fun z hz => by
      simp only [List.mem_cons, List.not_mem_nil, or_false] at hz
      rcases hz with rfl | rfl
      · exact (hx.ch hW).ok
      · exact (hy.ch hW).ok)
    rw [show ([⟨xa, xl, xc⟩, ⟨ya, yl, yc⟩] : List WV).map WV.l = [xl, yl] from rfl, hc] at this
    exact this
  have HC := Lib.hid hC; clear hC
  have HX := Lib.hid hx; clear hx
  have HY := Lib.hid hy; clear hy
  have H := Lib.hid h; clear h
  have HCH := Lib.hid hch; clear hch
  clear hc
  generalize hWW : (if cc ≠ 0 then (G, [], cc) else wres G (prodF (nats xl) (G, 0) (nats yl)) : Gra × List Nat × Nat) = WW
  have HWW := Lib.hid hWW; clear hWW
  go_enter Tryz.func7, Tryz.ntmps7
  go_wp2_with fail
  refine calls_named fun W0 hW0 => ?_
  have hc0 : Ch [] w W0 := by rw [hW0]; exact ((((Ch.refl _ _).alloc _).alloc _).alloc _).alloc _
  have hbg : blk W0 w.heap.size [.pointer (some ⟨g, 0, none⟩)] := by rw [hW0]; exact (((blk.new w _ _).alloc _).alloc _).alloc _
  have hbx : blk W0 (w.heap.size + 1) [.slice xa xl.length xc] := by rw [hW0]; exact ((blk.new' _ _ (by simp)).alloc _).alloc _
  have hby : blk W0 (w.heap.size + 1 + 1) [.slice ya yl.length yc] := by rw [hW0]; exact (blk.new' _ _ (by simp)).alloc _
  have hbl : blk W0 (w.heap.size + 1 + 1 + 1) [.slice xa xl.length xc, .slice ya yl.length yc] := by rw [hW0]; exact blk.new' _ _ (by simp)
  clear hW0
  refine (HC.out W0 hc0 _ hbl).mono ?_
  rintro e w1 ⟨rfl, hc1⟩
  have hc01 := hc0.trans hc1 (by simp)
  have hbg := hbg.ch hc1 (by simp)
  have hbx := hbx.ch hc1 (by simp)
  have hby := hby.ch hc1 (by simp)
  clear hbl hc0 hc1
  by_cases hcc : cc = 0
  · subst hcc
    obtain ⟨k1, k2, k3, k4, k5, k6, k7⟩ := HCH.out rfl
    have d0 := (hbg.alloc (.cells #[.slice none 0 0] 25)).cell (i := 0) rfl
    have hc2 : Ch [] w (w1.alloc (.cells #[.slice none 0 0] 25)) := hc01.alloc _
    have hbo : blk (w1.alloc (.cells #[.slice none 0 0] 25)) w1.heap.size [.slice none 0 0] := blk.new _ _ _
    have hz1 := hc01.size
    have hB := mdbuild_is (H.out.same hc2 (by simp)) 27 #[.pointer (some ⟨w.heap.size, 0, none⟩), .pointer (some ⟨w.heap.size + 1, 0, none⟩), .pointer (some ⟨w.heap.size + 1 + 1, 0, none⟩), .pointer (some ⟨w1.heap.size, 0, none⟩)] fnvmdMul1 [w1.heap.size] (by simp) (prodF (nats xl) (G, 0) (nats yl)).1.2 (MulD g F (prodF (nats xl) (G, 0) (nats yl)) w1.heap.size) (fun a b hd => by
      obtain ⟨_, v, W, ⟨_, _, q, _⟩, rfl⟩ := hd
      exact ((q.mono (fun k hk => .inl (List.mem_append_right _ hk))).setCell (.inl (by simp)) _)) (fun W hW hG => by
      have := mdMul1_is hG (x := nats xl) (y := nats yl) (xa := xa) (ya := ya) (xc := xc) (yc := yc) xl.length (by simp) (by simp [k1]) k2 k3 hxc
        (by rw [k4]; exact HX.out.ch (hc2.trans hW (by simp))) (by rw [k5]; exact HY.out.ch (hc2.trans hW (by simp))) k6 k7 ((hbg.alloc _).ch hW (by simp)) ((hbx.alloc _).ch hW (by simp)) (by rw [← k1]; exact (hby.alloc _).ch hW (by simp)) (hbo.ch hW (by simp)) (fun hm => by have := hFl _ hm; omega)
      exact this)
    have HB := Lib.hid hB; clear hB
    have hww := HWW.out
    rw [if_neg (by simp)] at hww
    clear HWW
    generalize prodF (nats xl) (G, 0) (nats yl) = R at *
    unfold wres at hww
    have HC01 := Lib.hid hc01; clear hc01
    have HBO := Lib.hid hbo; clear hbo
    have HC2 := Lib.hid hc2; clear hc2
    clear hbg hbx hby HX HY HCH HC k1 k2 k3 k4 k5 k6 k7
    go_wp2_with fail
    refine HB.out.mono ?_
    rintro e w2 ⟨rfl, ⟨h0, be, W1, W2, hb1, hb2, hW1, ⟨_, v, Wm, hgv, rfl⟩, hc2⟩ | ⟨h0, F', q1, q2, q3, q4⟩⟩
    · rw [if_neg (by simpa using h0)] at hww
      subst hww
      have hzc := HC2.out.size
      have hlt1 := HBO.out.lt
      have hz := hW1.size
      have hbe : be ≠ w1.heap.size := fun e => by rw [e] at hb1; omega
      have hbm : blk Wm w1.heap.size [.slice none 0 0] := by
        obtain ⟨_, _, q, _⟩ := hgv
        exact (HBO.out.ch hW1 (by simp)).ch q (fun hm => by have := hFl _ (by simpa using hm); omega)
      have hb3 := (hbm.set (i := 0) v).ch hc2 (by simpa using fun e => hbe e.symm)
      have d1 := hb3.cell (i := 0) rfl
      have hfin : GVo w g R.1.1 [] F v R.2 w2 := by
        refine GVo.after (T := [w1.heap.size, be]) hgv (HC2.out.trans hW1 (by simp)) ((((Ch.refl [w1.heap.size, be] Wm)).setCell (.inl (by simp)) v).trans hc2 (fun k hk => .inl (by simp at hk; simp [hk]))) (fun k hk => ?_)
        simp only [List.mem_cons, List.not_mem_nil, or_false] at hk
        rcases hk with rfl | rfl
        · exact ⟨fun hm => by have := hFl _ hm; omega, by omega, by omega⟩
        · exact ⟨fun hm => by have := hFl _ hm; omega, by omega, hb2⟩
      have HFIN := Lib.hid hfin
      rw [h0]
      clear hfin hgv hbm hb3 hc2 hW1
      go_wp2_with fail
      go_ret2
      exact ⟨_, rfl, HFIN.out⟩
    · have he : ((R.1.2 : Int) != 0) = true := by simp; omega
      rw [if_pos h0] at hww
      subst hww
      have hzc := HC2.out.size
      have hgv : GVo w g G [] F (.slice none 0 0) [] w2 := by
        refine GVo.nil q1 ((HC2.out.mono (by simp)).trans q2 (fun k hk => ?_)) (fun k hk => (q3 k hk).imp id (fun e => by omega)) q4
        rcases List.mem_append.1 hk with hk | hk
        · right; rw [List.mem_singleton.1 hk]; omega
        · exact .inl (by simpa using hk)
      have HGV := Lib.hid hgv
      clear hgv q1 q2 q3 q4
      go_wp2_with fail
      go_ret2
      exact ⟨_, rfl, HGV.out⟩
  · have hq : ((cc : Int) != 0) = true := by simp; omega
    have hgv : GVo w g G [] F (.slice none 0 0) [] w1 := GVo.none H.out hc01
    have HGV := Lib.hid hgv; clear hgv hc01 hbg hbx hby HX HY HCH HC
    have hww := HWW.out
    rw [if_pos hcc] at hww
    subst hww
    have HQ := Lib.hid hcc; clear hcc
    go_wp2_with fail
    go_ret2
    exact ⟨_, rfl, HGV.out⟩
end
end Go.Proofs.YtkedpifopclipaaGreat
namespace Go
open Go.RowKit Go.Mem
section
variable {F : Fence} {n : Nat} {P : Program}
theorem wpIn_rangeFunc_R {g : Operand} {ps : Array Tmp} {assign body : Code} {Q : Exit → Act → World → Prop} {a : Act} {w : World} (B : Nat) (hB : w.heap.size = B)
    (hro : F.round = none) (h1 : 1 ≤ n) {gf : Nat} {lb : Array Value} (hg : a.eval g = .func (.func gf) #[] lb) (hFg : F.fn gf) (eg : ∀ args w, (callFunc gf args).run P w = .ok (.enter gf args) w)
    {ι : Type} {encs : ι → Array Value} (hps : ∀ x, (encs x).size = ps.size) (J0 : World → Prop) (K J : ι → World → Prop) (D : World → Prop) (DP : List PanicEntry → World → Prop)
    (hseq : ∀ (l : Nat) (X : World → Prop), (∀ A A' L, X A → Ch L A A' → (∀ q ∈ L, q ≠ B ∧ q ≠ B + 1) → X A') → (∀ A, X A → B + 2 ≤ A.heap.size) →
      (∀ x W, K x W → X W → YieldAt F (n - 1 - 1) P l (encs x) W fun e W' => e = .returned (.bool true) ∧ J x W' ∧ X W') →
      ∀ W, J0 W → X W → CallsIn F (n - 1) P gf (#[.func (.yield l) #[] #[]] ++ lb) W fun e W' => ((∃ v, e = .returned v) ∧ D W' ∧ X W') ∨ (∃ c, e = .panicked c ∧ DP c W' ∧ X W'))
    (hJ0 : ∀ A A', J0 A → Ch [B, B + 1] A A' → J0 A') (hK : ∀ x A A', K x A → Ch [B, B + 1] A A' → K x A') (hJ : ∀ x A A', J x A → Ch [B, B + 1] A A' → J x A') (hD : ∀ A A', D A → Ch [B, B + 1] A A' → D A')
    (hpan : ∀ (c : List PanicEntry) (W : World), DP c W → W.heap[B]? = some (.deferred (some [])) → B + 2 ≤ W.heap.size → Q (.panic c) { a with defers := { target := .collected B, args := #[] } :: a.defers } W)
    (h0 : J0 w) (a₁ : ι → Act)
    (hassign : ∀ (l : Nat) (x : ι) (W : World) (K : Act → World → Prop), K (a₁ x) W →
      assign.wpIn (F.inRound l) (n - 1 - 1) P (Exit.then K (fun _ _ _ => False)) { tmps := (ps.zip (encs x)).foldl (fun t (p, v) => t.setIfInBounds p v) a.tmps, defers := [] } W)
    (hbody : ∀ (l : Nat) (x : ι) (W : World), K x W → B + 2 ≤ W.heap.size → body.wpIn (F.inRound l) (n - 1 - 1) P (fun e _ W' => Books B W W' ∧ e = .normal ∧ J x W') (a₁ x) W)
    (hdone : ∀ (W : World), D W → W.heap[B]? = some (.deferred (some [])) → B + 2 ≤ W.heap.size → Q .normal { a with defers := { target := .collected B, args := #[] } :: a.defers } W) :
    (Code.rangeFunc g ps assign body).wpIn F n P Q a w := by
  subst hB
  refine wpIn_rangeFunc fun fn hfn => ?_
  rw [hro]
  let rec0 : LoopState → Option Code → Loop := fun st pe => { state := st, pending := pe, fn, tmps := a.tmps, params := ps, assign, body, defers := w.heap.size }
  obtain ⟨W1, hW1⟩ : ∃ W1, (w.alloc (.deferred (some []))).alloc (.loop (rec0 .ready none)) = W1 := ⟨_, rfl⟩
  have hz1 : W1.heap.size = w.heap.size + 2 := by rw [← hW1]; simp
  have hL1 : W1.heap[w.heap.size + 1]? = some (.loop (rec0 .ready none)) := by
    rw [← hW1]; have := World.alloc_heap_new (w.alloc (.deferred (some []))) (.loop (rec0 .ready none)); rwa [World.size_alloc] at this
  have hK1 : W1.heap[w.heap.size]? = some (.deferred (some [])) := by
    rw [← hW1]; exact (Below.heap_alloc _ _ _ (by simp)).trans (World.alloc_heap_new w _)
  have hc1 : Ch [] w W1 := by rw [← hW1]; exact ((Ch.refl _ _).alloc _).alloc _
  have hI1 : J0 W1 := hJ0 _ _ h0 (hc1.mono (by simp))
  refine ⟨w.heap.size + 1, [{ target := .collected w.heap.size, args := #[] }], W1, { target := .fn (.func gf) lb, args := #[.func (.yield (w.heap.size + 1)) #[] #[]] }, W1, gf,
    #[.func (.yield (w.heap.size + 1)) #[] #[]] ++ lb, W1, ?_, ?_, ?_, ?_, fun _ => h1, ?_⟩
  · rw [← hW1]; exact run_enterLoop_outer _ _ _ _ _
  · simp only [resolve, hg]
    simp [go_sem]
  · intro f' hf'; simp [Target.leads] at hf'; subst hf'; exact hFg
  · simp [invoke, go_sem, eg]
  · refine (hseq (w.heap.size + 1) (fun W => w.heap.size + 2 ≤ W.heap.size ∧ W.heap[w.heap.size + 1]? = some (.loop (rec0 .ready none)) ∧ W.heap[w.heap.size]? = some (.deferred (some [])))
      (fun A A' L hs hc hL => ⟨Nat.le_trans hs.1 hc.size, (hc.block _ (by have := hs.1; omega) (fun hin => (hL _ hin).2 rfl)).trans hs.2.1, (hc.block _ (by have := hs.1; omega) (fun hin => (hL _ hin).1 rfl)).trans hs.2.2⟩)
      (fun A hA => hA.1) ?_ W1 hI1 ⟨by omega, hL1, hK1⟩).mono ?_
    · rintro x W hi ⟨hz, hl, hk⟩
      have hlt : w.heap.size + 1 < W.heap.size := by omega
      refine ⟨fn, _, assign, body, run_yield (P := P) (args := encs x) hl (hps x), roundIn_of_wpIn hfn (hassign _ x W _ ⟨_, run_beginRound hl rfl, ?_⟩)⟩
      have hl2 : (W.putObj (w.heap.size + 1) (.loop (rec0 .busy none))).heap[w.heap.size + 1]? = some (.loop (rec0 .busy none)) := World.putObj_heap_same hlt
      have hk2 : (W.putObj (w.heap.size + 1) (.loop (rec0 .busy none))).heap[w.heap.size]? = some (.deferred (some [])) := (World.putObj_heap_other (by omega)).trans hk
      refine wpIn_mono (hbody _ x _ (hK _ _ _ hi (ch_put (by simp))) (by simp; omega)) ?_
      rintro e a3 W3 ⟨⟨hb0, hb1⟩, rfl, hi3⟩
      have hl3 := hb1.trans hl2
      have hlt3 := (Array.getElem?_eq_some_iff.1 hl3).1
      exact ⟨_, _, run_endRound (P := P) none hl3, rfl, hJ _ _ _ hi3 (ch_put (by simp)), by simp; omega, World.putObj_heap_same hlt3, (World.putObj_heap_other (by omega)).trans (hb0.trans hk2)⟩
    · rintro e W2 (⟨⟨v, rfl⟩, hi, hz, hl, hk⟩ | ⟨c, rfl, hi, hz, hl, hk⟩)
      · exact ⟨none, _, run_endLoop (P := P) hl (by simp [rec0]), hdone _ (hD _ _ hi (ch_put (by simp))) ((World.putObj_heap_other (by omega)).trans hk) (by simp; omega)⟩
      · exact hpan c _ hi hk hz
end
end Go
namespace Go
open Go.RowKit Go.Mem
section
variable {F : Fence} {n : Nat} {P : Program}
/-- the walk of a piece of code of one function -/
def Code.wpAt (f₀ : FuncId) (F : Fence) (n : Nat) (P : Program) (c : Code) (Q : Exit → Act → World → Prop) (a : Act) (w : World) : Prop :=
  ∀ (b : Frame) (k : List Item) (cs : List Frame), b.fn = f₀ → b.roundOf = F.round → F.fn b.fn → F.room (cs.length + 1 + n) →
    ∃ e a' w', Q e a' w' ∧ ArrivesIn (Machine.fenced P F) P (lone (b.atR a (.code c :: k)) cs w) b k cs e a' w'
theorem wpAt_of_wpIn {f₀ : FuncId} {c : Code} {Q : Exit → Act → World → Prop} {a : Act} {w : World} (h : c.wpIn F n P Q a w) : c.wpAt f₀ F n P Q a w := fun b k cs _ hro hb hr => h b k cs hro hb hr
theorem wpAt_named {f₀ : FuncId} {c : Code} {Q : Exit → Act → World → Prop} {a : Act} {w : World} (h : ∀ W, W = w → c.wpAt f₀ F n P Q a W) : c.wpAt f₀ F n P Q a w := h _ rfl
theorem wpAt_seq {f₀ : FuncId} {x y : Code} {Q : Exit → Act → World → Prop} {a : Act} {w : World} (h : x.wpAt f₀ F n P (Exit.then (y.wpAt f₀ F n P Q) Q) a w) : (Code.seq x y).wpAt f₀ F n P Q a w := by
  intro b k cs hf hro hb hr
  have h0 : (lone (b.atR a (.code (.seq x y) :: k)) cs w).fenced P F := fenced_calm hb hr rfl
  obtain ⟨e, a₁, w₁, hq, harr⟩ := h b (.code y :: k) cs hf hro hb hr
  cases e with
  | normal =>
    obtain ⟨e₂, a₂, w₂, hq₂, harr₂⟩ := hq b k cs hf hro hb hr
    exact ⟨e₂, a₂, w₂, hq₂, .of_steps (.head h0 stepR_seq harr) harr₂⟩
  | exit id => exact ⟨_, a₁, w₁, hq, .of_steps (.one h0 stepR_seq) (.pass (x := .code y) rfl (fun _ _ => .inl (by simp)) harr)⟩
  | goto l => exact ⟨_, a₁, w₁, hq, .of_steps (.one h0 stepR_seq) (.pass (x := .code y) rfl (fun _ _ => .inl (by simp)) harr)⟩
  | ret => exact ⟨_, a₁, w₁, hq, .of_steps (.one h0 stepR_seq) (.pass (x := .code y) rfl (fun _ _ => .inl (by simp)) harr)⟩
  | panic ch => exact ⟨_, a₁, w₁, hq, .of_steps (.one h0 stepR_seq) (.pass (x := .code y) rfl (fun _ _ => .inl (by simp)) harr)⟩
  | outgrown => exact ⟨_, a₁, w₁, hq, .of_steps (.one h0 stepR_seq) (.pass (x := .code y) rfl (fun _ _ => .inl (by simp)) harr)⟩
/-- a block around a range: it ends, or it panics -/
theorem wpAt_block {f₀ : FuncId} {id : Nat} {c : Code} {Q : Exit → Act → World → Prop} {a : Act} {w : World} (h : c.wpAt f₀ F n P (fun e a w => (e = .normal ∧ Q .normal a w) ∨ ∃ ch, e = .panic ch ∧ Q (.panic ch) a w) a w) : (Code.block id c).wpAt f₀ F n P Q a w := by
  intro b k cs hf hro hb hr
  have h0 : (lone (b.atR a (.code (.block id c) :: k)) cs w).fenced P F := fenced_calm hb hr rfl
  obtain ⟨e, a₁, w₁, hq, harr⟩ := h b (.inBlock id :: k) cs hf hro hb hr
  rcases hq with ⟨rfl, hq⟩ | ⟨ch, rfl, hq⟩
  · exact ⟨.normal, a₁, w₁, hq, .head h0 stepR_block (StepsIn.trans harr (.one (fenced_calm hb hr rfl) stepR_inBlock))⟩
  · exact ⟨_, a₁, w₁, hq, .of_steps (.one h0 stepR_block) harr⟩
/-- a round whose body may panic -/
def roundPostP (P : Program) (l : Nat) (R : Ending → World → Prop) : Exit → Act → World → Prop
  | .normal, _, w => ∃ v w', (Instr.endRound l none).run P w = .ok v w' ∧ R (.returned v) w'
  | .panic chain, a, w => a.defers = [] ∧ R (.panicked chain) w
  | _, _, _ => False
theorem roundIn_of_wpIn_P {l : Nat} {f : FuncId} {fn : Func} (hfn : P.funcs[f]? = some fn) {tmps : Array Value} {assign body : Code} {w : World} {R : Ending → World → Prop} (hF : F.fn f)
    (h : assign.wpIn (F.inRound l) n P (Exit.then (fun a₁ w₁ => ∃ w₂, (Instr.beginRound l).run P w₁ = .ok () w₂ ∧ body.wpIn (F.inRound l) n P (roundPostP P l R) a₁ w₂) (fun _ _ _ => False))
      { tmps := tmps, defers := [] } w) :
    RoundIn F n P l f tmps assign body w R := by
  refine ⟨hF, fun c cs hr => ?_⟩
  let b : Frame := { (default : Frame) with fn := f, kind := .normal, roundOf := some l }
  have hb0 : Frame.round l f tmps assign body .normal = b.atR { tmps := tmps, defers := [] } [.code assign, .beginRound, .code body] := by
    simp [Frame.round, Frame.atR, b]
  have hr' : (F.inRound l).room ((c :: cs).length + 1 + n) := hr
  have hF' : (F.inRound l).fn b.fn := hF
  obtain ⟨e, a₁, w₁, hq, harr⟩ := h b [.beginRound, .code body] (c :: cs) rfl hF' hr'
  rw [← hb0] at harr
  cases e with
  | normal =>
    obtain ⟨w₂, hbr, hbody⟩ := hq
    have s1 : StepsIn (Machine.fenced P (F.inRound l)) P (lone (b.atR a₁ [.beginRound, .code body]) (c :: cs) w₁) (lone (b.atR a₁ [.code body]) (c :: cs) w₂) :=
      .one (fenced_calm (fr := b.atR a₁ [.beginRound, .code body]) hF' hr' rfl) (stepR_beginRound rfl hbr)
    obtain ⟨e₂, a₂, w₃, hq₂, harr₂⟩ := hbody b [] (c :: cs) rfl hF' hr'
    cases e₂ with
    | normal =>
      obtain ⟨v, w₄, hend, hR⟩ := hq₂
      exact ⟨.returned v, w₄, hR, (StepsIn.trans harr s1).trans (StepsIn.trans harr₂ (.one (fenced_calm (fr := b.atR a₂ []) hF' hr' rfl) (stepR_round_end rfl rfl hend)))⟩
    | panic chain =>
      obtain ⟨hd, hR⟩ := hq₂
      obtain ⟨todo, hs⟩ := harr₂
      have hlv : ({ b.atR a₂ todo with mode := .panicking chain } : Frame).leaving P w₃ (.panicked chain) := ⟨rfl, hd, fn, hfn⟩
      exact ⟨.panicked chain, w₃, hR, (StepsIn.trans harr s1).trans (StepsIn.trans hs (.one (fenced_leaving (F := F.inRound l) (n := n) hF' hr' hlv) (step_leave_panicked hlv)))⟩
    | ret => exact hq₂.elim
    | exit id => exact hq₂.elim
    | goto t => exact hq₂.elim
    | outgrown => exact hq₂.elim
  | exit id => exact hq.elim
  | goto t => exact hq.elim
  | ret => exact hq.elim
  | panic chain => exact hq.elim
  | outgrown => exact hq.elim
theorem wpAt_rangeFunc {f₀ : FuncId} {g : Operand} {ps : Array Tmp} {assign body : Code} {Q : Exit → Act → World → Prop} {a : Act} {w : World}
    (h : F.fn f₀ → ∃ (l : Nat) (mark : List Deferred) (w₁ : World) (d : Deferred) (w₁' : World) (f : FuncId) (args : Array Value) (w₂ : World),
      (Instr.enterLoop f₀ a.tmps ps assign body F.round).run P w = .ok (l, mark) w₁ ∧
      (resolve a.eval (rangeCall g l) 0).run P w₁ = .ok d w₁' ∧
      (∀ f', Target.leads P w₁' d.target d.args = some f' → F.fn f') ∧
      (invoke d.target d.args).run P w₁' = .ok (.enter f args) w₂ ∧
      (F.depth.isSome = true → 1 ≤ n) ∧
      CallsIn F (n - 1) P f args w₂ (rangePost F n P l Q { a with defers := mark ++ a.defers })) :
    (Code.rangeFunc g ps assign body).wpAt f₀ F n P Q a w := by
  intro b k cs hf hro hb hr
  subst hf
  obtain ⟨l, mark, w₁, d, w₁', f, args, w₂, he, hres, hlead, hinv, hn, hF, hcall⟩ := h hb
  rw [← hro] at he
  have h0 : (lone (b.atR a (.code (.rangeFunc g ps assign body) :: k)) cs w).fenced P F := by
    refine fenced_lone (.inl hb) (fun f' hf' => hlead f' ?_) (Fence.room_le hr (by omega))
    have hev := Frame.eval_atR b a (.code (.rangeFunc g ps assign body) :: k)
    simp only [Frame.atR] at hev
    simp only [Frame.about, Frame.atR, he, hev, hres] at hf'
    exact hf'
  have henter := stepR_rangeFunc (P := P) (b := b) (a := a) (k := k) (cs := cs) (w := w) he hres hinv
  have hroom : F.room ((b.atR { a with defers := mark ++ a.defers } (.inRangeFunc l :: k) :: cs).length + 1 + (n - 1)) := Fence.room_enter hr hn
  obtain ⟨e, w₃, fr, hR, hsteps, hfn, hleave⟩ := hcall (b.atR { a with defers := mark ++ a.defers } (.inRangeFunc l :: k) :: cs) hroom
  cases e with
  | outgrown =>
    obtain ⟨a₀, w₀, hq⟩ := hR
    exact ⟨.outgrown, a₀, w₀, hq, .inr (Outgrown.of_steps (.one henter) hsteps)⟩
  | returned v =>
    have hl : (lone fr (b.atR { a with defers := mark ++ a.defers } (.inRangeFunc l :: k) :: cs) w₃).fenced P F := fenced_leaving (hfn ▸ hF) hroom hleave
    obtain ⟨jump, w₄, hend, hj⟩ := hR
    have sback : StepsIn (Machine.fenced P F) P (lone (b.atR a (.code (.rangeFunc g ps assign body) :: k)) cs w) (lone (b.atR { a with defers := mark ++ a.defers } ((jump.map Item.code).toList ++ k)) cs w₄) := by
      refine .head h0 henter (StepsIn.trans hsteps (.head hl ?_ (.one (fenced_calm (fr := b.atR { a with defers := mark ++ a.defers } (.endRangeFunc l :: k)) hb hr rfl) (stepR_endRangeFunc hend))))
      rw [← finish_atR_inRangeFunc l v]; exact step_leave_returned hleave
    cases jump with
    | none => exact ⟨.normal, _, w₄, hj, sback⟩
    | some c =>
      obtain ⟨e', a'', w₅, hq, harr⟩ := hj b k cs hro hb hr
      exact ⟨e', a'', w₅, hq, .of_steps sback harr⟩
  | panicked chain =>
    have hl : (lone fr (b.atR { a with defers := mark ++ a.defers } (.inRangeFunc l :: k) :: cs) w₃).fenced P F := fenced_leaving (hfn ▸ hF) hroom hleave
    refine ⟨.panic chain, _, w₃, hR, .inRangeFunc l :: k, .head h0 henter (StepsIn.trans hsteps (.one hl ?_))⟩
    rw [← Frame.raise_atR]; exact step_leave_panicked hleave
/-- a function that is known, with a range over a function in it -/
theorem callsIn_of_wpAt_marks {f : FuncId} {fn : Func} {c : Code} {args : Array Value} {w : World} {R : Ending → World → Prop}
    (hf : P.funcs[f]? = some fn) (hb : fn.body = some c) (hF : F.fn f)
    (h : c.wpAt f F n P (bodyPostM F n P fn R) { tmps := args ++ Array.replicate (fn.ntmps - args.size) undef, defers := [] } w) (hro : F.round = none := by rfl) : CallsIn F n P f args w R := by
  refine ⟨hF, fun cs hr => ?_⟩
  let b : Frame := { (default : Frame) with fn := f, kind := .normal, roundOf := none }
  have henter : Frame.enter P f args .normal = b.atR { tmps := args ++ Array.replicate (fn.ntmps - args.size) undef, defers := [] } [.code c] := by
    simp [Frame.enter, Frame.atR, hf, hb, b]
  obtain ⟨e, a', w', hq, harr⟩ := h b [] cs rfl hro.symm hF hr
  rw [← henter] at harr
  cases e with
  | normal =>
    obtain ⟨e', w'', fr', hR, hs, hfn, hl⟩ := leaves_stepsInM a'.defers .returning w' { b.atR a' [] with mode := .returning } cs rfl rfl rfl hf rfl hF hr hq
    exact ⟨e', w'', fr', hR, ComesIn.of_steps (StepsIn.trans harr (.one (fenced_calm (fr := b.atR a' []) hF hr rfl) (stepR_end rfl))) hs, hfn, hl⟩
  | ret =>
    obtain ⟨todo, hs₀⟩ := harr.1 rfl
    obtain ⟨e', w'', fr', hR, hs, hfn, hl⟩ := leaves_stepsInM a'.defers .returning w' { b.atR a' todo with mode := .returning } cs rfl rfl rfl hf rfl hF hr hq
    exact ⟨e', w'', fr', hR, ComesIn.of_steps hs₀ hs, hfn, hl⟩
  | panic chain =>
    obtain ⟨todo, hs₀⟩ := harr
    obtain ⟨e', w'', fr', hR, hs, hfn, hl⟩ := leaves_stepsInM a'.defers (.panicking chain) w' { b.atR a' todo with mode := .panicking chain } cs rfl rfl rfl hf rfl hF hr hq
    exact ⟨e', w'', fr', hR, ComesIn.of_steps hs₀ hs, hfn, hl⟩
  | exit id => exact hq.elim
  | goto l => exact hq.elim
  | outgrown => exact ⟨.outgrown, w', b, hq, harr.resolve_left (by simp [b]), rfl, trivial⟩
/-- the law: the body goes on, or panics -/
theorem wpAt_rangeFunc_S {f₀ : FuncId} {fn₀ : Func} (hf₀ : P.funcs[f₀]? = some fn₀) {g : Operand} {ps : Array Tmp} {assign body : Code} {Q : Exit → Act → World → Prop} {a : Act} {w : World} (B : Nat) (hB : w.heap.size = B)
    (hro : F.round = none) (h1 : 1 ≤ n) {gf : Nat} {lb : Array Value} (hg : a.eval g = .func (.func gf) #[] lb) (hFg : F.fn gf) (eg : ∀ args w, (callFunc gf args).run P w = .ok (.enter gf args) w)
    {ι : Type} {encs : ι → Array Value} (hps : ∀ x, (encs x).size = ps.size) (J0 : World → Prop) (K J : ι → World → Prop) (D : World → Prop) (DP : List PanicEntry → World → Prop)
    (hseq : ∀ (l : Nat) (X Y : World → Prop), (∀ A A' L, X A → Ch L A A' → (∀ q ∈ L, q ≠ B ∧ q ≠ B + 1) → X A') → (∀ A, X A → B + 2 ≤ A.heap.size) →
      (∀ x W, K x W → X W → YieldAt F (n - 1 - 1) P l (encs x) W fun e W' => (e = .returned (.bool true) ∧ J x W' ∧ X W') ∨ (∃ c, e = .panicked c ∧ DP c W' ∧ Y W')) →
      ∀ W, J0 W → X W → CallsIn F (n - 1) P gf (#[.func (.yield l) #[] #[]] ++ lb) W fun e W' => ((∃ v, e = .returned v) ∧ D W' ∧ X W') ∨ (∃ c, e = .panicked c ∧ DP c W' ∧ Y W'))
    (hJ0 : ∀ A A', J0 A → Ch [B, B + 1] A A' → J0 A') (hK : ∀ x A A', K x A → Ch [B, B + 1] A A' → K x A') (hJ : ∀ x A A', J x A → Ch [B, B + 1] A A' → J x A') (hD : ∀ A A', D A → Ch [B, B + 1] A A' → D A')
    (hpan : ∀ (c : List PanicEntry) (W : World), DP c W → W.heap[B]? = some (.deferred (some [])) → B + 2 ≤ W.heap.size → Q (.panic c) { a with defers := { target := .collected B, args := #[] } :: a.defers } W)
    (h0 : J0 w) (a₁ : ι → Act)
    (hassign : ∀ (l : Nat) (x : ι) (W : World) (K : Act → World → Prop), K (a₁ x) W →
      assign.wpIn (F.inRound l) (n - 1 - 1) P (Exit.then K (fun _ _ _ => False)) { tmps := (ps.zip (encs x)).foldl (fun t (p, v) => t.setIfInBounds p v) a.tmps, defers := [] } W)
    (hbody : ∀ (l : Nat) (x : ι) (W : World), K x W → B + 2 ≤ W.heap.size → body.wpIn (F.inRound l) (n - 1 - 1) P (fun e a' W' => (e = .normal ∧ Books B W W' ∧ J x W') ∨ (∃ c, e = .panic c ∧ a'.defers = [] ∧ Books B W W' ∧ DP c W')) (a₁ x) W)
    (hdone : ∀ (W : World), D W → W.heap[B]? = some (.deferred (some [])) → B + 2 ≤ W.heap.size → Q .normal { a with defers := { target := .collected B, args := #[] } :: a.defers } W) :
    (Code.rangeFunc g ps assign body).wpAt f₀ F n P Q a w := by
  subst hB
  refine wpAt_rangeFunc fun hfn => ?_
  rw [hro]
  let rec0 : LoopState → Option Code → Loop := fun st pe => { state := st, pending := pe, fn := f₀, tmps := a.tmps, params := ps, assign, body, defers := w.heap.size }
  obtain ⟨W1, hW1⟩ : ∃ W1, (w.alloc (.deferred (some []))).alloc (.loop (rec0 .ready none)) = W1 := ⟨_, rfl⟩
  have hz1 : W1.heap.size = w.heap.size + 2 := by rw [← hW1]; simp
  have hL1 : W1.heap[w.heap.size + 1]? = some (.loop (rec0 .ready none)) := by
    rw [← hW1]; have := World.alloc_heap_new (w.alloc (.deferred (some []))) (.loop (rec0 .ready none)); rwa [World.size_alloc] at this
  have hK1 : W1.heap[w.heap.size]? = some (.deferred (some [])) := by
    rw [← hW1]; exact (Below.heap_alloc _ _ _ (by simp)).trans (World.alloc_heap_new w _)
  have hc1 : Ch [] w W1 := by rw [← hW1]; exact ((Ch.refl _ _).alloc _).alloc _
  have hI1 : J0 W1 := hJ0 _ _ h0 (hc1.mono (by simp))
  refine ⟨w.heap.size + 1, [{ target := .collected w.heap.size, args := #[] }], W1, { target := .fn (.func gf) lb, args := #[.func (.yield (w.heap.size + 1)) #[] #[]] }, W1, gf,
    #[.func (.yield (w.heap.size + 1)) #[] #[]] ++ lb, W1, ?_, ?_, ?_, ?_, fun _ => h1, ?_⟩
  · rw [← hW1]; exact run_enterLoop_outer _ _ _ _ _
  · simp only [resolve, hg]
    simp [go_sem]
  · intro f' hf'; simp [Target.leads] at hf'; subst hf'; exact hFg
  · simp [invoke, go_sem, eg]
  · refine (hseq (w.heap.size + 1) (fun W => w.heap.size + 2 ≤ W.heap.size ∧ W.heap[w.heap.size + 1]? = some (.loop (rec0 .ready none)) ∧ W.heap[w.heap.size]? = some (.deferred (some [])))
      (fun W => w.heap.size + 2 ≤ W.heap.size ∧ W.heap[w.heap.size]? = some (.deferred (some [])))
      (fun A A' L hs hc hL => ⟨Nat.le_trans hs.1 hc.size, (hc.block _ (by have := hs.1; omega) (fun hin => (hL _ hin).2 rfl)).trans hs.2.1, (hc.block _ (by have := hs.1; omega) (fun hin => (hL _ hin).1 rfl)).trans hs.2.2⟩)
      (fun A hA => hA.1) ?_ W1 hI1 ⟨by omega, hL1, hK1⟩).mono ?_
    · rintro x W hi ⟨hz, hl, hk⟩
      have hlt : w.heap.size + 1 < W.heap.size := by omega
      refine ⟨f₀, _, assign, body, run_yield (P := P) (args := encs x) hl (hps x), roundIn_of_wpIn_P hf₀ hfn (hassign _ x W _ ⟨_, run_beginRound hl rfl, ?_⟩)⟩
      have hl2 : (W.putObj (w.heap.size + 1) (.loop (rec0 .busy none))).heap[w.heap.size + 1]? = some (.loop (rec0 .busy none)) := World.putObj_heap_same hlt
      have hk2 : (W.putObj (w.heap.size + 1) (.loop (rec0 .busy none))).heap[w.heap.size]? = some (.deferred (some [])) := (World.putObj_heap_other (by omega)).trans hk
      refine wpIn_mono (hbody _ x _ (hK _ _ _ hi (ch_put (by simp))) (by simp; omega)) ?_
      rintro e a3 W3 (⟨rfl, ⟨hb0, hb1⟩, hi3⟩ | ⟨c, rfl, hd, ⟨hb0, hb1⟩, hi3⟩)
      · have hl3 := hb1.trans hl2
        have hlt3 := (Array.getElem?_eq_some_iff.1 hl3).1
        exact ⟨_, _, run_endRound (P := P) none hl3, .inl ⟨rfl, hJ _ _ _ hi3 (ch_put (by simp)), by simp; omega, World.putObj_heap_same hlt3, (World.putObj_heap_other (by omega)).trans (hb0.trans hk2)⟩⟩
      · have hl3 := hb1.trans hl2
        have hlt3 := (Array.getElem?_eq_some_iff.1 hl3).1
        exact ⟨hd, .inr ⟨c, rfl, hi3, by omega, hb0.trans hk2⟩⟩
    · rintro e W2 (⟨⟨v, rfl⟩, hi, hz, hl, hk⟩ | ⟨c, rfl, hi, hz, hk⟩)
      · exact ⟨none, _, run_endLoop (P := P) hl (by simp [rec0]), hdone _ (hD _ _ hi (ch_put (by simp))) ((World.putObj_heap_other (by omega)).trans hk) (by simp; omega)⟩
      · exact hpan c _ hi hk hz
end
end Go
namespace Go.Proofs.YtkedpifopclipaaGreat
open Go.RowKit Go.Mem Go.Aig
def fitEnc (p : Nat × Nat) : Array Value := #[.int .i64 p.1, .int .i64 p.2]
end Go.Proofs.YtkedpifopclipaaGreat
namespace Go.Aig
end Go.Aig
namespace Go.Proofs.YtkedpifopclipaaGreat
open Go.RowKit Go.Mem Go.Aig
attribute [local go_sem] Oper.semAt_some
section
variable {w : World} {g m : Nat} {G : Gra} {F : List Nat}
end
end Go.Proofs.YtkedpifopclipaaGreat
namespace Go.Aig
/-- the elements of a list with their numbers, the last one first -/
def bwd (l : List Nat) : List (Nat × Nat) := (List.range l.length).reverse.map fun i => (i, l.getD i 0)
theorem bwd_len (l : List Nat) : (bwd l).length = l.length := by simp [bwd]
theorem bwd_at {l : List Nat} {k j r : Nat} (hk : k + j + 1 = l.length) (hr : l[j]? = some r) : (bwd l)[k]? = some (j, r) := by
  unfold bwd
  rw [List.getElem?_map, List.getElem?_reverse (by simp; omega), List.length_range, List.getElem?_range (by omega), show l.length - 1 - k = j by omega]
  show some (j, l.getD j 0) = _
  rw [List.getD_eq_getElem?_getD, hr]
  rfl
end Go.Aig
namespace Go.Proofs.YtkedpifopclipaaGreat
open Go.RowKit Go.Mem Go.Aig
theorem fnvBwref1 : Fnv 87 := fnv_of Tryz.func87 (by simp [Tryz.f87]) (by simp [Tryz.f87])
set_option maxRecDepth 100000 in
set_option maxHeartbeats 1000000 in
theorem Bwref_is {w : World} (xa : Option Addr) (n xc : Nat) :
    Calls Tryz.prog 57 #[.slice xa n xc] w fun e w' => e = .returned (.func (.func 87) #[] #[.pointer (some ⟨w.heap.size, 0, none⟩)]) ∧ w' = w.alloc (.cells #[.slice xa n xc] 25) := by
  go_enter Tryz.func57, Tryz.ntmps57
  go_wp2_with fail
  go_ret
  exact ⟨rfl, rfl⟩
end Go.Proofs.YtkedpifopclipaaGreat
namespace Go.Aig
/-- after i swaps -/
def swappedG {α : Type} (l : List α) (i : Nat) (L : List α) : Prop := L.length = l.length ∧ ∀ p, p < l.length → L[p]? = if p < i ∨ l.length - i ≤ p then l[l.length - 1 - p]? else l[p]?
theorem swappedG_zero {α : Type} (l : List α) : swappedG l 0 l := ⟨rfl, fun p hp => by rw [if_neg (by omega)]⟩
theorem swappedG_done {α : Type} {l L : List α} {i : Nat} (h : swappedG l i L) (hi : l.length ≤ 2 * i + 1) : L = l.reverse := by
  apply List.ext_getElem?
  intro p
  by_cases hp : p < l.length
  · rw [h.2 p hp, List.getElem?_reverse hp]
    split
    · rfl
    · have : l.length - 1 - p = p := by omega
      rw [this]
  · rw [List.getElem?_eq_none (by rw [h.1]; omega), List.getElem?_eq_none (by simp; omega)]
theorem swappedG_step {α : Type} {l L : List α} {i : Nat} {x y : α} (h : swappedG l i L) (hi : 2 * i + 1 < l.length) (hx : L[i]? = some x) (hy : L[l.length - 1 - i]? = some y) :
    swappedG l (i + 1) ((L.set i y).set (l.length - 1 - i) x) := by
  refine ⟨by simp [h.1], fun p hp => ?_⟩
  have e1 := h.2 i (by omega)
  rw [if_neg (by omega), hx] at e1
  have e2 := h.2 (l.length - 1 - i) (by omega)
  rw [if_neg (by omega), hy] at e2
  by_cases h1 : p = l.length - 1 - i
  · subst h1
    rw [List.getElem?_set_self (by simp [h.1]; omega), if_pos (by omega)]
    rw [show l.length - 1 - (l.length - 1 - i) = i from by omega]; exact e1
  · rw [List.getElem?_set_ne (by omega)]
    by_cases h2 : p = i
    · subst h2
      rw [List.getElem?_set_self (by rw [h.1]; omega), if_pos (by omega)]; exact e2
    · rw [List.getElem?_set_ne (by omega), h.2 p hp]
      by_cases h3 : p < i ∨ l.length - i ≤ p
      · rw [if_pos h3, if_pos (by omega)]
      · rw [if_neg h3, if_neg (by omega)]
end Go.Aig
namespace Go.Proofs.YtkedpifopclipaaGreat
open Go.RowKit Go.Mem Go.Aig
section
variable {w : World}
set_option maxRecDepth 100000 in
set_option maxHeartbeats 1000000 in
theorem Revref_some {b n cap : Nat} {l : List Nat} (h : row w 53 1 (.slice (some ⟨b, 0, none⟩) n cap) n (refsCells l)) (hn : n ≤ 1000000) :
    Calls Tryz.prog 32 #[.slice (some ⟨b, 0, none⟩) n cap] w fun e w' => (∃ v, e = .returned v) ∧ row w' 53 1 (.slice (some ⟨b, 0, none⟩) n cap) n (refsCells l.reverse) ∧ Ch [b] w w' := by
  have hl : l.length = n := by have := h.1; simpa [refsCells] using this
  have H := Lib.hid h; clear h
  go_enter Tryz.func32, Tryz.ntmps32
  go_wp2_with fail
  go_loopw [2, 3] (fun i j wr => ∃ k : Nat, 2 * k ≤ n + 1 ∧ i = .int .i64 k ∧ j = .int .i64 ((n : Int) - 1 - k) ∧ (∃ L, swappedG l k L ∧ row wr 53 1 (.slice (some ⟨b, 0, none⟩) n cap) n (refsCells L)) ∧ Ch [b] w wr) (fun i _ _ => n - (intOf i).toNat)
  case atStart => exact ⟨0, by omega, rfl, by go_num, ⟨l, swappedG_zero l, H.out⟩, Ch.refl _ _⟩
  case round =>
    obtain ⟨k, hk, rfl, rfl, ⟨L, hL, hrow⟩, hc⟩ := hrel
    have HL := Lib.hid hL; clear hL
    have HR := Lib.hid hrow; clear hrow
    have HC := Lib.hid hc; clear hc
    by_cases hlt : 2 * k + 1 < n
    · have ej : (n : Int) - 1 - k = ((n - 1 - k : Nat) : Int) := by omega
      rw [ej]
      have hLl : L.length = n := by rw [HL.out.1, hl]
      have hx : L[k]? = some L[k] := List.getElem?_eq_getElem (by omega)
      have hy : L[n - 1 - k]? = some L[n - 1 - k] := List.getElem?_eq_getElem (by omega)
      generalize L[k] = x at hx
      generalize L[n - 1 - k] = y at hy
      have c1 : wr.cell? ⟨b, k, none⟩ = some (.int .i64 x) := by
        have := HR.out.cells (g := b) rfl k (.int .i64 x) (by simp [refsCells, hx])
        rw [Addr.add_lit] at this; simpa using this
      have c2 : wr.cell? ⟨b, n - 1 - k, none⟩ = some (.int .i64 y) := by
        have := HR.out.cells (g := b) rfl (n - 1 - k) (.int .i64 y) (by simp [refsCells, hy])
        rw [Addr.add_lit] at this; simpa using this
      have f0 : ∀ i, wr.frozen? ⟨b, i, none⟩ = false := fun i => by
        rcases HR.out.2 with ⟨e1, _⟩ | ⟨g, cap', cur, e1, h0, hg, _⟩
        · cases e1
        · cases e1; simp [World.frozen?, hg]
      have f1 := f0 k
      have f2 := f0 (n - 1 - k)
      have hne : ¬ n - 1 - k = k := by omega
      have hne' : ¬ k = n - 1 - k := by omega
      have hd : decide ((k : Int) < ((n - 1 - k : Nat) : Int)) = true := decide_eq_true (by omega)
      have hst := swappedG_step HL.out (by omega) hx (by rw [hl]; exact hy)
      have HST := Lib.hid hst; clear hst
      clear f0
      go_wp2_with fail
      refine Ord.St.door (fun _ => True) [.fl, .fl, .fl, .fl, .fl, .fl, .fl, .rd, .fl, .fl, .fl, .rd, .fl, .ef, .fl, .ef] [0, 0, 0, 0, 0, 0, 48, 112, 0, 0, 768, 1792, 4083, 8179, 16383, 32767] [0, 1, 2, 3, 4, 5, 6, 7, 8, 9, 10, 11, 12, 13, 14, 15] mixed (by kernel_rfl) rfl ?_
      refine Ord.St.fl2 (T' := ?_) 0 [1, 2, 3, 4, 5, 6, 7, 8, 9, 10, 11, 12, 13, 14, 15] _ _ rfl (by kernel_rfl) rfl rfl rfl rfl (fun K w' hk => ?_) ?_
      rotate_left
      · go_step; exact hk
      refine Ord.St.fl2 (T' := ?_) 1 [2, 3, 4, 5, 6, 7, 8, 9, 10, 11, 12, 13, 14, 15] _ _ rfl (by kernel_rfl) rfl rfl rfl rfl (fun K w' hk => ?_) ?_
      rotate_left
      · go_step; exact hk
      refine Ord.St.fl2 (T' := ?_) 2 [3, 4, 5, 6, 7, 8, 9, 10, 11, 12, 13, 14, 15] _ _ rfl (by kernel_rfl) rfl rfl rfl rfl (fun K w' hk => ?_) ?_
      rotate_left
      · go_step; exact hk
      refine Ord.St.fl2 (T' := ?_) 3 [4, 5, 6, 7, 8, 9, 10, 11, 12, 13, 14, 15] _ _ rfl (by kernel_rfl) rfl rfl rfl rfl (fun K w' hk => ?_) ?_
      rotate_left
      · go_step; exact hk
      refine Ord.St.fl2 (T' := ?_) 4 [5, 6, 7, 8, 9, 10, 11, 12, 13, 14, 15] _ _ rfl (by kernel_rfl) rfl rfl rfl rfl (fun K w' hk => ?_) ?_
      rotate_left
      · go_step; exact hk
      refine Ord.St.fl2 (T' := ?_) 5 [6, 7, 8, 9, 10, 11, 12, 13, 14, 15] _ _ rfl (by kernel_rfl) rfl rfl rfl rfl (fun K w' hk => ?_) ?_
      rotate_left
      · go_step; exact hk
      refine Ord.St.fl2 (T' := ?_) 6 [7, 8, 9, 10, 11, 12, 13, 14, 15] _ _ rfl (by kernel_rfl) rfl rfl rfl rfl (fun K w' hk => ?_) ?_
      rotate_left
      · go_step; exact hk
      refine Ord.St.rd2 (T' := ?_) 7 [8, 9, 10, 11, 12, 13, 14, 15] _ _ rfl (by kernel_rfl) rfl rfl rfl rfl (fun K hk => ?_) ?_
      rotate_left
      · go_step; exact hk
      refine Ord.St.fl2 (T' := ?_) 8 [9, 10, 11, 12, 13, 14, 15] _ _ rfl (by kernel_rfl) rfl rfl rfl rfl (fun K w' hk => ?_) ?_
      rotate_left
      · go_step; exact hk
      refine Ord.St.fl2 (T' := ?_) 9 [10, 11, 12, 13, 14, 15] _ _ rfl (by kernel_rfl) rfl rfl rfl rfl (fun K w' hk => ?_) ?_
      rotate_left
      · go_step; exact hk
      refine Ord.St.fl2 (T' := ?_) 10 [11, 12, 13, 14, 15] _ _ rfl (by kernel_rfl) rfl rfl rfl rfl (fun K w' hk => ?_) ?_
      rotate_left
      · go_step; exact hk
      refine Ord.St.rd2 (T' := ?_) 11 [12, 13, 14, 15] _ _ rfl (by kernel_rfl) rfl rfl rfl rfl (fun K hk => ?_) ?_
      rotate_left
      · go_step; exact hk
      refine Ord.St.fl2 (T' := ?_) 12 [13, 14, 15] _ _ rfl (by kernel_rfl) rfl rfl rfl rfl (fun K w' hk => ?_) ?_
      rotate_left
      · go_step; exact hk
      refine Ord.St.ef 13 [14, 15] _ rfl (by kernel_rfl) (fun K hK => ?_)
      go_wp2_with fail
      refine ⟨rfl, hK _ _ ?_⟩; clear hK K
      refine Ord.St.fl2 (T' := ?_) 14 [15] _ _ rfl (by kernel_rfl) rfl rfl rfl rfl (fun K w' hk => ?_) ?_
      rotate_left
      · go_step; exact hk
      refine Ord.St.ef 15 [] _ rfl (by kernel_rfl) (fun K hK => ?_)
      go_wp2_with fail
      refine ⟨rfl, hK _ _ ?_⟩; clear hK K
      refine Ord.St.nil ?_
      go_wp2_with fail
      go_roundw
      case rel =>
        refine ⟨k + 1, by omega, by go_num, by go_num, ⟨_, HST.out, ?_⟩, ((HC.out.setCell (by simp) _).setCell (by simp) _).drew⟩
        rw [hl]
        have := row.set (i := n - 1 - k) (row.set (i := k) HR.out (.int .i64 y)) (.int .i64 x)
        simp only [refsCells, List.map_set] at this ⊢
        exact this
      case measure => simp [intOf]; omega
    · have hd : decide ((k : Int) < (n : Int) - 1 - k) = false := decide_eq_false (by omega)
      go_wp2_with fail
      go_end0
      rw [← swappedG_done HL.out (by omega)]
      exact ⟨⟨_, rfl⟩, HR.out, HC.out⟩
end
set_option maxRecDepth 100000 in
set_option maxHeartbeats 2000000 in
/-- backward over a word: whatever the one to whom it is yielded does, until it panics -/
theorem Bw_mem {x : List Nat} {bx : Nat} {xa : Option Addr} {xc : Nat} (len : Nat) (hxl : x.length = len) (hlen : len ≤ 1000000) (I : Nat → World → Prop) (Pn : List PanicEntry → World → Prop)
    (hread : ∀ k W, I k W → W.cell? ⟨bx, 0, none⟩ = some (.slice xa len xc) ∧ Sl W xa (x.map fun (r : Nat) => (r : Int)))
    (N : Nat) (hN : 1 ≤ N) (lp : Nat)
    (hY : ∀ k i r W, (bwd x)[k]? = some (i, r) → I k W → YieldAt Fence.wide (N - 1) Tryz.prog lp (fitEnc (i, r)) W fun e W' => (e = .returned (.bool true) ∧ I (k + 1) W') ∨ (∃ c, e = .panicked c ∧ Pn c W'))
    (W : World) (h0 : I 0 W) :
    CallsIn Fence.wide N Tryz.prog 87 (#[.func (.yield lp) #[] #[]] ++ #[.pointer (some ⟨bx, 0, none⟩)]) W fun e W' => ((∃ v, e = .returned v) ∧ I len W') ∨ (∃ c, e = .panicked c ∧ Pn c W') := by
  subst hxl
  show CallsIn Fence.wide N Tryz.prog 87 #[.func (.yield lp) #[] #[], .pointer (some ⟨bx, 0, none⟩)] W _
  have b0 := (hread _ _ h0).1
  have HY := Lib.hid hY; clear hY
  have HR := Lib.hid hread; clear hread
  have H0 := Lib.hid h0; clear h0
  refine callsIn_of_wp Tryz.func87 rfl trivial ?_ rfl
  simp only [Tryz.ntmps87, List.size_toArray, List.length_cons, List.length_nil, Nat.reduceAdd, Nat.reduceSub, Array.replicate_succ, Array.replicate_zero, List.push_toArray, List.append_toArray, List.nil_append, List.cons_append]
  gi_wp2
  clear b0
  gi_loopw [3] (fun i wr => ∃ j : Nat, j ≤ x.length ∧ i = .int .i64 ((j : Int) - 1) ∧ I (x.length - j) wr) (fun i _ => (intOf i + 1).toNat)
  case atStart => exact ⟨x.length, Nat.le_refl _, rfl, by rw [Nat.sub_self]; exact H0.out⟩
  case round =>
    obtain ⟨j, hj, rfl, hjj⟩ := hrel
    by_cases hlt : j = 0
    · subst hlt
      have HJ1 := Lib.hid hjj; clear hjj
      gi_wp2
      go_end0
      exact .inl ⟨⟨_, rfl⟩, HJ1.out⟩
    · obtain ⟨i, rfl⟩ : ∃ i, j = i + 1 := ⟨j - 1, by omega⟩
      have ei : ((i + 1 : Nat) : Int) - 1 = (i : Int) := by omega
      rw [ei]
      obtain ⟨r, hr⟩ : ∃ r, x[i]? = some r := ⟨_, List.getElem?_eq_getElem (by omega)⟩
      obtain ⟨e0, hsl⟩ := HR.out _ _ hjj
      obtain ⟨xb, xo, rfl, d0⟩ := hsl.cells i (r : Int) (by simp [hr])
      have hz : (bwd x)[x.length - (i + 1)]? = some (i, r) := bwd_at (by omega) hr
      obtain ⟨fn, tmps, assign, body, hy1, hR⟩ := HY.out _ i r _ hz hjj
      simp only [fitEnc] at hy1
      rw [show x.length - (i + 1) + 1 = x.length - i by omega] at hR
      have hge : decide ((i : Int) ≥ 0) = true := decide_eq_true (by omega)
      have HJ1 := Lib.hid hjj; clear hjj
      clear hr hz ei hlt hsl
      gi_wp2
      refine hR.mono ?_
      rintro e W2 (⟨rfl, hJ2⟩ | ⟨c, rfl, hP⟩)
      · have HJ2 := Lib.hid hJ2; clear hJ2
        gi_wp2
        go_roundw
        case rel => exact ⟨i, by omega, by go_num, HJ2.out⟩
        case measure => simp [intOf]
      · have HP := Lib.hid hP; clear hP
        gi_wp2
        exact ⟨rfl, .inr ⟨c, rfl, HP.out⟩⟩
end Go.Proofs.YtkedpifopclipaaGreat
namespace Go.Aig
/-- one more bit of the quotient: what is left, with one more bit of the first word; whether the second word fits in; what is left then -/
def divL (d : List Nat) (q : Mk × List Nat × List Nat) (b : Nat) : Mk × Nat := rstep q.1 (leR q.1.1 d (b :: q.2.2.dropLast))
def divD (d : List Nat) (q : Mk × List Nat × List Nat) (b : Nat) : Mk × List Nat := wstep (divL d q b).1 (subR (divL d q b).1.1 (b :: q.2.2.dropLast) d)
def divM (d : List Nat) (q : Mk × List Nat × List Nat) (b : Nat) : Mk × List Nat := chF (divL d q b).2 (divD d q b).1 ((divD d q b).2.zip (b :: q.2.2.dropLast))
def divS (d : List Nat) (q : Mk × List Nat × List Nat) (b : Nat) : Mk × List Nat × List Nat := ((divM d q b).1, q.2.1 ++ [(divL d q b).2], (divM d q b).2)
def divF (d : List Nat) (s : Mk) (l : List Nat) : Mk × List Nat × List Nat := l.foldl (divS d) (s, [], List.replicate d.length 0)
theorem divF_snoc (d : List Nat) (s : Mk) (l : List Nat) (b : Nat) : divF d s (l ++ [b]) = divS d (divF d s l) b := by unfold divF; rw [List.foldl_append]; rfl
theorem chF_keep (c : Nat) {s : Mk} (h : s.2 ≠ 0) (l : List (Nat × Nat)) : (chF c s l).1 = s := chF_bad c s [] h l
theorem divL_bad (d : List Nat) (q : Mk × List Nat × List Nat) (b : Nat) (h : q.1.2 ≠ 0) : (divL d q b).1 = q.1 := by unfold divL; rw [rstep_bad h]
theorem divD_bad (d : List Nat) (q : Mk × List Nat × List Nat) (b : Nat) (h : (divL d q b).1.2 ≠ 0) : (divD d q b).1 = (divL d q b).1 := by unfold divD; rw [wstep_bad h]
theorem divM_bad (d : List Nat) (q : Mk × List Nat × List Nat) (b : Nat) (h : (divD d q b).1.2 ≠ 0) : (divM d q b).1 = (divD d q b).1 := by unfold divM; exact chF_keep _ h _
theorem divS_bad (d : List Nat) (q : Mk × List Nat × List Nat) (b : Nat) (h : q.1.2 ≠ 0) : (divS d q b).1 = q.1 := by
  show (divM d q b).1 = q.1
  have h1 := divL_bad d q b h
  have h2 := divD_bad d q b (by rw [h1]; exact h)
  rw [divM_bad d q b (by rw [h2, h1]; exact h), h2, h1]
theorem divF_bad (d : List Nat) (s : Mk) (l m : List Nat) (h : (divF d s l).1.2 ≠ 0) : (divF d s (l ++ m)).1 = (divF d s l).1 := by
  induction m generalizing l with
  | nil => rw [List.append_nil]
  | cons b m ih =>
    have e : (divF d s (l ++ [b])).1 = (divF d s l).1 := by rw [divF_snoc]; exact divS_bad _ _ _ h
    rw [show l ++ b :: m = (l ++ [b]) ++ m by simp, ih (l ++ [b]) (by rw [e]; exact h), e]
section
variable {d : List Nat} {s : Mk} {l : List Nat} {k b : Nat} (hb : l[k]? = some b)
include hb
theorem divF_next : divF d s (l.take (k + 1)) = divS d (divF d s (l.take k)) b := by
  rw [List.take_add_one, hb, Option.toList_some, divF_snoc]
theorem divF_stop {e : Nat} (h0 : e ≠ 0) (h : (divS d (divF d s (l.take k)) b).1.2 = e) : (divF d s l).1.2 = e := by
  have h1 := divF_next (d := d) (s := s) hb
  have h2 := divF_bad d s (l.take (k + 1)) (l.drop (k + 1)) (by rw [h1, h]; exact h0)
  rw [List.take_append_drop] at h2
  rw [h2, h1, h]
theorem divF_stopL {e : Nat} (h0 : e ≠ 0) (h : (divL d (divF d s (l.take k)) b).1.2 = e) : (divF d s l).1.2 = e := by
  refine divF_stop hb h0 ?_
  show (divM d (divF d s (l.take k)) b).1.2 = e
  have h2 := divD_bad d (divF d s (l.take k)) b (by rw [h]; exact h0)
  rw [divM_bad d _ b (by rw [h2, h]; exact h0), h2, h]
theorem divF_stopD {e : Nat} (h0 : e ≠ 0) (h : (divD d (divF d s (l.take k)) b).1.2 = e) : (divF d s l).1.2 = e := by
  refine divF_stop hb h0 ?_
  show (divM d (divF d s (l.take k)) b).1.2 = e
  rw [divM_bad d _ b (by rw [h]; exact h0), h]
end
end Go.Aig
namespace Go.Proofs.YtkedpifopclipaaGreat
open Go.RowKit Go.Mem Go.Aig
/-- the graph, and what the loop outside keeps: k rounds are done, its blocks are T; m are one's own blocks, B2 those of the loop inside -/
structure SX (w : World) (g : Nat) (F T0 : List Nat) (I : Nat → List Nat → World → Prop) (B2 : Nat) (m : List Nat) (W : World) (Gp : Gra) (F' T : List Nat) (k : Nat) : Prop where
  gin : GIn W g Gp F'
  ch : Ch (T0 ++ F) w W
  own : ∀ q ∈ F', (q ∈ F ∧ q < w.heap.size) ∨ w.heap.size + 2 ≤ q
  nb : ∀ q ∈ F', q < B2 ∨ B2 + 2 ≤ q
  f2 : F'[2]? = F[2]?
  it : I k T W
  tb : ∀ q ∈ T, ((q ∈ T0 ∧ q < w.heap.size) ∨ w.heap.size + 2 ≤ q) ∧ q ∉ F' ∧ (q < B2 ∨ B2 + 2 ≤ q) ∧ q < W.heap.size
  mine : ∀ q ∈ m, w.heap.size + 2 ≤ q ∧ q ∉ F' ∧ q ∉ T ∧ (q < B2 ∨ B2 + 2 ≤ q) ∧ q < W.heap.size
/-- what is asked of what the loop outside keeps -/
structure IOk (I : Nat → List Nat → World → Prop) : Prop where
  same : ∀ k T A A' L, I k T A → Ch L A A' → (∀ q ∈ L, q ∉ T) → I k T A'
section
variable {w : World} {g : Nat} {F T0 : List Nat} {I : Nat → List Nat → World → Prop} {B2 : Nat} {m : List Nat} {W : World} {Gp : Gra} {F' T : List Nat} {k : Nat}
theorem SX.to (h : SX w g F T0 I B2 m W Gp F' T k) (hI : IOk I) (hw : w.heap.size + 2 ≤ W.heap.size) (hB : B2 + 2 ≤ W.heap.size) {W' : World} {G1 : Gra} {F1 : List Nat} (a1 : GIn W' g G1 F1) (a2 : Ch F' W W') (a3 : ∀ k ∈ F1, k ∈ F' ∨ W.heap.size ≤ k) (a4 : F1[2]? = F'[2]?) : SX w g F T0 I B2 m W' G1 F1 T k := by
  have hs := a2.size
  refine ⟨a1, h.ch.trans a2 (fun q hq => ?_), fun q hq => (a3 q hq).elim (h.own q) (fun e => .inr (by omega)), fun q hq => (a3 q hq).elim (h.nb q) (fun e => .inr (by omega)), a4.trans h.f2, hI.same _ _ _ _ _ h.it a2 (fun q hq hT => (h.tb q hT).2.1 hq), fun q hq => ?_, fun q hq => ?_⟩
  · rcases h.own q hq with e | e
    · exact .inl (List.mem_append_right _ e.1)
    · exact .inr (by omega)
  · obtain ⟨b1, b2, b3, b4⟩ := h.tb q hq
    exact ⟨b1, fun hm => (a3 q hm).elim b2 (fun e => by omega), b3, by omega⟩
  · obtain ⟨b1, b2, b3, b4, b5⟩ := h.mine q hq
    exact ⟨b1, fun hm => (a3 q hm).elim b2 (fun e => by omega), b3, b4, by omega⟩
/-- what changes is one's own, or that of the loops -/
theorem SX.same (h : SX w g F T0 I B2 m W Gp F' T k) (hI : IOk I) {W' : World} {L : List Nat} (hc : Ch L W W') (hL : ∀ q ∈ L, w.heap.size ≤ q ∧ q ∉ F' ∧ q ∉ T) : SX w g F T0 I B2 m W' Gp F' T k :=
  ⟨h.gin.same hc (fun q hq hm => (hL q hm).2.1 hq), h.ch.trans hc (fun q hq => .inr (hL q hq).1), h.own, h.nb, h.f2, hI.same _ _ _ _ _ h.it hc (fun q hq => (hL q hq).2.2), fun q hq => by
    obtain ⟨b1, b2, b3, b4⟩ := h.tb q hq
    exact ⟨b1, b2, b3, by have := hc.size; omega⟩, fun q hq => by
    obtain ⟨b1, b2, b3, b4, b5⟩ := h.mine q hq
    exact ⟨b1, b2, b3, b4, by have := hc.size; omega⟩⟩
/-- a block that is new is one's own -/
theorem SX.add (h : SX w g F T0 I B2 m W Gp F' T k) {W0 : World} {b : Nat} (hF : ∀ q ∈ F', q < W0.heap.size) (hT : ∀ q ∈ T, q < W0.heap.size) (hb : W0.heap.size ≤ b) (hw : w.heap.size + 2 ≤ W0.heap.size) (hB : B2 + 2 ≤ W0.heap.size) (hl : b < W.heap.size) : SX w g F T0 I B2 (b :: m) W Gp F' T k :=
  ⟨h.gin, h.ch, h.own, h.nb, h.f2, h.it, h.tb, fun q hq => by
    rcases List.mem_cons.1 hq with rfl | hq
    · exact ⟨by omega, fun hm => by have := hF _ hm; omega, fun hm => by have := hT _ hm; omega, .inr (by omega), hl⟩
    · exact h.mine q hq⟩
theorem SX.sub (h : SX w g F T0 I B2 m W Gp F' T k) {m' : List Nat} (hm : ∀ q ∈ m', q ∈ m) : SX w g F T0 I B2 m' W Gp F' T k := ⟨h.gin, h.ch, h.own, h.nb, h.f2, h.it, h.tb, fun q hq => h.mine q (hm q hq)⟩
/-- behind a round of the loop outside -/
theorem SX.next (h : SX w g F T0 I B2 m W Gp F' T k) (hw : w.heap.size + 2 ≤ W.heap.size) (hB : B2 + 2 ≤ W.heap.size) {W' : World} {T' : List Nat} (hI : I (k + 1) T' W') (hc : Ch (w.heap.size :: (w.heap.size + 1) :: T) W W') (hT : ∀ q ∈ T', q ∈ T ∨ W.heap.size ≤ q) (hT2 : ∀ q ∈ T', q < W'.heap.size) : SX w g F T0 I B2 m W' Gp F' T' (k + 1) := by
  have hs := hc.size
  have hnF : ∀ q ∈ F', q ∉ w.heap.size :: (w.heap.size + 1) :: T := fun q hq hm => by
    simp only [List.mem_cons] at hm
    rcases hm with e | e | e
    · rcases h.own q hq with h1 | h1 <;> omega
    · rcases h.own q hq with h1 | h1 <;> omega
    · exact (h.tb q e).2.1 hq
  refine ⟨h.gin.same hc hnF, h.ch.trans hc (fun q hq => ?_), h.own, h.nb, h.f2, hI, fun q hq => ?_, fun q hq => ?_⟩
  · simp only [List.mem_cons] at hq
    rcases hq with e | e | e
    · exact .inr (by omega)
    · exact .inr (by omega)
    · rcases (h.tb q e).1 with h1 | h1
      · exact .inl (List.mem_append_left _ h1.1)
      · exact .inr (by omega)
  · rcases hT q hq with e | e
    · obtain ⟨b1, b2, b3, b4⟩ := h.tb q e
      exact ⟨b1, b2, b3, by omega⟩
    · exact ⟨.inr (by omega), fun hm => by have := h.gin.lt q hm; omega, .inr (by omega), hT2 q hq⟩
  · obtain ⟨b1, b2, b3, b4, b5⟩ := h.mine q hq
    exact ⟨b1, b2, fun hm => (hT q hm).elim b3 (fun e => by omega), b4, by omega⟩
/-- the state between two rounds, or within one: one's own cells, the second word with one more bit, what is left -/
structure SR (w : World) (g : Nat) (F T0 : List Nat) (I : Nat → List Nat → World → Prop) (X : World → Prop) (B2 : Nat) (b4 b5 b6 bb db dc : Nat) (yv bx : Value) (n : Nat) (d : List Nat) (W : World) (Gp : Gra) (F' T : List Nat) (k rb rc : Nat) (r : List Nat) : Prop where
  sx : SX w g F T0 I B2 [rb, b4, b5, b6, bb, db] W Gp F' T k
  c4 : blk W b4 [yv]
  c5 : blk W b5 [.slice (some ⟨db, 0, none⟩) (n + 1) dc]
  c6 : blk W b6 [.slice (some ⟨rb, 0, none⟩) (n + 1) rc]
  cb : blk W bb [bx]
  rd : row W 53 1 (.slice (some ⟨db, 0, none⟩) (n + 1) dc) (n + 1) (refsCells d)
  rr : row W 53 1 (.slice (some ⟨rb, 0, none⟩) (n + 1) rc) (n + 1) (refsCells r)
  ne : rb ≠ b4 ∧ rb ≠ b5 ∧ rb ≠ b6 ∧ rb ≠ bb ∧ rb ≠ db
  d6 : b6 ≠ b4 ∧ b6 ≠ b5 ∧ b6 ≠ bb ∧ b6 ≠ db
  xw : X W
  hw : w.heap.size + 2 ≤ W.heap.size
  hB : B2 + 2 ≤ W.heap.size
/-- what is asked of the loop outside's books -/
structure XOk (w : World) (X : World → Prop) : Prop where
  same : ∀ A A' L, X A → Ch L A A' → (∀ q ∈ L, q ≠ w.heap.size ∧ q ≠ w.heap.size + 1) → X A'
section
variable {X : World → Prop} {b4 b5 b6 bb db dc : Nat} {yv bx : Value} {n : Nat} {d : List Nat} {rb rc : Nat} {r : List Nat}
theorem SR.to2 (h : SR w g F T0 I X B2 b4 b5 b6 bb db dc yv bx n d W Gp F' T k rb rc r) (hI : IOk I) (hX : XOk w X) {W' : World} {G1 : Gra} {F1 : List Nat} (a1 : GIn W' g G1 F1) (hc : Ch F' W W') (a3 : ∀ k ∈ F1, k ∈ F' ∨ W.heap.size ≤ k) (a4 : F1[2]? = F'[2]?) : SR w g F T0 I X B2 b4 b5 b6 bb db dc yv bx n d W' G1 F1 T k rb rc r := by
  have h1 := h.sx.to hI h.hw h.hB a1 hc a3 a4
  have hs := hc.size
  have hm := fun q hq => (h.sx.mine q hq).2.1
  exact ⟨h1, h.c4.ch hc (hm _ (by simp)), h.c5.ch hc (hm _ (by simp)), h.c6.ch hc (hm _ (by simp)), h.cb.ch hc (hm _ (by simp)), h.rd.ch hc (fun q hq => by cases hq; exact hm _ (by simp)), h.rr.ch hc (fun q hq => by cases hq; exact hm _ (by simp)), h.ne, h.d6,
    hX.same _ _ _ h.xw hc (fun q hq => by rcases h.sx.own q hq with e | e <;> constructor <;> omega), by have := h.hw; omega, by have := h.hB; omega⟩
theorem SR.to (h : SR w g F T0 I X B2 b4 b5 b6 bb db dc yv bx n d W Gp F' T k rb rc r) (hI : IOk I) (hX : XOk w X) {W' : World} {G1 : Gra} (ht : GTo W g G1 F' W') : ∃ F1, SR w g F T0 I X B2 b4 b5 b6 bb db dc yv bx n d W' G1 F1 T k rb rc r := by
  obtain ⟨F1, a1, a2, a3, a4⟩ := ht
  exact ⟨F1, h.to2 hI hX a1 a2 a3 a4⟩
/-- a bit of what is left is laid -/
theorem SR.put (h : SR w g F T0 I X B2 b4 b5 b6 bb db dc yv bx n d W Gp F' T k rb rc r) (hI : IOk I) (hX : XOk w X) (j v : Nat) : SR w g F T0 I X B2 b4 b5 b6 bb db dc yv bx n d (W.setCell ⟨rb, j, none⟩ (.int .i64 v)) Gp F' T k rb rc (r.set j v) := by
  obtain ⟨m1, m2, m3, m4, m5⟩ := h.sx.mine rb (by simp)
  obtain ⟨n1, n2, n3, n4, n5⟩ := h.ne
  have hc : Ch [rb] W (W.setCell ⟨rb, j, none⟩ (.int .i64 v)) := (Ch.refl _ _).setCell (.inl (by simp)) _
  have e : refsCells (r.set j v) = (refsCells r).set j (.int .i64 v) := by unfold refsCells; rw [List.map_set]
  exact ⟨h.sx.same hI hc (fun q hq => by rw [List.mem_singleton.1 hq]; exact ⟨by omega, m2, m3⟩), h.c4.ch hc (by simpa using fun e => n1 e.symm), h.c5.ch hc (by simpa using fun e => n2 e.symm), h.c6.ch hc (by simpa using fun e => n3 e.symm), h.cb.ch hc (by simpa using fun e => n4 e.symm), h.rd.ch hc (fun q hq => by cases hq; simpa using fun e => n5 e.symm), by rw [e]; exact row.set h.rr _, h.ne, h.d6,
    hX.same _ _ _ h.xw hc (fun q hq => by rw [List.mem_singleton.1 hq]; constructor <;> omega), by have := h.hw; have := hc.size; omega, by have := h.hB; have := hc.size; omega⟩
/-- what changes is none of it -/
theorem SR.same (h : SR w g F T0 I X B2 b4 b5 b6 bb db dc yv bx n d W Gp F' T k rb rc r) (hI : IOk I) (hX : XOk w X) {W' : World} {L : List Nat} (hc : Ch L W W') (hL : ∀ q ∈ L, w.heap.size + 2 ≤ q ∧ q ∉ F' ∧ q ∉ T ∧ q ∉ [rb, b4, b5, b6, bb, db]) : SR w g F T0 I X B2 b4 b5 b6 bb db dc yv bx n d W' Gp F' T k rb rc r := by
  have hm : ∀ q ∈ [rb, b4, b5, b6, bb, db], q ∉ L := fun q hq hm => (hL q hm).2.2.2 hq
  exact ⟨h.sx.same hI hc (fun q hq => ⟨by have := (hL q hq).1; omega, (hL q hq).2.1, (hL q hq).2.2.1⟩), h.c4.ch hc (hm _ (by simp)), h.c5.ch hc (hm _ (by simp)), h.c6.ch hc (hm _ (by simp)), h.cb.ch hc (hm _ (by simp)), h.rd.ch hc (fun q hq => by cases hq; exact hm _ (by simp)), h.rr.ch hc (fun q hq => by cases hq; exact hm _ (by simp)), h.ne, h.d6,
    hX.same _ _ _ h.xw hc (fun q hq => by have := (hL q hq).1; constructor <;> omega), by have := h.hw; have := hc.size; omega, by have := h.hB; have := hc.size; omega⟩
theorem SR.books (h : SR w g F T0 I X B2 b4 b5 b6 bb db dc yv bx n d W Gp F' T k rb rc r) (hI : IOk I) (hX : XOk w X) (hb : w.heap.size + 2 ≤ B2) {W' : World} (hc : Ch [B2, B2 + 1] W W') : SR w g F T0 I X B2 b4 b5 b6 bb db dc yv bx n d W' Gp F' T k rb rc r := by
  refine h.same hI hX hc (fun q hq => ?_)
  have hq2 : q = B2 ∨ q = B2 + 1 := by simpa using hq
  refine ⟨by omega, fun hm => by have := h.sx.nb q hm; omega, fun hm => by have := (h.sx.tb q hm).2.2.1; omega, fun hm => by have := (h.sx.mine q hm).2.2.2.1; omega⟩
/-- behind a round of the loop outside -/
theorem SR.next (h : SR w g F T0 I X B2 b4 b5 b6 bb db dc yv bx n d W Gp F' T k rb rc r) {W' : World} {T' : List Nat} (hI : I (k + 1) T' W') (hc : Ch (w.heap.size :: (w.heap.size + 1) :: T) W W') (hT : ∀ q ∈ T', q ∈ T ∨ W.heap.size ≤ q) (hT2 : ∀ q ∈ T', q < W'.heap.size) (hX : X W') : SR w g F T0 I X B2 b4 b5 b6 bb db dc yv bx n d W' Gp F' T' (k + 1) rb rc r := by
  have hm : ∀ q ∈ [rb, b4, b5, b6, bb, db], q ∉ w.heap.size :: (w.heap.size + 1) :: T := fun q hq hm => by
    obtain ⟨m1, m2, m3, m4, m5⟩ := h.sx.mine q hq
    simp only [List.mem_cons] at hm
    rcases hm with e | e | e
    · omega
    · omega
    · exact m3 e
  exact ⟨h.sx.next h.hw h.hB hI hc hT hT2, h.c4.ch hc (hm _ (by simp)), h.c5.ch hc (hm _ (by simp)), h.c6.ch hc (hm _ (by simp)), h.cb.ch hc (hm _ (by simp)), h.rd.ch hc (fun q hq => by cases hq; exact hm _ (by simp)), h.rr.ch hc (fun q hq => by cases hq; exact hm _ (by simp)), h.ne, h.d6, hX, by have := h.hw; have := hc.size; omega, by have := h.hB; have := hc.size; omega⟩
/-- what is left moves to a new block, in its cell -/
theorem SR.move (h : SR w g F T0 I X B2 b4 b5 b6 bb db dc yv bx n d W Gp F' T k rb rc r) (hI : IOk I) (hX : XOk w X) {W1 W2 : World} (h1 : Ch [] W W1) {rb' rc' : Nat} {r' : List Nat} (hrow : row W1 53 1 (.slice (some ⟨rb', 0, none⟩) (n + 1) rc') (n + 1) (refsCells r')) (hn : W.heap.size ≤ rb')
    (h2 : W2 = W1.setCell ⟨b6, 0, none⟩ (.slice (some ⟨rb', 0, none⟩) (n + 1) rc')) : SR w g F T0 I X B2 b4 b5 b6 bb db dc yv bx n d W2 Gp F' T k rb' rc' r' := by
  obtain ⟨e1, e2, e3, e4⟩ := h.d6
  have m6 := h.sx.mine b6 (by simp)
  have hlt := fun q hq => (h.sx.mine q hq).2.2.2.2
  have hc2 : Ch [b6] W1 W2 := by rw [h2]; exact (Ch.refl _ _).setCell (.inl (by simp)) _
  have hs1 := h1.size
  have hs2 := hc2.size
  have hr1 : rb' < W1.heap.size := (hrow.lt _ rfl).2
  have hw := h.hw
  have hB := h.hB
  have l4 := hlt b4 (by simp)
  have l5 := hlt b5 (by simp)
  have l6 := hlt b6 (by simp)
  have lb := hlt bb (by simp)
  have ld := hlt db (by simp)
  have sx1 := h.sx.same hI h1 (by simp)
  have sx2 := sx1.same hI hc2 (fun q hq => by rw [List.mem_singleton.1 hq]; exact ⟨by omega, m6.2.1, m6.2.2.1⟩)
  have sx3 := (sx2.sub (m' := [b4, b5, b6, bb, db]) (by simp)).add (W0 := W) (b := rb') (fun q hq => h.sx.gin.lt q hq) (fun q hq => (h.sx.tb q hq).2.2.2) hn hw hB (by omega)
  refine ⟨sx3, (h.c4.ch h1 (by simp)).ch hc2 (by simpa using fun e => e1 e.symm), (h.c5.ch h1 (by simp)).ch hc2 (by simpa using fun e => e2 e.symm), ?_, (h.cb.ch h1 (by simp)).ch hc2 (by simpa using fun e => e3 e.symm), (h.rd.ch h1 (by simp)).ch hc2 (fun q hq => by cases hq; simpa using fun e => e4 e.symm), hrow.ch hc2 (fun q hq => by cases hq; simp; omega), ⟨by omega, by omega, by omega, by omega, by omega⟩, h.d6,
    hX.same _ _ _ (hX.same _ _ _ h.xw h1 (by simp)) hc2 (fun q hq => by rw [List.mem_singleton.1 hq]; constructor <;> omega), by omega, by omega⟩
  rw [h2]
  exact (h.c6.ch h1 (by simp)).set _
end
end
end Go.Proofs.YtkedpifopclipaaGreat
