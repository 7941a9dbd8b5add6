/-
  Walks over bitword: the table of the operations, what each does, Apply. Conditions: words in range, a width from 1 to 16.
  Walks over bitword: Name, what each operation does, Cut, Apply. Conditions: words in range, a width from 1 to 16.
  Words of many assignments at once, plainly: what the nodes of a graph are for the words of its inputs, bit by bit. No program in sight. Conditions: none beyond the hypotheses.
  Walks over small functions of the laws: words, value, pick. Conditions: slices that are read.
  Walks over Same and Begin of chapter 23's laws: two graphs that are the same, and such ones that are made. Conditions: none beyond the hypotheses.
  Walks over sim: of, nodes. Conditions: a graph in memory, as many words as inputs.
  Walks over sim: check, Words, Bits. Conditions: a graph in memory, references of any integers, words that can be read.
  Walk over sim: Bits. Conditions: a graph in memory, references of any integers, values that can be read.
  Walks over the closures of made (chapter 23's law): a result is noted; what is known while results are noted. Conditions: a graph in memory, words that are held.
  What is known while results are noted (made of chapter 23's law). Conditions: none beyond the hypotheses.
  Walk over made of chapter 23's law: what each operation makes of two words. Conditions: a graph in memory, words that are held.
  Of constants everything is a constant, plainly: what the operations of sums make of words of constants, and the numbers that these are. No program in sight. Conditions: none beyond the hypotheses.
  What made makes of two words of constants, plainly: constants, and the numbers that the operations say. No program in sight. Conditions: none beyond the hypotheses.
  Reads of words of constants, and SumsConsts' own closure. Conditions: a graph in memory, words of 1 to 16 bits.
  What SumsAgain asks, plainly: for words of one to five bits, by evaluation. No program in sight. Conditions: none.
  Walk over SumsConsts: true, whatever comes in. Conditions: words below 2^32, a width that is a byte.
-/
import Derived.Test.YtchledddgmbndaaGreatQD
import Derived.Test.YtchledddgmbndaaGreatQB
import Derived.Deep.WholeRow
import Derived.Laws.Bits64b
import Derived.Test.YtchledddgmbndaaGreatQC
import Derived.Test.YtchledddgmbndaaGreatQA
namespace Go.Aig
def neg32 (x : Nat) : Nat := (4294967296 - x) % 4294967296
def add32 (x y : Nat) : Nat := (x + y) % 4294967296
def sub32 (x y : Nat) : Nat := (x + 4294967296 - y) % 4294967296
/-- what an operation does of two words below a greatest one, before it is cut (three of its arms are handed in: the kernel must not open them) -/
def opW (f2 : Nat → Nat) (f3 f4 : Nat → Nat → Nat) (op x y m : Nat) : Nat := match op with
  | 1 => m - x
  | 2 => f2 x
  | 3 => f3 x y
  | 4 => f4 x y
  | 8 => x &&& y
  | 9 => x ||| y
  | 10 => x ^^^ y
  | 13 => (x == y).toNat
  | 14 => (!(x == y)).toNat
  | 15 => (decide (x < y)).toNat
  | 16 => (decide (x ≤ y)).toNat
  | _ => 0
def opV (op x y m : Nat) : Nat := opW neg32 add32 sub32 op x y m
theorem opW_1 (f2 : Nat → Nat) (f3 f4 : Nat → Nat → Nat) (x y m : Nat) : opW f2 f3 f4 1 x y m = m - x := rfl
theorem opW_2 (f2 : Nat → Nat) (f3 f4 : Nat → Nat → Nat) (x y m : Nat) : opW f2 f3 f4 2 x y m = f2 x := rfl
theorem opW_3 (f2 : Nat → Nat) (f3 f4 : Nat → Nat → Nat) (x y m : Nat) : opW f2 f3 f4 3 x y m = f3 x y := rfl
theorem opW_4 (f2 : Nat → Nat) (f3 f4 : Nat → Nat → Nat) (x y m : Nat) : opW f2 f3 f4 4 x y m = f4 x y := rfl
theorem opW_8 (f2 : Nat → Nat) (f3 f4 : Nat → Nat → Nat) (x y m : Nat) : opW f2 f3 f4 8 x y m = x &&& y := rfl
theorem opW_9 (f2 : Nat → Nat) (f3 f4 : Nat → Nat → Nat) (x y m : Nat) : opW f2 f3 f4 9 x y m = x ||| y := rfl
theorem opW_10 (f2 : Nat → Nat) (f3 f4 : Nat → Nat → Nat) (x y m : Nat) : opW f2 f3 f4 10 x y m = x ^^^ y := rfl
theorem opW_13 (f2 : Nat → Nat) (f3 f4 : Nat → Nat → Nat) (x y m : Nat) : opW f2 f3 f4 13 x y m = (x == y).toNat := rfl
theorem opW_14 (f2 : Nat → Nat) (f3 f4 : Nat → Nat → Nat) (x y m : Nat) : opW f2 f3 f4 14 x y m = (!(x == y)).toNat := rfl
theorem opW_15 (f2 : Nat → Nat) (f3 f4 : Nat → Nat → Nat) (x y m : Nat) : opW f2 f3 f4 15 x y m = (decide (x < y)).toNat := rfl
theorem opW_16 (f2 : Nat → Nat) (f3 f4 : Nat → Nat → Nat) (x y m : Nat) : opW f2 f3 f4 16 x y m = (decide (x ≤ y)).toNat := rfl
theorem opV_1 (x y m : Nat) : opV 1 x y m = m - x := opW_1 neg32 add32 sub32 x y m
theorem opV_2 (x y m : Nat) : opV 2 x y m = neg32 x := opW_2 neg32 add32 sub32 x y m
theorem opV_3 (x y m : Nat) : opV 3 x y m = add32 x y := opW_3 neg32 add32 sub32 x y m
theorem opV_4 (x y m : Nat) : opV 4 x y m = sub32 x y := opW_4 neg32 add32 sub32 x y m
theorem opV_8 (x y m : Nat) : opV 8 x y m = x &&& y := opW_8 neg32 add32 sub32 x y m
theorem opV_9 (x y m : Nat) : opV 9 x y m = x ||| y := opW_9 neg32 add32 sub32 x y m
theorem opV_10 (x y m : Nat) : opV 10 x y m = x ^^^ y := opW_10 neg32 add32 sub32 x y m
theorem opV_13 (x y m : Nat) : opV 13 x y m = (x == y).toNat := opW_13 neg32 add32 sub32 x y m
theorem opV_14 (x y m : Nat) : opV 14 x y m = (!(x == y)).toNat := opW_14 neg32 add32 sub32 x y m
theorem opV_15 (x y m : Nat) : opV 15 x y m = (decide (x < y)).toNat := opW_15 neg32 add32 sub32 x y m
theorem opV_16 (x y m : Nat) : opV 16 x y m = (decide (x ≤ y)).toNat := opW_16 neg32 add32 sub32 x y m
/-- what Apply returns -/
def applyV (op w x y : Nat) : Nat := opV op (x &&& (2 ^ w - 1)) (y &&& (2 ^ w - 1)) (2 ^ w - 1) &&& (2 ^ w - 1)
end Go.Aig
namespace Go.Proofs.YtchledddgmbndaaGreat
open Go.RowKit Go.Mem Go.Aig
def Stop (p : Prop) : Prop := p
theorem wpList_store_one {P : Program} {ops : Array Oper} {o : Oper} {a : Act} {w w' : World} {Q : Exit → Act → World → Prop} (t : TypeId) (p v : Operand) (vp vv : Value) (hg : o.guard = none) (ho : o.op = .store t p v)
    (h : (Instr.storeAt t vp vv).run P w = .ok () w') (hp : Stop (a.eval p = vp)) (hv : Stop (a.eval v = vv)) (hn : Stop (wpList P ops Q [] (a.put o.dst undef) w')) : wpList P ops Q [o] a w :=
  wpList_plain hg fun _ hK => by
    unfold Stop at hp hv hn
    unfold Oper.wp execOp
    simp only [ho, Sem.run_bind, Sem.run_pure, Result.andThen_ok, hp, hv, h]
    exact hK _ _ hn
section
variable {w : World}
set_option maxRecDepth 100000 in
set_option maxHeartbeats 4000000 in
theorem table_is : Calls Tryz.prog 55 #[] w fun e w' => e = .returned (.agg #[.string ⟨#[]⟩, .int .i64 0, .bool false, .nilFunc, .string ⟨#[126]⟩, .int .i64 0, .bool false, .func (.func 91) #[] #[], .string ⟨#[45]⟩, .int .i64 0, .bool false, .func (.func 92) #[] #[], .string ⟨#[43]⟩, .int .i64 5, .bool false, .func (.func 93) #[] #[], .string ⟨#[45]⟩, .int .i64 5, .bool false, .func (.func 94) #[] #[], .string ⟨#[42]⟩, .int .i64 6, .bool false, .func (.func 95) #[] #[], .string ⟨#[47]⟩, .int .i64 6, .bool false, .func (.func 96) #[] #[], .string ⟨#[37]⟩, .int .i64 6, .bool false, .func (.func 97) #[] #[], .string ⟨#[38]⟩, .int .i64 2, .bool false, .func (.func 98) #[] #[], .string ⟨#[124]⟩, .int .i64 1, .bool false, .func (.func 99) #[] #[], .string ⟨#[94]⟩, .int .i64 1, .bool false, .func (.func 100) #[] #[], .string ⟨#[60, 60]⟩, .int .i64 4, .bool false, .func (.func 101) #[] #[], .string ⟨#[62, 62]⟩, .int .i64 4, .bool false, .func (.func 102) #[] #[], .string ⟨#[61, 61]⟩, .int .i64 3, .bool true, .func (.func 103) #[] #[], .string ⟨#[33, 61]⟩, .int .i64 3, .bool true, .func (.func 105) #[] #[], .string ⟨#[60]⟩, .int .i64 3, .bool true, .func (.func 106) #[] #[], .string ⟨#[60, 61]⟩, .int .i64 3, .bool true, .func (.func 107) #[] #[]]) ∧ Ch [] w w' := by
  have hs1 := run_storeAt_new (P := Tryz.prog) w 105 Tryz.zeroCells105 #[.string ⟨#[]⟩, .int .i64 0, .bool false, .nilFunc, .string ⟨#[126]⟩, .int .i64 0, .bool false, .func (.func 91) #[] #[], .string ⟨#[45]⟩, .int .i64 0, .bool false, .func (.func 92) #[] #[], .string ⟨#[43]⟩, .int .i64 5, .bool false, .func (.func 93) #[] #[], .string ⟨#[45]⟩, .int .i64 5, .bool false, .func (.func 94) #[] #[], .string ⟨#[42]⟩, .int .i64 6, .bool false, .func (.func 95) #[] #[], .string ⟨#[47]⟩, .int .i64 6, .bool false, .func (.func 96) #[] #[], .string ⟨#[37]⟩, .int .i64 6, .bool false, .func (.func 97) #[] #[], .string ⟨#[38]⟩, .int .i64 2, .bool false, .func (.func 98) #[] #[], .string ⟨#[124]⟩, .int .i64 1, .bool false, .func (.func 99) #[] #[], .string ⟨#[94]⟩, .int .i64 1, .bool false, .func (.func 100) #[] #[], .string ⟨#[60, 60]⟩, .int .i64 4, .bool false, .func (.func 101) #[] #[], .string ⟨#[62, 62]⟩, .int .i64 4, .bool false, .func (.func 102) #[] #[], .string ⟨#[61, 61]⟩, .int .i64 3, .bool true, .func (.func 103) #[] #[], .string ⟨#[33, 61]⟩, .int .i64 3, .bool true, .func (.func 105) #[] #[], .string ⟨#[60]⟩, .int .i64 3, .bool true, .func (.func 106) #[] #[], .string ⟨#[60, 61]⟩, .int .i64 3, .bool true, .func (.func 107) #[] #[]] (by kernel_rfl) (by kernel_rfl) (by kernel_rfl)
  go_enter Tryz.func55, Tryz.ntmps55
  go_wp2_with (refine wpList_store_one 105 (.tmp 0) (.tmp 18) _ _ rfl rfl hs1 ?_ ?_ ?_)
  · unfold Stop
    exact trivial
  · unfold Stop
    kernel_rfl
  · unfold Stop
    go_wp2_with fail
    exact bodyPost_ret (results_cell_row (d := .array 17 104) rfl _ _ w.heap.size 105 #[.string ⟨#[]⟩, .int .i64 0, .bool false, .nilFunc, .string ⟨#[126]⟩, .int .i64 0, .bool false, .func (.func 91) #[] #[], .string ⟨#[45]⟩, .int .i64 0, .bool false, .func (.func 92) #[] #[], .string ⟨#[43]⟩, .int .i64 5, .bool false, .func (.func 93) #[] #[], .string ⟨#[45]⟩, .int .i64 5, .bool false, .func (.func 94) #[] #[], .string ⟨#[42]⟩, .int .i64 6, .bool false, .func (.func 95) #[] #[], .string ⟨#[47]⟩, .int .i64 6, .bool false, .func (.func 96) #[] #[], .string ⟨#[37]⟩, .int .i64 6, .bool false, .func (.func 97) #[] #[], .string ⟨#[38]⟩, .int .i64 2, .bool false, .func (.func 98) #[] #[], .string ⟨#[124]⟩, .int .i64 1, .bool false, .func (.func 99) #[] #[], .string ⟨#[94]⟩, .int .i64 1, .bool false, .func (.func 100) #[] #[], .string ⟨#[60, 60]⟩, .int .i64 4, .bool false, .func (.func 101) #[] #[], .string ⟨#[62, 62]⟩, .int .i64 4, .bool false, .func (.func 102) #[] #[], .string ⟨#[61, 61]⟩, .int .i64 3, .bool true, .func (.func 103) #[] #[], .string ⟨#[33, 61]⟩, .int .i64 3, .bool true, .func (.func 105) #[] #[], .string ⟨#[60]⟩, .int .i64 3, .bool true, .func (.func 106) #[] #[], .string ⟨#[60, 61]⟩, .int .i64 3, .bool true, .func (.func 107) #[] #[]] (0, 0) (by kernel_rfl) (heap_alloc_last w _) (by kernel_rfl) rfl (by kernel_rfl)) rfl ⟨rfl, (Ch.refl _ w).alloc _⟩
end
end Go.Proofs.YtchledddgmbndaaGreat
namespace Go.Proofs.YtchledddgmbndaaGreat
open Go.RowKit Go.Mem Go.Aig
section
variable {w : World}
def TabC : Array Value := #[.string ⟨#[]⟩, .int .i64 0, .bool false, .nilFunc, .string ⟨#[126]⟩, .int .i64 0, .bool false, .func (.func 91) #[] #[], .string ⟨#[45]⟩, .int .i64 0, .bool false, .func (.func 92) #[] #[], .string ⟨#[43]⟩, .int .i64 5, .bool false, .func (.func 93) #[] #[], .string ⟨#[45]⟩, .int .i64 5, .bool false, .func (.func 94) #[] #[], .string ⟨#[42]⟩, .int .i64 6, .bool false, .func (.func 95) #[] #[], .string ⟨#[47]⟩, .int .i64 6, .bool false, .func (.func 96) #[] #[], .string ⟨#[37]⟩, .int .i64 6, .bool false, .func (.func 97) #[] #[], .string ⟨#[38]⟩, .int .i64 2, .bool false, .func (.func 98) #[] #[], .string ⟨#[124]⟩, .int .i64 1, .bool false, .func (.func 99) #[] #[], .string ⟨#[94]⟩, .int .i64 1, .bool false, .func (.func 100) #[] #[], .string ⟨#[60, 60]⟩, .int .i64 4, .bool false, .func (.func 101) #[] #[], .string ⟨#[62, 62]⟩, .int .i64 4, .bool false, .func (.func 102) #[] #[], .string ⟨#[61, 61]⟩, .int .i64 3, .bool true, .func (.func 103) #[] #[], .string ⟨#[33, 61]⟩, .int .i64 3, .bool true, .func (.func 105) #[] #[], .string ⟨#[60]⟩, .int .i64 3, .bool true, .func (.func 106) #[] #[], .string ⟨#[60, 61]⟩, .int .i64 3, .bool true, .func (.func 107) #[] #[]]
theorem frozen_alloc (w : World) (c : Array Value) (t : TypeId) (j : Nat) : (w.alloc (.cells c t)).frozen? ⟨w.heap.size, j, none⟩ = false := by
  simp only [World.frozen?]
  rw [heap_alloc_last]
  simp
set_option maxRecDepth 100000 in
set_option maxHeartbeats 4000000 in
theorem bName_is (k : Nat) (v : Value) (hk : k < 17) (hx : TabC[k * 4]? = some v) : Calls Tryz.prog 53 #[.int .u8 k] w fun e w' => e = .returned v ∧ Ch [] w w' := by
  have hk1 : ¬ ((17 : Int) ≤ (k : Int)) := by omega
  have hk2 : ¬ (17 ≤ k) := by omega
  have hk3 : ((k : Int)) < 17 := by omega
  go_enter Tryz.func53, Tryz.ntmps53
  go_wp2_with fail
  refine table_is.mono ?_
  rintro e w1 ⟨rfl, h1⟩
  have hs1 := run_storeAt_new (P := Tryz.prog) w1 105 Tryz.zeroCells105 #[.string ⟨#[]⟩, .int .i64 0, .bool false, .nilFunc, .string ⟨#[126]⟩, .int .i64 0, .bool false, .func (.func 91) #[] #[], .string ⟨#[45]⟩, .int .i64 0, .bool false, .func (.func 92) #[] #[], .string ⟨#[43]⟩, .int .i64 5, .bool false, .func (.func 93) #[] #[], .string ⟨#[45]⟩, .int .i64 5, .bool false, .func (.func 94) #[] #[], .string ⟨#[42]⟩, .int .i64 6, .bool false, .func (.func 95) #[] #[], .string ⟨#[47]⟩, .int .i64 6, .bool false, .func (.func 96) #[] #[], .string ⟨#[37]⟩, .int .i64 6, .bool false, .func (.func 97) #[] #[], .string ⟨#[38]⟩, .int .i64 2, .bool false, .func (.func 98) #[] #[], .string ⟨#[124]⟩, .int .i64 1, .bool false, .func (.func 99) #[] #[], .string ⟨#[94]⟩, .int .i64 1, .bool false, .func (.func 100) #[] #[], .string ⟨#[60, 60]⟩, .int .i64 4, .bool false, .func (.func 101) #[] #[], .string ⟨#[62, 62]⟩, .int .i64 4, .bool false, .func (.func 102) #[] #[], .string ⟨#[61, 61]⟩, .int .i64 3, .bool true, .func (.func 103) #[] #[], .string ⟨#[33, 61]⟩, .int .i64 3, .bool true, .func (.func 105) #[] #[], .string ⟨#[60]⟩, .int .i64 3, .bool true, .func (.func 106) #[] #[], .string ⟨#[60, 61]⟩, .int .i64 3, .bool true, .func (.func 107) #[] #[]] (by kernel_rfl) (by kernel_rfl) (by kernel_rfl)
  go_wp2_with (refine wpList_store_one 105 (.tmp 3) (.tmp 4) _ _ rfl rfl hs1 ?_ ?_ ?_)
  · unfold Stop
    rfl
  · unfold Stop
    rfl
  · unfold Stop
    have hf : (w1.alloc (.cells #[.string ⟨#[]⟩, .int .i64 0, .bool false, .nilFunc, .string ⟨#[126]⟩, .int .i64 0, .bool false, .func (.func 91) #[] #[], .string ⟨#[45]⟩, .int .i64 0, .bool false, .func (.func 92) #[] #[], .string ⟨#[43]⟩, .int .i64 5, .bool false, .func (.func 93) #[] #[], .string ⟨#[45]⟩, .int .i64 5, .bool false, .func (.func 94) #[] #[], .string ⟨#[42]⟩, .int .i64 6, .bool false, .func (.func 95) #[] #[], .string ⟨#[47]⟩, .int .i64 6, .bool false, .func (.func 96) #[] #[], .string ⟨#[37]⟩, .int .i64 6, .bool false, .func (.func 97) #[] #[], .string ⟨#[38]⟩, .int .i64 2, .bool false, .func (.func 98) #[] #[], .string ⟨#[124]⟩, .int .i64 1, .bool false, .func (.func 99) #[] #[], .string ⟨#[94]⟩, .int .i64 1, .bool false, .func (.func 100) #[] #[], .string ⟨#[60, 60]⟩, .int .i64 4, .bool false, .func (.func 101) #[] #[], .string ⟨#[62, 62]⟩, .int .i64 4, .bool false, .func (.func 102) #[] #[], .string ⟨#[61, 61]⟩, .int .i64 3, .bool true, .func (.func 103) #[] #[], .string ⟨#[33, 61]⟩, .int .i64 3, .bool true, .func (.func 105) #[] #[], .string ⟨#[60]⟩, .int .i64 3, .bool true, .func (.func 106) #[] #[], .string ⟨#[60, 61]⟩, .int .i64 3, .bool true, .func (.func 107) #[] #[]] 105)).frozen? ⟨w1.heap.size, k * 4, none⟩ = false := frozen_alloc _ _ _ _
    have hc : (w1.alloc (.cells #[.string ⟨#[]⟩, .int .i64 0, .bool false, .nilFunc, .string ⟨#[126]⟩, .int .i64 0, .bool false, .func (.func 91) #[] #[], .string ⟨#[45]⟩, .int .i64 0, .bool false, .func (.func 92) #[] #[], .string ⟨#[43]⟩, .int .i64 5, .bool false, .func (.func 93) #[] #[], .string ⟨#[45]⟩, .int .i64 5, .bool false, .func (.func 94) #[] #[], .string ⟨#[42]⟩, .int .i64 6, .bool false, .func (.func 95) #[] #[], .string ⟨#[47]⟩, .int .i64 6, .bool false, .func (.func 96) #[] #[], .string ⟨#[37]⟩, .int .i64 6, .bool false, .func (.func 97) #[] #[], .string ⟨#[38]⟩, .int .i64 2, .bool false, .func (.func 98) #[] #[], .string ⟨#[124]⟩, .int .i64 1, .bool false, .func (.func 99) #[] #[], .string ⟨#[94]⟩, .int .i64 1, .bool false, .func (.func 100) #[] #[], .string ⟨#[60, 60]⟩, .int .i64 4, .bool false, .func (.func 101) #[] #[], .string ⟨#[62, 62]⟩, .int .i64 4, .bool false, .func (.func 102) #[] #[], .string ⟨#[61, 61]⟩, .int .i64 3, .bool true, .func (.func 103) #[] #[], .string ⟨#[33, 61]⟩, .int .i64 3, .bool true, .func (.func 105) #[] #[], .string ⟨#[60]⟩, .int .i64 3, .bool true, .func (.func 106) #[] #[], .string ⟨#[60, 61]⟩, .int .i64 3, .bool true, .func (.func 107) #[] #[]] 105)).cell? ⟨w1.heap.size, k * 4, none⟩ = some v := (cell_of_row _ _ (k * 4) _ 105 (0, 0) (heap_alloc_last w1 (.cells TabC 105))).trans hx
    go_wp2_with fail
    go_ret
    exact ⟨rfl, h1.alloc _⟩
theorem bt1_is (x y m : Nat) (hx : x ≤ m) (_hy : y ≤ m) (hm : m < 65536) : Calls Tryz.prog 91 #[.int .u32 x, .int .u32 y, .int .u32 m] w fun e w' => e = .returned (.int .u32 (opV 1 x y m : Nat)) ∧ w = w' := by
  go_enter Tryz.func91, Tryz.ntmps91
  go_wp2_with fail
  go_ret
  refine ⟨?_, rfl⟩
  have e : ((m : Int) - (x : Int)) = ((opV 1 x y m : Nat) : Int) := by
    rw [opV_1]; omega
  show Ending.returned (.int .u32 ((m : Int) - (x : Int))) = _
  rw [e]
theorem bt2_is (x y m : Nat) (hx : x ≤ m) (_hy : y ≤ m) (hm : m < 65536) : Calls Tryz.prog 92 #[.int .u32 x, .int .u32 y, .int .u32 m] w fun e w' => e = .returned (.int .u32 (opV 2 x y m : Nat)) ∧ w = w' := by
  go_enter Tryz.func92, Tryz.ntmps92
  go_wp2_with fail
  go_ret
  refine ⟨?_, rfl⟩
  have e : (-(x : Int) % 4294967296) = ((opV 2 x y m : Nat) : Int) := by
    rw [opV_2]; unfold neg32; omega
  show Ending.returned (.int .u32 (-(x : Int) % 4294967296)) = _
  rw [e]
theorem bt3_is (x y m : Nat) (hx : x ≤ m) (hy : y ≤ m) (hm : m < 65536) : Calls Tryz.prog 93 #[.int .u32 x, .int .u32 y, .int .u32 m] w fun e w' => e = .returned (.int .u32 (opV 3 x y m : Nat)) ∧ w = w' := by
  go_enter Tryz.func93, Tryz.ntmps93
  go_wp2_with fail
  go_ret
  refine ⟨?_, rfl⟩
  have e : ((x : Int) + (y : Int)) = ((opV 3 x y m : Nat) : Int) := by
    rw [opV_3]; unfold add32; omega
  show Ending.returned (.int .u32 ((x : Int) + (y : Int))) = _
  rw [e]
theorem bt4_is (x y m : Nat) (hx : x ≤ m) (hy : y ≤ m) (hm : m < 65536) : Calls Tryz.prog 94 #[.int .u32 x, .int .u32 y, .int .u32 m] w fun e w' => e = .returned (.int .u32 (opV 4 x y m : Nat)) ∧ w = w' := by
  go_enter Tryz.func94, Tryz.ntmps94
  go_wp2_with fail
  go_ret
  refine ⟨?_, rfl⟩
  have e : (((x : Int) - (y : Int)) % 4294967296) = ((opV 4 x y m : Nat) : Int) := by
    rw [opV_4]; unfold sub32; omega
  show Ending.returned (.int .u32 (((x : Int) - (y : Int)) % 4294967296)) = _
  rw [e]
theorem bt8_is (x y m : Nat) (hx : x ≤ m) (hy : y ≤ m) (hm : m < 65536) : Calls Tryz.prog 98 #[.int .u32 x, .int .u32 y, .int .u32 m] w fun e w' => e = .returned (.int .u32 (opV 8 x y m : Nat)) ∧ w = w' := by
  go_enter Tryz.func98, Tryz.ntmps98
  go_wp2_with fail
  go_ret
  refine ⟨?_, rfl⟩
  have e : (bits BinOp.and IntKind.u32 (x : Int) (y : Int)) = ((opV 8 x y m : Nat) : Int) := by
    exact u32_and_nat x y (by omega) (by omega)
  show Ending.returned (.int .u32 (bits BinOp.and IntKind.u32 (x : Int) (y : Int))) = _
  rw [e]
theorem bt9_is (x y m : Nat) (hx : x ≤ m) (hy : y ≤ m) (hm : m < 65536) : Calls Tryz.prog 99 #[.int .u32 x, .int .u32 y, .int .u32 m] w fun e w' => e = .returned (.int .u32 (opV 9 x y m : Nat)) ∧ w = w' := by
  go_enter Tryz.func99, Tryz.ntmps99
  go_wp2_with fail
  go_ret
  refine ⟨?_, rfl⟩
  have e : (bits BinOp.or IntKind.u32 (x : Int) (y : Int)) = ((opV 9 x y m : Nat) : Int) := by
    exact u32_or_nat x y (by omega) (by omega)
  show Ending.returned (.int .u32 (bits BinOp.or IntKind.u32 (x : Int) (y : Int))) = _
  rw [e]
theorem bt10_is (x y m : Nat) (hx : x ≤ m) (hy : y ≤ m) (hm : m < 65536) : Calls Tryz.prog 100 #[.int .u32 x, .int .u32 y, .int .u32 m] w fun e w' => e = .returned (.int .u32 (opV 10 x y m : Nat)) ∧ w = w' := by
  go_enter Tryz.func100, Tryz.ntmps100
  go_wp2_with fail
  go_ret
  refine ⟨?_, rfl⟩
  have e : (bits BinOp.xor IntKind.u32 (x : Int) (y : Int)) = ((opV 10 x y m : Nat) : Int) := by
    exact u32_xor_nat x y (by omega) (by omega)
  show Ending.returned (.int .u32 (bits BinOp.xor IntKind.u32 (x : Int) (y : Int))) = _
  rw [e]
theorem bt13_is (x y m : Nat) (_hx : x ≤ m) (_hy : y ≤ m) (_hm : m < 65536) : Calls Tryz.prog 103 #[.int .u32 x, .int .u32 y, .int .u32 m] w fun e w' => e = .returned (.int .u32 (opV 13 x y m : Nat)) ∧ w = w' := by
  have HT := btruth_is (w := w) (x == y)
  have HT2 := btruth_is (w := w) ((x : Int) == (y : Int))
  have heq : ((x : Int) == (y : Int)) = (x == y) := by rw [Bool.eq_iff_iff]; simp <;> omega
  go_enter Tryz.func103, Tryz.ntmps103
  go_wp2_with fail
  first | refine HT.mono ?_ | refine HT2.mono ?_
  rintro e w' ⟨rfl, rfl⟩
  go_wp2_with fail
  go_ret
  refine ⟨?_, rfl⟩
  first | rfl | (rw [← heq]; rfl)
theorem bt14_is (x y m : Nat) (_hx : x ≤ m) (_hy : y ≤ m) (_hm : m < 65536) : Calls Tryz.prog 105 #[.int .u32 x, .int .u32 y, .int .u32 m] w fun e w' => e = .returned (.int .u32 (opV 14 x y m : Nat)) ∧ w = w' := by
  have HT := btruth_is (w := w) (!(x == y))
  have HT2 := btruth_is (w := w) ((x : Int) != (y : Int))
  have heq : ((x : Int) != (y : Int)) = (!(x == y)) := by rw [Bool.eq_iff_iff]; simp <;> omega
  go_enter Tryz.func105, Tryz.ntmps105
  go_wp2_with fail
  first | refine HT.mono ?_ | refine HT2.mono ?_
  rintro e w' ⟨rfl, rfl⟩
  go_wp2_with fail
  go_ret
  refine ⟨?_, rfl⟩
  first | rfl | (rw [← heq]; rfl)
theorem bt15_is (x y m : Nat) (_hx : x ≤ m) (_hy : y ≤ m) (_hm : m < 65536) : Calls Tryz.prog 106 #[.int .u32 x, .int .u32 y, .int .u32 m] w fun e w' => e = .returned (.int .u32 (opV 15 x y m : Nat)) ∧ w = w' := by
  have HT := btruth_is (w := w) (decide (x < y))
  have HT2 := btruth_is (w := w) (decide ((x : Int) < (y : Int)))
  have heq : (decide ((x : Int) < (y : Int))) = (decide (x < y)) := by rw [Bool.eq_iff_iff]; simp <;> omega
  go_enter Tryz.func106, Tryz.ntmps106
  go_wp2_with fail
  first | refine HT.mono ?_ | refine HT2.mono ?_
  rintro e w' ⟨rfl, rfl⟩
  go_wp2_with fail
  go_ret
  refine ⟨?_, rfl⟩
  first | rfl | (rw [← heq]; rfl)
theorem bt16_is (x y m : Nat) (_hx : x ≤ m) (_hy : y ≤ m) (_hm : m < 65536) : Calls Tryz.prog 107 #[.int .u32 x, .int .u32 y, .int .u32 m] w fun e w' => e = .returned (.int .u32 (opV 16 x y m : Nat)) ∧ w = w' := by
  have HT := btruth_is (w := w) (decide (x ≤ y))
  have HT2 := btruth_is (w := w) (decide ((x : Int) ≤ (y : Int)))
  have heq : (decide ((x : Int) ≤ (y : Int))) = (decide (x ≤ y)) := by rw [Bool.eq_iff_iff]; simp <;> omega
  go_enter Tryz.func107, Tryz.ntmps107
  go_wp2_with fail
  first | refine HT.mono ?_ | refine HT2.mono ?_
  rintro e w' ⟨rfl, rfl⟩
  go_wp2_with fail
  go_ret
  refine ⟨?_, rfl⟩
  first | rfl | (rw [← heq]; rfl)
set_option maxRecDepth 100000 in
set_option maxHeartbeats 4000000 in
theorem bCut_is (x n : Nat) (hx : x < 4294967296) (h1 : 1 ≤ n) (h16 : n ≤ 16) : Calls Tryz.prog 18 #[.int .u32 x, .int .i64 n] w fun e w' => e = .returned (.tuple #[.int .u32 (x &&& (2 ^ n - 1) : Nat), .int .i64 0]) ∧ w = w' := by
  have h3 : 2 ^ n ≤ 2 ^ 16 := Nat.pow_le_pow_right (by omega) h16
  have HM := Most_is (w := w) n h1 h16
  have hu := u32_and_nat x (2 ^ n - 1) hx (by omega)
  generalize hm : 2 ^ n - 1 = m at *
  go_enter Tryz.func18, Tryz.ntmps18
  go_wp2_with fail
  refine HM.mono ?_
  rintro e w' ⟨rfl, rfl⟩
  go_wp2_with fail
  go_ret2
  exact ⟨rfl, rfl⟩
set_option maxRecDepth 100000 in
set_option maxHeartbeats 4000000 in
theorem bApply1_is (x y n : Nat) (hx : x < 4294967296) (hy : y < 4294967296) (h1 : 1 ≤ n) (h16 : n ≤ 16) : Calls Tryz.prog 14 #[.int .u8 1, .int .i64 n, .int .u32 x, .int .u32 y] w fun e w' => e = .returned (.tuple #[.int .u32 (applyV 1 n x y : Nat), .int .i64 0]) ∧ Ch [] w w' := by
  have h3 : 2 ^ n ≤ 2 ^ 16 := Nat.pow_le_pow_right (by omega) h16
  have HN := bName_is (w := w) 1 (.string ⟨#[126]⟩) (by omega) rfl
  have HM := fun w => Most_is (w := w) n h1 h16
  unfold applyV
  generalize hm : 2 ^ n - 1 = m at *
  have hm16 : m < 65536 := by omega
  have hux := u32_and_nat x m hx (by omega)
  have huy := u32_and_nat y m hy (by omega)
  have hXm : x &&& m ≤ m := Nat.and_le_right
  have hYm : y &&& m ≤ m := Nat.and_le_right
  generalize hX : x &&& m = X at *
  generalize hY : y &&& m = Y at *
  have HB := fun w => bt1_is (w := w) X Y m hXm hYm hm16
  have hv : opV 1 X Y m < 4294967296 := by rw [opV_1]; omega
  have huv := u32_and_nat (opV 1 X Y m) m hv (by omega)
  generalize opV 1 X Y m = v at *
  go_enter Tryz.func14, Tryz.ntmps14
  go_wp2_with fail
  refine HN.mono ?_
  rintro e w1 ⟨rfl, hw1⟩
  go_wp2_with fail
  refine (HM w1).mono ?_
  rintro e w2 ⟨rfl, rfl⟩
  go_wp2_with fail
  refine table_is.mono ?_
  rintro e w3 ⟨rfl, hw3⟩
  have hix : ∀ w, (Instr.index 105 (.agg #[.string ⟨#[]⟩, .int .i64 0, .bool false, .nilFunc, .string ⟨#[126]⟩, .int .i64 0, .bool false, .func (.func 91) #[] #[], .string ⟨#[45]⟩, .int .i64 0, .bool false, .func (.func 92) #[] #[], .string ⟨#[43]⟩, .int .i64 5, .bool false, .func (.func 93) #[] #[], .string ⟨#[45]⟩, .int .i64 5, .bool false, .func (.func 94) #[] #[], .string ⟨#[42]⟩, .int .i64 6, .bool false, .func (.func 95) #[] #[], .string ⟨#[47]⟩, .int .i64 6, .bool false, .func (.func 96) #[] #[], .string ⟨#[37]⟩, .int .i64 6, .bool false, .func (.func 97) #[] #[], .string ⟨#[38]⟩, .int .i64 2, .bool false, .func (.func 98) #[] #[], .string ⟨#[124]⟩, .int .i64 1, .bool false, .func (.func 99) #[] #[], .string ⟨#[94]⟩, .int .i64 1, .bool false, .func (.func 100) #[] #[], .string ⟨#[60, 60]⟩, .int .i64 4, .bool false, .func (.func 101) #[] #[], .string ⟨#[62, 62]⟩, .int .i64 4, .bool false, .func (.func 102) #[] #[], .string ⟨#[61, 61]⟩, .int .i64 3, .bool true, .func (.func 103) #[] #[], .string ⟨#[33, 61]⟩, .int .i64 3, .bool true, .func (.func 105) #[] #[], .string ⟨#[60]⟩, .int .i64 3, .bool true, .func (.func 106) #[] #[], .string ⟨#[60, 61]⟩, .int .i64 3, .bool true, .func (.func 107) #[] #[]]) (.int .u8 1)).run Tryz.prog w = .ok (.agg #[.string ⟨#[126]⟩, .int .i64 0, .bool false, .func (.func 91) #[] #[]]) w := fun w => by first | kernel_rfl | rfl
  have hfl : ∀ w, (Instr.field 104 (.agg #[.string ⟨#[126]⟩, .int .i64 0, .bool false, .func (.func 91) #[] #[]]) 3).run Tryz.prog w = .ok (.func (.func 91) #[] #[]) w := fun w => by first | kernel_rfl | rfl
  go_wp2_with fail
  refine (HB w3).mono ?_
  rintro e w4 ⟨rfl, rfl⟩
  go_wp2_with fail
  go_ret2
  exact ⟨rfl, hw1.trans hw3 (by simp)⟩
set_option maxRecDepth 100000 in
set_option maxHeartbeats 4000000 in
theorem bApply2_is (x y n : Nat) (hx : x < 4294967296) (hy : y < 4294967296) (h1 : 1 ≤ n) (h16 : n ≤ 16) : Calls Tryz.prog 14 #[.int .u8 2, .int .i64 n, .int .u32 x, .int .u32 y] w fun e w' => e = .returned (.tuple #[.int .u32 (applyV 2 n x y : Nat), .int .i64 0]) ∧ Ch [] w w' := by
  have h3 : 2 ^ n ≤ 2 ^ 16 := Nat.pow_le_pow_right (by omega) h16
  have HN := bName_is (w := w) 2 (.string ⟨#[45]⟩) (by omega) rfl
  have HM := fun w => Most_is (w := w) n h1 h16
  unfold applyV
  generalize hm : 2 ^ n - 1 = m at *
  have hm16 : m < 65536 := by omega
  have hux := u32_and_nat x m hx (by omega)
  have huy := u32_and_nat y m hy (by omega)
  have hXm : x &&& m ≤ m := Nat.and_le_right
  have hYm : y &&& m ≤ m := Nat.and_le_right
  generalize hX : x &&& m = X at *
  generalize hY : y &&& m = Y at *
  have HB := fun w => bt2_is (w := w) X Y m hXm hYm hm16
  have hv : opV 2 X Y m < 4294967296 := by rw [opV_2]; unfold neg32; omega
  have huv := u32_and_nat (opV 2 X Y m) m hv (by omega)
  generalize opV 2 X Y m = v at *
  go_enter Tryz.func14, Tryz.ntmps14
  go_wp2_with fail
  refine HN.mono ?_
  rintro e w1 ⟨rfl, hw1⟩
  go_wp2_with fail
  refine (HM w1).mono ?_
  rintro e w2 ⟨rfl, rfl⟩
  go_wp2_with fail
  refine table_is.mono ?_
  rintro e w3 ⟨rfl, hw3⟩
  have hix : ∀ w, (Instr.index 105 (.agg #[.string ⟨#[]⟩, .int .i64 0, .bool false, .nilFunc, .string ⟨#[126]⟩, .int .i64 0, .bool false, .func (.func 91) #[] #[], .string ⟨#[45]⟩, .int .i64 0, .bool false, .func (.func 92) #[] #[], .string ⟨#[43]⟩, .int .i64 5, .bool false, .func (.func 93) #[] #[], .string ⟨#[45]⟩, .int .i64 5, .bool false, .func (.func 94) #[] #[], .string ⟨#[42]⟩, .int .i64 6, .bool false, .func (.func 95) #[] #[], .string ⟨#[47]⟩, .int .i64 6, .bool false, .func (.func 96) #[] #[], .string ⟨#[37]⟩, .int .i64 6, .bool false, .func (.func 97) #[] #[], .string ⟨#[38]⟩, .int .i64 2, .bool false, .func (.func 98) #[] #[], .string ⟨#[124]⟩, .int .i64 1, .bool false, .func (.func 99) #[] #[], .string ⟨#[94]⟩, .int .i64 1, .bool false, .func (.func 100) #[] #[], .string ⟨#[60, 60]⟩, .int .i64 4, .bool false, .func (.func 101) #[] #[], .string ⟨#[62, 62]⟩, .int .i64 4, .bool false, .func (.func 102) #[] #[], .string ⟨#[61, 61]⟩, .int .i64 3, .bool true, .func (.func 103) #[] #[], .string ⟨#[33, 61]⟩, .int .i64 3, .bool true, .func (.func 105) #[] #[], .string ⟨#[60]⟩, .int .i64 3, .bool true, .func (.func 106) #[] #[], .string ⟨#[60, 61]⟩, .int .i64 3, .bool true, .func (.func 107) #[] #[]]) (.int .u8 2)).run Tryz.prog w = .ok (.agg #[.string ⟨#[45]⟩, .int .i64 0, .bool false, .func (.func 92) #[] #[]]) w := fun w => by first | kernel_rfl | rfl
  have hfl : ∀ w, (Instr.field 104 (.agg #[.string ⟨#[45]⟩, .int .i64 0, .bool false, .func (.func 92) #[] #[]]) 3).run Tryz.prog w = .ok (.func (.func 92) #[] #[]) w := fun w => by first | kernel_rfl | rfl
  go_wp2_with fail
  refine (HB w3).mono ?_
  rintro e w4 ⟨rfl, rfl⟩
  go_wp2_with fail
  go_ret2
  exact ⟨rfl, hw1.trans hw3 (by simp)⟩
set_option maxRecDepth 100000 in
set_option maxHeartbeats 4000000 in
theorem bApply3_is (x y n : Nat) (hx : x < 4294967296) (hy : y < 4294967296) (h1 : 1 ≤ n) (h16 : n ≤ 16) : Calls Tryz.prog 14 #[.int .u8 3, .int .i64 n, .int .u32 x, .int .u32 y] w fun e w' => e = .returned (.tuple #[.int .u32 (applyV 3 n x y : Nat), .int .i64 0]) ∧ Ch [] w w' := by
  have h3 : 2 ^ n ≤ 2 ^ 16 := Nat.pow_le_pow_right (by omega) h16
  have HN := bName_is (w := w) 3 (.string ⟨#[43]⟩) (by omega) rfl
  have HM := fun w => Most_is (w := w) n h1 h16
  unfold applyV
  generalize hm : 2 ^ n - 1 = m at *
  have hm16 : m < 65536 := by omega
  have hux := u32_and_nat x m hx (by omega)
  have huy := u32_and_nat y m hy (by omega)
  have hXm : x &&& m ≤ m := Nat.and_le_right
  have hYm : y &&& m ≤ m := Nat.and_le_right
  generalize hX : x &&& m = X at *
  generalize hY : y &&& m = Y at *
  have HB := fun w => bt3_is (w := w) X Y m hXm hYm hm16
  have hv : opV 3 X Y m < 4294967296 := by rw [opV_3]; unfold add32; omega
  have huv := u32_and_nat (opV 3 X Y m) m hv (by omega)
  generalize opV 3 X Y m = v at *
  go_enter Tryz.func14, Tryz.ntmps14
  go_wp2_with fail
  refine HN.mono ?_
  rintro e w1 ⟨rfl, hw1⟩
  go_wp2_with fail
  refine (HM w1).mono ?_
  rintro e w2 ⟨rfl, rfl⟩
  go_wp2_with fail
  refine table_is.mono ?_
  rintro e w3 ⟨rfl, hw3⟩
  have hix : ∀ w, (Instr.index 105 (.agg #[.string ⟨#[]⟩, .int .i64 0, .bool false, .nilFunc, .string ⟨#[126]⟩, .int .i64 0, .bool false, .func (.func 91) #[] #[], .string ⟨#[45]⟩, .int .i64 0, .bool false, .func (.func 92) #[] #[], .string ⟨#[43]⟩, .int .i64 5, .bool false, .func (.func 93) #[] #[], .string ⟨#[45]⟩, .int .i64 5, .bool false, .func (.func 94) #[] #[], .string ⟨#[42]⟩, .int .i64 6, .bool false, .func (.func 95) #[] #[], .string ⟨#[47]⟩, .int .i64 6, .bool false, .func (.func 96) #[] #[], .string ⟨#[37]⟩, .int .i64 6, .bool false, .func (.func 97) #[] #[], .string ⟨#[38]⟩, .int .i64 2, .bool false, .func (.func 98) #[] #[], .string ⟨#[124]⟩, .int .i64 1, .bool false, .func (.func 99) #[] #[], .string ⟨#[94]⟩, .int .i64 1, .bool false, .func (.func 100) #[] #[], .string ⟨#[60, 60]⟩, .int .i64 4, .bool false, .func (.func 101) #[] #[], .string ⟨#[62, 62]⟩, .int .i64 4, .bool false, .func (.func 102) #[] #[], .string ⟨#[61, 61]⟩, .int .i64 3, .bool true, .func (.func 103) #[] #[], .string ⟨#[33, 61]⟩, .int .i64 3, .bool true, .func (.func 105) #[] #[], .string ⟨#[60]⟩, .int .i64 3, .bool true, .func (.func 106) #[] #[], .string ⟨#[60, 61]⟩, .int .i64 3, .bool true, .func (.func 107) #[] #[]]) (.int .u8 3)).run Tryz.prog w = .ok (.agg #[.string ⟨#[43]⟩, .int .i64 5, .bool false, .func (.func 93) #[] #[]]) w := fun w => by first | kernel_rfl | rfl
  have hfl : ∀ w, (Instr.field 104 (.agg #[.string ⟨#[43]⟩, .int .i64 5, .bool false, .func (.func 93) #[] #[]]) 3).run Tryz.prog w = .ok (.func (.func 93) #[] #[]) w := fun w => by first | kernel_rfl | rfl
  go_wp2_with fail
  refine (HB w3).mono ?_
  rintro e w4 ⟨rfl, rfl⟩
  go_wp2_with fail
  go_ret2
  exact ⟨rfl, hw1.trans hw3 (by simp)⟩
set_option maxRecDepth 100000 in
set_option maxHeartbeats 4000000 in
theorem bApply4_is (x y n : Nat) (hx : x < 4294967296) (hy : y < 4294967296) (h1 : 1 ≤ n) (h16 : n ≤ 16) : Calls Tryz.prog 14 #[.int .u8 4, .int .i64 n, .int .u32 x, .int .u32 y] w fun e w' => e = .returned (.tuple #[.int .u32 (applyV 4 n x y : Nat), .int .i64 0]) ∧ Ch [] w w' := by
  have h3 : 2 ^ n ≤ 2 ^ 16 := Nat.pow_le_pow_right (by omega) h16
  have HN := bName_is (w := w) 4 (.string ⟨#[45]⟩) (by omega) rfl
  have HM := fun w => Most_is (w := w) n h1 h16
  unfold applyV
  generalize hm : 2 ^ n - 1 = m at *
  have hm16 : m < 65536 := by omega
  have hux := u32_and_nat x m hx (by omega)
  have huy := u32_and_nat y m hy (by omega)
  have hXm : x &&& m ≤ m := Nat.and_le_right
  have hYm : y &&& m ≤ m := Nat.and_le_right
  generalize hX : x &&& m = X at *
  generalize hY : y &&& m = Y at *
  have HB := fun w => bt4_is (w := w) X Y m hXm hYm hm16
  have hv : opV 4 X Y m < 4294967296 := by rw [opV_4]; unfold sub32; omega
  have huv := u32_and_nat (opV 4 X Y m) m hv (by omega)
  generalize opV 4 X Y m = v at *
  go_enter Tryz.func14, Tryz.ntmps14
  go_wp2_with fail
  refine HN.mono ?_
  rintro e w1 ⟨rfl, hw1⟩
  go_wp2_with fail
  refine (HM w1).mono ?_
  rintro e w2 ⟨rfl, rfl⟩
  go_wp2_with fail
  refine table_is.mono ?_
  rintro e w3 ⟨rfl, hw3⟩
  have hix : ∀ w, (Instr.index 105 (.agg #[.string ⟨#[]⟩, .int .i64 0, .bool false, .nilFunc, .string ⟨#[126]⟩, .int .i64 0, .bool false, .func (.func 91) #[] #[], .string ⟨#[45]⟩, .int .i64 0, .bool false, .func (.func 92) #[] #[], .string ⟨#[43]⟩, .int .i64 5, .bool false, .func (.func 93) #[] #[], .string ⟨#[45]⟩, .int .i64 5, .bool false, .func (.func 94) #[] #[], .string ⟨#[42]⟩, .int .i64 6, .bool false, .func (.func 95) #[] #[], .string ⟨#[47]⟩, .int .i64 6, .bool false, .func (.func 96) #[] #[], .string ⟨#[37]⟩, .int .i64 6, .bool false, .func (.func 97) #[] #[], .string ⟨#[38]⟩, .int .i64 2, .bool false, .func (.func 98) #[] #[], .string ⟨#[124]⟩, .int .i64 1, .bool false, .func (.func 99) #[] #[], .string ⟨#[94]⟩, .int .i64 1, .bool false, .func (.func 100) #[] #[], .string ⟨#[60, 60]⟩, .int .i64 4, .bool false, .func (.func 101) #[] #[], .string ⟨#[62, 62]⟩, .int .i64 4, .bool false, .func (.func 102) #[] #[], .string ⟨#[61, 61]⟩, .int .i64 3, .bool true, .func (.func 103) #[] #[], .string ⟨#[33, 61]⟩, .int .i64 3, .bool true, .func (.func 105) #[] #[], .string ⟨#[60]⟩, .int .i64 3, .bool true, .func (.func 106) #[] #[], .string ⟨#[60, 61]⟩, .int .i64 3, .bool true, .func (.func 107) #[] #[]]) (.int .u8 4)).run Tryz.prog w = .ok (.agg #[.string ⟨#[45]⟩, .int .i64 5, .bool false, .func (.func 94) #[] #[]]) w := fun w => by first | kernel_rfl | rfl
  have hfl : ∀ w, (Instr.field 104 (.agg #[.string ⟨#[45]⟩, .int .i64 5, .bool false, .func (.func 94) #[] #[]]) 3).run Tryz.prog w = .ok (.func (.func 94) #[] #[]) w := fun w => by first | kernel_rfl | rfl
  go_wp2_with fail
  refine (HB w3).mono ?_
  rintro e w4 ⟨rfl, rfl⟩
  go_wp2_with fail
  go_ret2
  exact ⟨rfl, hw1.trans hw3 (by simp)⟩
set_option maxRecDepth 100000 in
set_option maxHeartbeats 4000000 in
theorem bApply8_is (x y n : Nat) (hx : x < 4294967296) (hy : y < 4294967296) (h1 : 1 ≤ n) (h16 : n ≤ 16) : Calls Tryz.prog 14 #[.int .u8 8, .int .i64 n, .int .u32 x, .int .u32 y] w fun e w' => e = .returned (.tuple #[.int .u32 (applyV 8 n x y : Nat), .int .i64 0]) ∧ Ch [] w w' := by
  have h3 : 2 ^ n ≤ 2 ^ 16 := Nat.pow_le_pow_right (by omega) h16
  have HN := bName_is (w := w) 8 (.string ⟨#[38]⟩) (by omega) rfl
  have HM := fun w => Most_is (w := w) n h1 h16
  unfold applyV
  generalize hm : 2 ^ n - 1 = m at *
  have hm16 : m < 65536 := by omega
  have hux := u32_and_nat x m hx (by omega)
  have huy := u32_and_nat y m hy (by omega)
  have hXm : x &&& m ≤ m := Nat.and_le_right
  have hYm : y &&& m ≤ m := Nat.and_le_right
  generalize hX : x &&& m = X at *
  generalize hY : y &&& m = Y at *
  have HB := fun w => bt8_is (w := w) X Y m hXm hYm hm16
  have hv : opV 8 X Y m < 4294967296 := by rw [opV_8]; exact Nat.lt_of_le_of_lt Nat.and_le_left (by omega)
  have huv := u32_and_nat (opV 8 X Y m) m hv (by omega)
  generalize opV 8 X Y m = v at *
  go_enter Tryz.func14, Tryz.ntmps14
  go_wp2_with fail
  refine HN.mono ?_
  rintro e w1 ⟨rfl, hw1⟩
  go_wp2_with fail
  refine (HM w1).mono ?_
  rintro e w2 ⟨rfl, rfl⟩
  go_wp2_with fail
  refine table_is.mono ?_
  rintro e w3 ⟨rfl, hw3⟩
  have hix : ∀ w, (Instr.index 105 (.agg #[.string ⟨#[]⟩, .int .i64 0, .bool false, .nilFunc, .string ⟨#[126]⟩, .int .i64 0, .bool false, .func (.func 91) #[] #[], .string ⟨#[45]⟩, .int .i64 0, .bool false, .func (.func 92) #[] #[], .string ⟨#[43]⟩, .int .i64 5, .bool false, .func (.func 93) #[] #[], .string ⟨#[45]⟩, .int .i64 5, .bool false, .func (.func 94) #[] #[], .string ⟨#[42]⟩, .int .i64 6, .bool false, .func (.func 95) #[] #[], .string ⟨#[47]⟩, .int .i64 6, .bool false, .func (.func 96) #[] #[], .string ⟨#[37]⟩, .int .i64 6, .bool false, .func (.func 97) #[] #[], .string ⟨#[38]⟩, .int .i64 2, .bool false, .func (.func 98) #[] #[], .string ⟨#[124]⟩, .int .i64 1, .bool false, .func (.func 99) #[] #[], .string ⟨#[94]⟩, .int .i64 1, .bool false, .func (.func 100) #[] #[], .string ⟨#[60, 60]⟩, .int .i64 4, .bool false, .func (.func 101) #[] #[], .string ⟨#[62, 62]⟩, .int .i64 4, .bool false, .func (.func 102) #[] #[], .string ⟨#[61, 61]⟩, .int .i64 3, .bool true, .func (.func 103) #[] #[], .string ⟨#[33, 61]⟩, .int .i64 3, .bool true, .func (.func 105) #[] #[], .string ⟨#[60]⟩, .int .i64 3, .bool true, .func (.func 106) #[] #[], .string ⟨#[60, 61]⟩, .int .i64 3, .bool true, .func (.func 107) #[] #[]]) (.int .u8 8)).run Tryz.prog w = .ok (.agg #[.string ⟨#[38]⟩, .int .i64 2, .bool false, .func (.func 98) #[] #[]]) w := fun w => by first | kernel_rfl | rfl
  have hfl : ∀ w, (Instr.field 104 (.agg #[.string ⟨#[38]⟩, .int .i64 2, .bool false, .func (.func 98) #[] #[]]) 3).run Tryz.prog w = .ok (.func (.func 98) #[] #[]) w := fun w => by first | kernel_rfl | rfl
  go_wp2_with fail
  refine (HB w3).mono ?_
  rintro e w4 ⟨rfl, rfl⟩
  go_wp2_with fail
  go_ret2
  exact ⟨rfl, hw1.trans hw3 (by simp)⟩
set_option maxRecDepth 100000 in
set_option maxHeartbeats 4000000 in
theorem bApply9_is (x y n : Nat) (hx : x < 4294967296) (hy : y < 4294967296) (h1 : 1 ≤ n) (h16 : n ≤ 16) : Calls Tryz.prog 14 #[.int .u8 9, .int .i64 n, .int .u32 x, .int .u32 y] w fun e w' => e = .returned (.tuple #[.int .u32 (applyV 9 n x y : Nat), .int .i64 0]) ∧ Ch [] w w' := by
  have h3 : 2 ^ n ≤ 2 ^ 16 := Nat.pow_le_pow_right (by omega) h16
  have HN := bName_is (w := w) 9 (.string ⟨#[124]⟩) (by omega) rfl
  have HM := fun w => Most_is (w := w) n h1 h16
  unfold applyV
  generalize hm : 2 ^ n - 1 = m at *
  have hm16 : m < 65536 := by omega
  have hux := u32_and_nat x m hx (by omega)
  have huy := u32_and_nat y m hy (by omega)
  have hXm : x &&& m ≤ m := Nat.and_le_right
  have hYm : y &&& m ≤ m := Nat.and_le_right
  generalize hX : x &&& m = X at *
  generalize hY : y &&& m = Y at *
  have HB := fun w => bt9_is (w := w) X Y m hXm hYm hm16
  have hv : opV 9 X Y m < 4294967296 := by rw [opV_9]; exact Nat.or_lt_two_pow (n := 32) (by omega) (by omega)
  have huv := u32_and_nat (opV 9 X Y m) m hv (by omega)
  generalize opV 9 X Y m = v at *
  go_enter Tryz.func14, Tryz.ntmps14
  go_wp2_with fail
  refine HN.mono ?_
  rintro e w1 ⟨rfl, hw1⟩
  go_wp2_with fail
  refine (HM w1).mono ?_
  rintro e w2 ⟨rfl, rfl⟩
  go_wp2_with fail
  refine table_is.mono ?_
  rintro e w3 ⟨rfl, hw3⟩
  have hix : ∀ w, (Instr.index 105 (.agg #[.string ⟨#[]⟩, .int .i64 0, .bool false, .nilFunc, .string ⟨#[126]⟩, .int .i64 0, .bool false, .func (.func 91) #[] #[], .string ⟨#[45]⟩, .int .i64 0, .bool false, .func (.func 92) #[] #[], .string ⟨#[43]⟩, .int .i64 5, .bool false, .func (.func 93) #[] #[], .string ⟨#[45]⟩, .int .i64 5, .bool false, .func (.func 94) #[] #[], .string ⟨#[42]⟩, .int .i64 6, .bool false, .func (.func 95) #[] #[], .string ⟨#[47]⟩, .int .i64 6, .bool false, .func (.func 96) #[] #[], .string ⟨#[37]⟩, .int .i64 6, .bool false, .func (.func 97) #[] #[], .string ⟨#[38]⟩, .int .i64 2, .bool false, .func (.func 98) #[] #[], .string ⟨#[124]⟩, .int .i64 1, .bool false, .func (.func 99) #[] #[], .string ⟨#[94]⟩, .int .i64 1, .bool false, .func (.func 100) #[] #[], .string ⟨#[60, 60]⟩, .int .i64 4, .bool false, .func (.func 101) #[] #[], .string ⟨#[62, 62]⟩, .int .i64 4, .bool false, .func (.func 102) #[] #[], .string ⟨#[61, 61]⟩, .int .i64 3, .bool true, .func (.func 103) #[] #[], .string ⟨#[33, 61]⟩, .int .i64 3, .bool true, .func (.func 105) #[] #[], .string ⟨#[60]⟩, .int .i64 3, .bool true, .func (.func 106) #[] #[], .string ⟨#[60, 61]⟩, .int .i64 3, .bool true, .func (.func 107) #[] #[]]) (.int .u8 9)).run Tryz.prog w = .ok (.agg #[.string ⟨#[124]⟩, .int .i64 1, .bool false, .func (.func 99) #[] #[]]) w := fun w => by first | kernel_rfl | rfl
  have hfl : ∀ w, (Instr.field 104 (.agg #[.string ⟨#[124]⟩, .int .i64 1, .bool false, .func (.func 99) #[] #[]]) 3).run Tryz.prog w = .ok (.func (.func 99) #[] #[]) w := fun w => by first | kernel_rfl | rfl
  go_wp2_with fail
  refine (HB w3).mono ?_
  rintro e w4 ⟨rfl, rfl⟩
  go_wp2_with fail
  go_ret2
  exact ⟨rfl, hw1.trans hw3 (by simp)⟩
set_option maxRecDepth 100000 in
set_option maxHeartbeats 4000000 in
theorem bApply10_is (x y n : Nat) (hx : x < 4294967296) (hy : y < 4294967296) (h1 : 1 ≤ n) (h16 : n ≤ 16) : Calls Tryz.prog 14 #[.int .u8 10, .int .i64 n, .int .u32 x, .int .u32 y] w fun e w' => e = .returned (.tuple #[.int .u32 (applyV 10 n x y : Nat), .int .i64 0]) ∧ Ch [] w w' := by
  have h3 : 2 ^ n ≤ 2 ^ 16 := Nat.pow_le_pow_right (by omega) h16
  have HN := bName_is (w := w) 10 (.string ⟨#[94]⟩) (by omega) rfl
  have HM := fun w => Most_is (w := w) n h1 h16
  unfold applyV
  generalize hm : 2 ^ n - 1 = m at *
  have hm16 : m < 65536 := by omega
  have hux := u32_and_nat x m hx (by omega)
  have huy := u32_and_nat y m hy (by omega)
  have hXm : x &&& m ≤ m := Nat.and_le_right
  have hYm : y &&& m ≤ m := Nat.and_le_right
  generalize hX : x &&& m = X at *
  generalize hY : y &&& m = Y at *
  have HB := fun w => bt10_is (w := w) X Y m hXm hYm hm16
  have hv : opV 10 X Y m < 4294967296 := by rw [opV_10]; exact Nat.xor_lt_two_pow (n := 32) (by omega) (by omega)
  have huv := u32_and_nat (opV 10 X Y m) m hv (by omega)
  generalize opV 10 X Y m = v at *
  go_enter Tryz.func14, Tryz.ntmps14
  go_wp2_with fail
  refine HN.mono ?_
  rintro e w1 ⟨rfl, hw1⟩
  go_wp2_with fail
  refine (HM w1).mono ?_
  rintro e w2 ⟨rfl, rfl⟩
  go_wp2_with fail
  refine table_is.mono ?_
  rintro e w3 ⟨rfl, hw3⟩
  have hix : ∀ w, (Instr.index 105 (.agg #[.string ⟨#[]⟩, .int .i64 0, .bool false, .nilFunc, .string ⟨#[126]⟩, .int .i64 0, .bool false, .func (.func 91) #[] #[], .string ⟨#[45]⟩, .int .i64 0, .bool false, .func (.func 92) #[] #[], .string ⟨#[43]⟩, .int .i64 5, .bool false, .func (.func 93) #[] #[], .string ⟨#[45]⟩, .int .i64 5, .bool false, .func (.func 94) #[] #[], .string ⟨#[42]⟩, .int .i64 6, .bool false, .func (.func 95) #[] #[], .string ⟨#[47]⟩, .int .i64 6, .bool false, .func (.func 96) #[] #[], .string ⟨#[37]⟩, .int .i64 6, .bool false, .func (.func 97) #[] #[], .string ⟨#[38]⟩, .int .i64 2, .bool false, .func (.func 98) #[] #[], .string ⟨#[124]⟩, .int .i64 1, .bool false, .func (.func 99) #[] #[], .string ⟨#[94]⟩, .int .i64 1, .bool false, .func (.func 100) #[] #[], .string ⟨#[60, 60]⟩, .int .i64 4, .bool false, .func (.func 101) #[] #[], .string ⟨#[62, 62]⟩, .int .i64 4, .bool false, .func (.func 102) #[] #[], .string ⟨#[61, 61]⟩, .int .i64 3, .bool true, .func (.func 103) #[] #[], .string ⟨#[33, 61]⟩, .int .i64 3, .bool true, .func (.func 105) #[] #[], .string ⟨#[60]⟩, .int .i64 3, .bool true, .func (.func 106) #[] #[], .string ⟨#[60, 61]⟩, .int .i64 3, .bool true, .func (.func 107) #[] #[]]) (.int .u8 10)).run Tryz.prog w = .ok (.agg #[.string ⟨#[94]⟩, .int .i64 1, .bool false, .func (.func 100) #[] #[]]) w := fun w => by first | kernel_rfl | rfl
  have hfl : ∀ w, (Instr.field 104 (.agg #[.string ⟨#[94]⟩, .int .i64 1, .bool false, .func (.func 100) #[] #[]]) 3).run Tryz.prog w = .ok (.func (.func 100) #[] #[]) w := fun w => by first | kernel_rfl | rfl
  go_wp2_with fail
  refine (HB w3).mono ?_
  rintro e w4 ⟨rfl, rfl⟩
  go_wp2_with fail
  go_ret2
  exact ⟨rfl, hw1.trans hw3 (by simp)⟩
set_option maxRecDepth 100000 in
set_option maxHeartbeats 4000000 in
theorem bApply13_is (x y n : Nat) (hx : x < 4294967296) (hy : y < 4294967296) (h1 : 1 ≤ n) (h16 : n ≤ 16) : Calls Tryz.prog 14 #[.int .u8 13, .int .i64 n, .int .u32 x, .int .u32 y] w fun e w' => e = .returned (.tuple #[.int .u32 (applyV 13 n x y : Nat), .int .i64 0]) ∧ Ch [] w w' := by
  have h3 : 2 ^ n ≤ 2 ^ 16 := Nat.pow_le_pow_right (by omega) h16
  have HN := bName_is (w := w) 13 (.string ⟨#[61, 61]⟩) (by omega) rfl
  have HM := fun w => Most_is (w := w) n h1 h16
  unfold applyV
  generalize hm : 2 ^ n - 1 = m at *
  have hm16 : m < 65536 := by omega
  have hux := u32_and_nat x m hx (by omega)
  have huy := u32_and_nat y m hy (by omega)
  have hXm : x &&& m ≤ m := Nat.and_le_right
  have hYm : y &&& m ≤ m := Nat.and_le_right
  generalize hX : x &&& m = X at *
  generalize hY : y &&& m = Y at *
  have HB := fun w => bt13_is (w := w) X Y m hXm hYm hm16
  have hv : opV 13 X Y m < 4294967296 := by rw [opV_13]; exact Nat.lt_of_le_of_lt (Bool.toNat_le _) (by omega)
  have huv := u32_and_nat (opV 13 X Y m) m hv (by omega)
  generalize opV 13 X Y m = v at *
  go_enter Tryz.func14, Tryz.ntmps14
  go_wp2_with fail
  refine HN.mono ?_
  rintro e w1 ⟨rfl, hw1⟩
  go_wp2_with fail
  refine (HM w1).mono ?_
  rintro e w2 ⟨rfl, rfl⟩
  go_wp2_with fail
  refine table_is.mono ?_
  rintro e w3 ⟨rfl, hw3⟩
  have hix : ∀ w, (Instr.index 105 (.agg #[.string ⟨#[]⟩, .int .i64 0, .bool false, .nilFunc, .string ⟨#[126]⟩, .int .i64 0, .bool false, .func (.func 91) #[] #[], .string ⟨#[45]⟩, .int .i64 0, .bool false, .func (.func 92) #[] #[], .string ⟨#[43]⟩, .int .i64 5, .bool false, .func (.func 93) #[] #[], .string ⟨#[45]⟩, .int .i64 5, .bool false, .func (.func 94) #[] #[], .string ⟨#[42]⟩, .int .i64 6, .bool false, .func (.func 95) #[] #[], .string ⟨#[47]⟩, .int .i64 6, .bool false, .func (.func 96) #[] #[], .string ⟨#[37]⟩, .int .i64 6, .bool false, .func (.func 97) #[] #[], .string ⟨#[38]⟩, .int .i64 2, .bool false, .func (.func 98) #[] #[], .string ⟨#[124]⟩, .int .i64 1, .bool false, .func (.func 99) #[] #[], .string ⟨#[94]⟩, .int .i64 1, .bool false, .func (.func 100) #[] #[], .string ⟨#[60, 60]⟩, .int .i64 4, .bool false, .func (.func 101) #[] #[], .string ⟨#[62, 62]⟩, .int .i64 4, .bool false, .func (.func 102) #[] #[], .string ⟨#[61, 61]⟩, .int .i64 3, .bool true, .func (.func 103) #[] #[], .string ⟨#[33, 61]⟩, .int .i64 3, .bool true, .func (.func 105) #[] #[], .string ⟨#[60]⟩, .int .i64 3, .bool true, .func (.func 106) #[] #[], .string ⟨#[60, 61]⟩, .int .i64 3, .bool true, .func (.func 107) #[] #[]]) (.int .u8 13)).run Tryz.prog w = .ok (.agg #[.string ⟨#[61, 61]⟩, .int .i64 3, .bool true, .func (.func 103) #[] #[]]) w := fun w => by first | kernel_rfl | rfl
  have hfl : ∀ w, (Instr.field 104 (.agg #[.string ⟨#[61, 61]⟩, .int .i64 3, .bool true, .func (.func 103) #[] #[]]) 3).run Tryz.prog w = .ok (.func (.func 103) #[] #[]) w := fun w => by first | kernel_rfl | rfl
  go_wp2_with fail
  refine (HB w3).mono ?_
  rintro e w4 ⟨rfl, rfl⟩
  go_wp2_with fail
  go_ret2
  exact ⟨rfl, hw1.trans hw3 (by simp)⟩
set_option maxRecDepth 100000 in
set_option maxHeartbeats 4000000 in
theorem bApply14_is (x y n : Nat) (hx : x < 4294967296) (hy : y < 4294967296) (h1 : 1 ≤ n) (h16 : n ≤ 16) : Calls Tryz.prog 14 #[.int .u8 14, .int .i64 n, .int .u32 x, .int .u32 y] w fun e w' => e = .returned (.tuple #[.int .u32 (applyV 14 n x y : Nat), .int .i64 0]) ∧ Ch [] w w' := by
  have h3 : 2 ^ n ≤ 2 ^ 16 := Nat.pow_le_pow_right (by omega) h16
  have HN := bName_is (w := w) 14 (.string ⟨#[33, 61]⟩) (by omega) rfl
  have HM := fun w => Most_is (w := w) n h1 h16
  unfold applyV
  generalize hm : 2 ^ n - 1 = m at *
  have hm16 : m < 65536 := by omega
  have hux := u32_and_nat x m hx (by omega)
  have huy := u32_and_nat y m hy (by omega)
  have hXm : x &&& m ≤ m := Nat.and_le_right
  have hYm : y &&& m ≤ m := Nat.and_le_right
  generalize hX : x &&& m = X at *
  generalize hY : y &&& m = Y at *
  have HB := fun w => bt14_is (w := w) X Y m hXm hYm hm16
  have hv : opV 14 X Y m < 4294967296 := by rw [opV_14]; exact Nat.lt_of_le_of_lt (Bool.toNat_le _) (by omega)
  have huv := u32_and_nat (opV 14 X Y m) m hv (by omega)
  generalize opV 14 X Y m = v at *
  go_enter Tryz.func14, Tryz.ntmps14
  go_wp2_with fail
  refine HN.mono ?_
  rintro e w1 ⟨rfl, hw1⟩
  go_wp2_with fail
  refine (HM w1).mono ?_
  rintro e w2 ⟨rfl, rfl⟩
  go_wp2_with fail
  refine table_is.mono ?_
  rintro e w3 ⟨rfl, hw3⟩
  have hix : ∀ w, (Instr.index 105 (.agg #[.string ⟨#[]⟩, .int .i64 0, .bool false, .nilFunc, .string ⟨#[126]⟩, .int .i64 0, .bool false, .func (.func 91) #[] #[], .string ⟨#[45]⟩, .int .i64 0, .bool false, .func (.func 92) #[] #[], .string ⟨#[43]⟩, .int .i64 5, .bool false, .func (.func 93) #[] #[], .string ⟨#[45]⟩, .int .i64 5, .bool false, .func (.func 94) #[] #[], .string ⟨#[42]⟩, .int .i64 6, .bool false, .func (.func 95) #[] #[], .string ⟨#[47]⟩, .int .i64 6, .bool false, .func (.func 96) #[] #[], .string ⟨#[37]⟩, .int .i64 6, .bool false, .func (.func 97) #[] #[], .string ⟨#[38]⟩, .int .i64 2, .bool false, .func (.func 98) #[] #[], .string ⟨#[124]⟩, .int .i64 1, .bool false, .func (.func 99) #[] #[], .string ⟨#[94]⟩, .int .i64 1, .bool false, .func (.func 100) #[] #[], .string ⟨#[60, 60]⟩, .int .i64 4, .bool false, .func (.func 101) #[] #[], .string ⟨#[62, 62]⟩, .int .i64 4, .bool false, .func (.func 102) #[] #[], .string ⟨#[61, 61]⟩, .int .i64 3, .bool true, .func (.func 103) #[] #[], .string ⟨#[33, 61]⟩, .int .i64 3, .bool true, .func (.func 105) #[] #[], .string ⟨#[60]⟩, .int .i64 3, .bool true, .func (.func 106) #[] #[], .string ⟨#[60, 61]⟩, .int .i64 3, .bool true, .func (.func 107) #[] #[]]) (.int .u8 14)).run Tryz.prog w = .ok (.agg #[.string ⟨#[33, 61]⟩, .int .i64 3, .bool true, .func (.func 105) #[] #[]]) w := fun w => by first | kernel_rfl | rfl
  have hfl : ∀ w, (Instr.field 104 (.agg #[.string ⟨#[33, 61]⟩, .int .i64 3, .bool true, .func (.func 105) #[] #[]]) 3).run Tryz.prog w = .ok (.func (.func 105) #[] #[]) w := fun w => by first | kernel_rfl | rfl
  go_wp2_with fail
  refine (HB w3).mono ?_
  rintro e w4 ⟨rfl, rfl⟩
  go_wp2_with fail
  go_ret2
  exact ⟨rfl, hw1.trans hw3 (by simp)⟩
set_option maxRecDepth 100000 in
set_option maxHeartbeats 4000000 in
theorem bApply15_is (x y n : Nat) (hx : x < 4294967296) (hy : y < 4294967296) (h1 : 1 ≤ n) (h16 : n ≤ 16) : Calls Tryz.prog 14 #[.int .u8 15, .int .i64 n, .int .u32 x, .int .u32 y] w fun e w' => e = .returned (.tuple #[.int .u32 (applyV 15 n x y : Nat), .int .i64 0]) ∧ Ch [] w w' := by
  have h3 : 2 ^ n ≤ 2 ^ 16 := Nat.pow_le_pow_right (by omega) h16
  have HN := bName_is (w := w) 15 (.string ⟨#[60]⟩) (by omega) rfl
  have HM := fun w => Most_is (w := w) n h1 h16
  unfold applyV
  generalize hm : 2 ^ n - 1 = m at *
  have hm16 : m < 65536 := by omega
  have hux := u32_and_nat x m hx (by omega)
  have huy := u32_and_nat y m hy (by omega)
  have hXm : x &&& m ≤ m := Nat.and_le_right
  have hYm : y &&& m ≤ m := Nat.and_le_right
  generalize hX : x &&& m = X at *
  generalize hY : y &&& m = Y at *
  have HB := fun w => bt15_is (w := w) X Y m hXm hYm hm16
  have hv : opV 15 X Y m < 4294967296 := by rw [opV_15]; exact Nat.lt_of_le_of_lt (Bool.toNat_le _) (by omega)
  have huv := u32_and_nat (opV 15 X Y m) m hv (by omega)
  generalize opV 15 X Y m = v at *
  go_enter Tryz.func14, Tryz.ntmps14
  go_wp2_with fail
  refine HN.mono ?_
  rintro e w1 ⟨rfl, hw1⟩
  go_wp2_with fail
  refine (HM w1).mono ?_
  rintro e w2 ⟨rfl, rfl⟩
  go_wp2_with fail
  refine table_is.mono ?_
  rintro e w3 ⟨rfl, hw3⟩
  have hix : ∀ w, (Instr.index 105 (.agg #[.string ⟨#[]⟩, .int .i64 0, .bool false, .nilFunc, .string ⟨#[126]⟩, .int .i64 0, .bool false, .func (.func 91) #[] #[], .string ⟨#[45]⟩, .int .i64 0, .bool false, .func (.func 92) #[] #[], .string ⟨#[43]⟩, .int .i64 5, .bool false, .func (.func 93) #[] #[], .string ⟨#[45]⟩, .int .i64 5, .bool false, .func (.func 94) #[] #[], .string ⟨#[42]⟩, .int .i64 6, .bool false, .func (.func 95) #[] #[], .string ⟨#[47]⟩, .int .i64 6, .bool false, .func (.func 96) #[] #[], .string ⟨#[37]⟩, .int .i64 6, .bool false, .func (.func 97) #[] #[], .string ⟨#[38]⟩, .int .i64 2, .bool false, .func (.func 98) #[] #[], .string ⟨#[124]⟩, .int .i64 1, .bool false, .func (.func 99) #[] #[], .string ⟨#[94]⟩, .int .i64 1, .bool false, .func (.func 100) #[] #[], .string ⟨#[60, 60]⟩, .int .i64 4, .bool false, .func (.func 101) #[] #[], .string ⟨#[62, 62]⟩, .int .i64 4, .bool false, .func (.func 102) #[] #[], .string ⟨#[61, 61]⟩, .int .i64 3, .bool true, .func (.func 103) #[] #[], .string ⟨#[33, 61]⟩, .int .i64 3, .bool true, .func (.func 105) #[] #[], .string ⟨#[60]⟩, .int .i64 3, .bool true, .func (.func 106) #[] #[], .string ⟨#[60, 61]⟩, .int .i64 3, .bool true, .func (.func 107) #[] #[]]) (.int .u8 15)).run Tryz.prog w = .ok (.agg #[.string ⟨#[60]⟩, .int .i64 3, .bool true, .func (.func 106) #[] #[]]) w := fun w => by first | kernel_rfl | rfl
  have hfl : ∀ w, (Instr.field 104 (.agg #[.string ⟨#[60]⟩, .int .i64 3, .bool true, .func (.func 106) #[] #[]]) 3).run Tryz.prog w = .ok (.func (.func 106) #[] #[]) w := fun w => by first | kernel_rfl | rfl
  go_wp2_with fail
  refine (HB w3).mono ?_
  rintro e w4 ⟨rfl, rfl⟩
  go_wp2_with fail
  go_ret2
  exact ⟨rfl, hw1.trans hw3 (by simp)⟩
set_option maxRecDepth 100000 in
set_option maxHeartbeats 4000000 in
theorem bApply16_is (x y n : Nat) (hx : x < 4294967296) (hy : y < 4294967296) (h1 : 1 ≤ n) (h16 : n ≤ 16) : Calls Tryz.prog 14 #[.int .u8 16, .int .i64 n, .int .u32 x, .int .u32 y] w fun e w' => e = .returned (.tuple #[.int .u32 (applyV 16 n x y : Nat), .int .i64 0]) ∧ Ch [] w w' := by
  have h3 : 2 ^ n ≤ 2 ^ 16 := Nat.pow_le_pow_right (by omega) h16
  have HN := bName_is (w := w) 16 (.string ⟨#[60, 61]⟩) (by omega) rfl
  have HM := fun w => Most_is (w := w) n h1 h16
  unfold applyV
  generalize hm : 2 ^ n - 1 = m at *
  have hm16 : m < 65536 := by omega
  have hux := u32_and_nat x m hx (by omega)
  have huy := u32_and_nat y m hy (by omega)
  have hXm : x &&& m ≤ m := Nat.and_le_right
  have hYm : y &&& m ≤ m := Nat.and_le_right
  generalize hX : x &&& m = X at *
  generalize hY : y &&& m = Y at *
  have HB := fun w => bt16_is (w := w) X Y m hXm hYm hm16
  have hv : opV 16 X Y m < 4294967296 := by rw [opV_16]; exact Nat.lt_of_le_of_lt (Bool.toNat_le _) (by omega)
  have huv := u32_and_nat (opV 16 X Y m) m hv (by omega)
  generalize opV 16 X Y m = v at *
  go_enter Tryz.func14, Tryz.ntmps14
  go_wp2_with fail
  refine HN.mono ?_
  rintro e w1 ⟨rfl, hw1⟩
  go_wp2_with fail
  refine (HM w1).mono ?_
  rintro e w2 ⟨rfl, rfl⟩
  go_wp2_with fail
  refine table_is.mono ?_
  rintro e w3 ⟨rfl, hw3⟩
  have hix : ∀ w, (Instr.index 105 (.agg #[.string ⟨#[]⟩, .int .i64 0, .bool false, .nilFunc, .string ⟨#[126]⟩, .int .i64 0, .bool false, .func (.func 91) #[] #[], .string ⟨#[45]⟩, .int .i64 0, .bool false, .func (.func 92) #[] #[], .string ⟨#[43]⟩, .int .i64 5, .bool false, .func (.func 93) #[] #[], .string ⟨#[45]⟩, .int .i64 5, .bool false, .func (.func 94) #[] #[], .string ⟨#[42]⟩, .int .i64 6, .bool false, .func (.func 95) #[] #[], .string ⟨#[47]⟩, .int .i64 6, .bool false, .func (.func 96) #[] #[], .string ⟨#[37]⟩, .int .i64 6, .bool false, .func (.func 97) #[] #[], .string ⟨#[38]⟩, .int .i64 2, .bool false, .func (.func 98) #[] #[], .string ⟨#[124]⟩, .int .i64 1, .bool false, .func (.func 99) #[] #[], .string ⟨#[94]⟩, .int .i64 1, .bool false, .func (.func 100) #[] #[], .string ⟨#[60, 60]⟩, .int .i64 4, .bool false, .func (.func 101) #[] #[], .string ⟨#[62, 62]⟩, .int .i64 4, .bool false, .func (.func 102) #[] #[], .string ⟨#[61, 61]⟩, .int .i64 3, .bool true, .func (.func 103) #[] #[], .string ⟨#[33, 61]⟩, .int .i64 3, .bool true, .func (.func 105) #[] #[], .string ⟨#[60]⟩, .int .i64 3, .bool true, .func (.func 106) #[] #[], .string ⟨#[60, 61]⟩, .int .i64 3, .bool true, .func (.func 107) #[] #[]]) (.int .u8 16)).run Tryz.prog w = .ok (.agg #[.string ⟨#[60, 61]⟩, .int .i64 3, .bool true, .func (.func 107) #[] #[]]) w := fun w => by first | kernel_rfl | rfl
  have hfl : ∀ w, (Instr.field 104 (.agg #[.string ⟨#[60, 61]⟩, .int .i64 3, .bool true, .func (.func 107) #[] #[]]) 3).run Tryz.prog w = .ok (.func (.func 107) #[] #[]) w := fun w => by first | kernel_rfl | rfl
  go_wp2_with fail
  refine (HB w3).mono ?_
  rintro e w4 ⟨rfl, rfl⟩
  go_wp2_with fail
  go_ret2
  exact ⟨rfl, hw1.trans hw3 (by simp)⟩

end
end Go.Proofs.YtchledddgmbndaaGreat
namespace Go.Aig
theorem List.snocRec {α : Type} {motive : List α → Prop} (nil : motive []) (snoc : ∀ l x, motive l → motive (l ++ [x])) (l : List α) : motive l := by
  have : ∀ n (l : List α), l.length = n → motive l := by
    intro n
    induction n with
    | zero => intro l hl; rw [List.eq_nil_of_length_eq_zero hl]; exact nil
    | succ n ih =>
      intro l hl
      have hne : l ≠ [] := by intro e; rw [e] at hl; simp at hl
      rw [← List.dropLast_concat_getLast hne]
      exact snoc _ _ (ih _ (by rw [List.length_dropLast]; omega))
  exact this l.length l rfl
/-- the word of a reference, over the words of the nodes; M has all bits -/
def wref (M : Nat) (vs : List Nat) (r : Nat) : Nat := if r % 2 = 1 then M ^^^ vs.getD (r / 2) 0 else vs.getD (r / 2) 0
def wvStep (M : Nat) (s : List Nat × List Nat) (x : Nd) : List Nat × List Nat :=
  if x.k = 3 then (s.1 ++ [wref M s.1 x.l &&& wref M s.1 x.r], s.2) else if x.k = 2 then (s.1 ++ [s.2.headD 0], s.2.tail) else (s.1 ++ [0], s.2)
/-- the words of the nodes, and those of the inputs that are left -/
def wvF (M : Nat) (ins : List Nat) (ns : List Nd) : List Nat × List Nat := ns.foldl (wvStep M) ([], ins)
theorem wvF_snoc (M : Nat) (ins : List Nat) (ns : List Nd) (x : Nd) : wvF M ins (ns ++ [x]) = wvStep M (wvF M ins ns) x := by unfold wvF; rw [List.foldl_append]; rfl
theorem wvF_len (M : Nat) (ins : List Nat) (ns : List Nd) : (wvF M ins ns).1.length = ns.length := by
  induction ns using List.snocRec with
  | nil => rfl
  | snoc ns x ih =>
    rw [wvF_snoc]
    unfold wvStep
    (repeat' split) <;> simp [ih]
theorem wvF_ext (M : Nat) (ins : List Nat) (ns : List Nd) (x : Nd) : ∃ v, (wvF M ins (ns ++ [x])).1 = (wvF M ins ns).1 ++ [v] := by
  rw [wvF_snoc]
  unfold wvStep
  (repeat' split) <;> exact ⟨_, rfl⟩
theorem wref_ext {M : Nat} {vs more : List Nat} {r : Nat} (h : r < 2 * vs.length) : wref M (vs ++ more) r = wref M vs r := by
  unfold wref
  rw [List.getD_eq_getElem?_getD, List.getD_eq_getElem?_getD, List.getElem?_append_left (by omega)]
theorem wref_bit {N k : Nat} (hk : k < N) (vs : List Nat) (r : Nat) : (wref (2 ^ N - 1) vs r).testBit k = rv (vs.map fun v => v.testBit k) r := by
  have hg : (vs.map fun v => v.testBit k).getD (r / 2) false = (vs.getD (r / 2) 0).testBit k := by
    rw [List.getD_eq_getElem?_getD, List.getD_eq_getElem?_getD, List.getElem?_map]
    cases vs[r / 2]? <;> simp
  unfold wref rv
  rw [hg]
  split
  · rename_i h
    rw [Nat.testBit_xor, Nat.testBit_two_pow_sub_one, decide_eq_true hk, decide_eq_true h, Bool.xor_comm]
  · rename_i h
    rw [decide_eq_false h, Bool.xor_false]
/-- bit by bit, the words are what the nodes are for one assignment -/
theorem wvF_bits {N k : Nat} (hk : k < N) (ins : List Nat) (ns : List Nd) :
    (wvF (2 ^ N - 1) ins ns).1.map (fun v => v.testBit k) = (nv (fun i => (ins.getD i 0).testBit k) ns).1 ∧ (wvF (2 ^ N - 1) ins ns).2 = ins.drop (nv (fun i => (ins.getD i 0).testBit k) ns).2 := by
  induction ns using List.snocRec with
  | nil => exact ⟨rfl, rfl⟩
  | snoc ns x ih =>
    obtain ⟨h1, h2⟩ := ih
    rw [wvF_snoc, nv_snoc]
    unfold wvStep nvStep
    split
    · refine ⟨?_, h2⟩
      simp only [List.map_append, List.map_cons, List.map_nil, h1, Nat.testBit_and, wref_bit hk]
    · split
      · refine ⟨?_, ?_⟩
        · simp only [List.map_append, List.map_cons, List.map_nil, h1, h2]
          congr 2
          rw [List.headD_eq_head?_getD, List.head?_drop, List.getD_eq_getElem?_getD]
        · simp only [h2, List.tail_drop]
      · refine ⟨?_, h2⟩
        simp only [List.map_append, List.map_cons, List.map_nil, h1, Nat.zero_testBit]
theorem wv_bv {N k : Nat} (hk : k < N) (ins : List Nat) (ns : List Nd) (r : Nat) : (wref (2 ^ N - 1) (wvF (2 ^ N - 1) ins ns).1 r).testBit k = bv (fun i => (ins.getD i 0).testBit k) ns r := by
  rw [wref_bit hk, (wvF_bits hk ins ns).1]
  rfl
theorem wref_lt {N : Nat} {vs : List Nat} (h : ∀ v ∈ vs, v < 2 ^ N) (r : Nat) : wref (2 ^ N - 1) vs r < 2 ^ N := by
  have hp : 0 < 2 ^ N := Nat.two_pow_pos N
  have hg : vs.getD (r / 2) 0 < 2 ^ N := by
    rw [List.getD_eq_getElem?_getD]
    cases hq : vs[r / 2]? with
    | none => exact hp
    | some v => exact h v (List.mem_of_getElem? hq)
  unfold wref
  split
  · exact Nat.xor_lt_two_pow (by omega) hg
  · exact hg
theorem wvF_lt {N : Nat} {ins : List Nat} (hi : ∀ v ∈ ins, v < 2 ^ N) (ns : List Nd) : (∀ v ∈ (wvF (2 ^ N - 1) ins ns).1, v < 2 ^ N) ∧ ∀ v ∈ (wvF (2 ^ N - 1) ins ns).2, v < 2 ^ N := by
  have hp : 0 < 2 ^ N := Nat.two_pow_pos N
  induction ns using List.snocRec with
  | nil => exact ⟨by simp [wvF], hi⟩
  | snoc ns x ih =>
    obtain ⟨h1, h2⟩ := ih
    rw [wvF_snoc]
    unfold wvStep
    split
    · refine ⟨fun v hv => ?_, h2⟩
      rcases List.mem_append.1 hv with hv | hv
      · exact h1 v hv
      · rw [List.mem_singleton.1 hv]
        exact Nat.and_lt_two_pow _ (wref_lt h1 _)
    · split
      · refine ⟨fun v hv => ?_, fun v hv => h2 v (List.mem_of_mem_tail hv)⟩
        rcases List.mem_append.1 hv with hv | hv
        · exact h1 v hv
        · rw [List.mem_singleton.1 hv]
          cases hq : (wvF (2 ^ N - 1) ins ns).2 with
          | nil => exact hp
          | cons a l => exact h2 a (by rw [hq]; exact List.mem_cons_self ..)
      · refine ⟨fun v hv => ?_, h2⟩
        rcases List.mem_append.1 hv with hv | hv
        · exact h1 v hv
        · rw [List.mem_singleton.1 hv]; exact hp
/-- how many inputs there are -/
theorem nv_count (env : Nat → Bool) (ns : List Nd) : (nv env ns).2 = (inputs ns).length := by
  have : ∀ (ns : List Nd) (n : Nat), (inputsFrom ns n).length = (ns.filter fun x => x.k == 2).length := by
    intro ns
    induction ns with
    | nil => intro n; rfl
    | cons x ns ih =>
      intro n
      unfold inputsFrom
      split
      · rename_i h; simp [h, ih]
      · rename_i h; simp [h, ih]
  unfold inputs
  rw [this]
  induction ns using List.snocRec with
  | nil => rfl
  | snoc ns x ih =>
    rw [nv_snoc, List.filter_append, List.length_append, ← ih]
    unfold nvStep
    split
    · rename_i h; simp [h]
    · split
      · rename_i h; simp [h]
      · rename_i h; simp [h]
end Go.Aig
namespace Go.Proofs.YtchledddgmbndaaGreat
open Go.RowKit Go.Mem Go.Aig
def u64s (l : List Nat) : List Value := l.map fun (r : Nat) => .int .u64 r
/-- the words of the four inputs -/
def inWords : List Nat := [43690, 52428, 61680, 65280]
/-- the word of a reference, over the words of the nodes -/
def wv (vs : List Nat) (r : Nat) : Nat := if r % 2 = 1 then vs.getD (r / 2) 0 ^^^ 65535 else vs.getD (r / 2) 0
theorem not_word (x : Nat) (hx : x < 65536) : bits .and .u64 (bits .xor .u64 18446744073709551615 (x : Int)) 65535 = ((x ^^^ 65535 : Nat) : Int) := by
  have h1 := bits_xor_u64_nat 18446744073709551615 x (by omega) (by omega)
  have h2 : 18446744073709551615 ^^^ x < 2 ^ 64 := Nat.xor_lt_two_pow (by omega) (by omega)
  have h3 := bits_and_u64_nat (18446744073709551615 ^^^ x) 65535 (by omega) (by omega)
  rw [show (18446744073709551615 : Int) = ((18446744073709551615 : Nat) : Int) from rfl, h1, show (65535 : Int) = ((65535 : Nat) : Int) from rfl, h3]
  congr 1
  apply Nat.eq_of_testBit_eq
  intro i
  rw [Nat.testBit_and, Nat.testBit_xor, Nat.testBit_xor, show (18446744073709551615 : Nat) = 2 ^ 64 - 1 from rfl, show (65535 : Nat) = 2 ^ 16 - 1 from rfl, Nat.testBit_two_pow_sub_one, Nat.testBit_two_pow_sub_one]
  by_cases hi : i < 16
  · have : i < 64 := by omega
    simp [hi, this]
  · have hx' : x.testBit i = false := Nat.testBit_lt_two_pow (Nat.lt_of_lt_of_le hx (by show 2 ^ 16 ≤ 2 ^ i; exact Nat.pow_le_pow_right (by omega) (by omega)))
    simp [hi, hx']
theorem not_word' (x : Nat) (hx : x < 65536) : bits .and .u64 (bits .xor .u64 IntKind.u64.max (x : Int)) 65535 = ((x ^^^ 65535 : Nat) : Int) := by
  rw [show IntKind.u64.max = (18446744073709551615 : Int) from by decide]; exact not_word x hx
end Go.Proofs.YtchledddgmbndaaGreat
namespace Go.Aig
/-- what the program tells of a node -/
theorem node_tells {G : Gra} (h : Ok G) {n : Nat} {x : Nd} (hx : G.nodes[n]? = some x) : kindOf G.nodes ((2 * n : Nat) : Int) = x.k ∧ lOf G.nodes ((2 * n : Nat) : Int) = x.l ∧ rOf G.nodes ((2 * n : Nat) : Int) = x.r ∧ x.k ≤ 3 := by
  have hn : nodeAt G.nodes ((2 * n : Nat) : Int) = some x := by
    unfold nodeAt
    rw [if_pos (by omega), Int.toNat_natCast, show 2 * n / 2 = n by omega, hx]
  unfold kindOf lOf rOf
  rw [hn]
  refine ⟨rfl, ?_, ?_, ?_⟩
  · show (if x.k = 3 then x.l else 0) = x.l
    by_cases h0 : n = 0
    · subst h0; rw [h.wf.const] at hx; cases hx; rfl
    · rcases h.wf.other n x hx (by omega) with e | e
      · rw [e]; rfl
      · rw [if_pos e.1]
  · show (if x.k = 3 then x.r else 0) = x.r
    by_cases h0 : n = 0
    · subst h0; rw [h.wf.const] at hx; cases hx; rfl
    · rcases h.wf.other n x hx (by omega) with e | e
      · rw [e]; rfl
      · rw [if_pos e.1]
  · by_cases h0 : n = 0
    · subst h0; rw [h.wf.const] at hx; cases hx; decide
    · rcases h.wf.other n x hx (by omega) with e | e
      · rw [e]; decide
      · omega
end Go.Aig
namespace Go.Proofs.YtchledddgmbndaaGreat
open Go.RowKit Go.Mem Go.Aig
section
variable {w : World} {g : Nat} {G : Gra} {F : List Nat}
theorem Room_j (h : GIn w g G F) : Calls Tryz.prog 85 #[.pointer (some ⟨g, 0, none⟩)] w fun e w' => e = .returned (.int .i64 ((G.most : Int) - G.nodes.length)) ∧ Ch [] w w' := by
  have hr := h.ok.room
  have hc := Room_g h
  rw [show ((G.most - G.nodes.length : Nat) : Int) = (G.most : Int) - G.nodes.length by omega] at hc
  exact hc
set_option maxRecDepth 100000 in
set_option maxHeartbeats 4000000 in
theorem Same23_is (h : GIn w g G F) {rb cap : Nat} (hr : RG w rb cap G) :
    Calls Tryz.prog 31 #[.pointer (some ⟨g, 0, none⟩), .agg #[.int .i64 G.most, .slice (some ⟨rb, 0, none⟩) G.nodes.length cap]] w fun e w' => e = .returned (.bool true) ∧ Ch [] w w' := by
  obtain ⟨hl, hp, hmo⟩ := hr.len
  have hle := hr.le
  have hmx := hr.mx
  have hml : (G.nodes.length : Int) ≤ G.most := by have := hr.ok.room; omega
  have htl := fun n x (hx : G.nodes[n]? = some x) => node_tells hr.ok hx
  have HTL := Lib.hid htl; clear htl
  have H := Lib.hid h; clear h
  have HR := Lib.hid hr; clear hr
  go_enter Tryz.func31, Tryz.ntmps31
  go_upto_region 1 with fail
  refine wp_alw ?_
  intro W0 hW0
  have hc0 : Ch [] w W0 := by rw [hW0]; exact (Ch.refl _ _).alloc _
  have b3 : blk W0 w.heap.size [.int .i64 G.most, .slice (some ⟨rb, 0, none⟩) G.nodes.length cap] := by rw [hW0]; exact blk.new' (w := w) [.int .i64 G.most, .slice (some ⟨rb, 0, none⟩) G.nodes.length cap] 68 rfl
  clear hW0
  have hg0 := H.out.same hc0 (by simp)
  have hLen := Len_g (hg0.same (Ch.refl [] W0).drew (by simp))
  have hRoom := Room_j (hg0.same (Ch.refl [] W0).drew (by simp))
  have HLEN := Lib.hid hLen; clear hLen
  have HROOM := Lib.hid hRoom; clear hRoom hg0
  have y0 := b3.cell (i := 0) rfl
  have y1 := b3.cell (i := 1) rfl
  have BB3 := Lib.hid b3; clear b3
  have HC0 := Lib.hid hc0; clear hc0
  go_wp2_with fail
  have hcurd : Ch [] W0 W0.drew := (Ch.refl [] W0).drew
  refine Ord.St.door (fun w' => Ch [] W0 w') [.fl, .rd, .fl, .rd, .fl, .fl, .fl, .fl, .ef, .fl, .ho, .fl, .ho, .fl, .fl, .fl, .fl] [0, 1, 0, 4, 12, 31, 63, 127, 255, 127, 639, 127, 2175, 6271, 15999, 32767, 65535] [0, 1, 2, 3, 4, 5, 6, 7, 8, 9, 10, 11, 12, 13, 14, 15, 16] mixed (by kernel_rfl) rfl ?_
  refine Ord.St.fl2 (T' := ?_) 0 [1, 2, 3, 4, 5, 6, 7, 8, 9, 10, 11, 12, 13, 14, 15, 16] _ _ rfl (by kernel_rfl) rfl rfl rfl rfl (fun K w' hk => ?_) ?_
  rotate_left
  · go_step; exact hk
  refine Ord.St.rd2 (T' := ?_) 1 [2, 3, 4, 5, 6, 7, 8, 9, 10, 11, 12, 13, 14, 15, 16] _ _ rfl (by kernel_rfl) rfl rfl rfl rfl (fun K hk => ?_) ?_
  rotate_left
  · go_step; refine HLEN.out.mono ?_; rintro e w'' ⟨rfl, rfl⟩; exact hk
  refine Ord.St.fl2 (T' := ?_) 2 [3, 4, 5, 6, 7, 8, 9, 10, 11, 12, 13, 14, 15, 16] _ _ rfl (by kernel_rfl) rfl rfl rfl rfl (fun K w' hk => ?_) ?_
  rotate_left
  · go_step; exact hk
  refine Ord.St.rd2 (T' := ?_) 3 [4, 5, 6, 7, 8, 9, 10, 11, 12, 13, 14, 15, 16] _ _ rfl (by kernel_rfl) rfl rfl rfl rfl (fun K hk => ?_) ?_
  rotate_left
  · go_step; exact hk
  refine Ord.St.fl2 (T' := ?_) 4 [5, 6, 7, 8, 9, 10, 11, 12, 13, 14, 15, 16] _ _ rfl (by kernel_rfl) rfl rfl rfl rfl (fun K w' hk => ?_) ?_
  rotate_left
  · go_step; exact hk
  refine Ord.St.fl2 (T' := ?_) 5 [6, 7, 8, 9, 10, 11, 12, 13, 14, 15, 16] _ _ rfl (by kernel_rfl) rfl rfl rfl rfl (fun K w' hk => ?_) ?_
  rotate_left
  · go_step; exact hk
  refine Ord.St.fl2 (T' := ?_) 6 [7, 8, 9, 10, 11, 12, 13, 14, 15, 16] _ _ rfl (by kernel_rfl) rfl rfl rfl rfl (fun K w' hk => ?_) ?_
  rotate_left
  · go_step; exact hk
  first | (refine Ord.St.fl2 (T' := ?_) 7 [8, 9, 10, 11, 12, 13, 14, 15, 16] _ _ rfl (by kernel_rfl) ?_ rfl rfl rfl (fun K w' hk => ?_) ?_; rotate_left; (first | rfl | (simp [Region.wanted, yielded, *]; done)); focus (go_step; exact hk)) | (refine Ord.St.skip 7 [8, 9, 10, 11, 12, 13, 14, 15, 16] _ rfl (by kernel_rfl) ?_ (fun K hK => ?_); (first | rfl | (simp [Region.wanted, yielded, *]; done)); go_simp; refine hK _ ?_; clear hK K)
  first | (refine Ord.St.fl2 (T' := ?_) 9 [8, 10, 11, 12, 13, 14, 15, 16] _ _ rfl (by kernel_rfl) ?_ rfl rfl rfl (fun K w' hk => ?_) ?_; rotate_left; (first | rfl | (simp [Region.wanted, yielded, *]; done)); focus (go_step; exact hk)) | (refine Ord.St.skip 9 [8, 10, 11, 12, 13, 14, 15, 16] _ rfl (by kernel_rfl) ?_ (fun K hK => ?_); (first | rfl | (simp [Region.wanted, yielded, *]; done)); go_simp; refine hK _ ?_; clear hK K)
  refine Ord.St.ho2 (T' := ?_) 10 [8, 11, 12, 13, 14, 15, 16] _ _ rfl (by kernel_rfl) (by first | rfl | simp [Region.wanted, yielded, *]) rfl rfl rfl ?_ (fun K w' hw' hk => ?_) ?_
  rotate_left
  · trivial
  · have z0 := (BB3.out.ch hw' (by simp)).cell (i := 0) rfl; have z1 := (BB3.out.ch hw' (by simp)).cell (i := 1) rfl; go_step; exact hk
  first | (refine Ord.St.fl2 (T' := ?_) 11 [8, 12, 13, 14, 15, 16] _ _ rfl (by kernel_rfl) ?_ rfl rfl rfl (fun K w' hk => ?_) ?_; rotate_left; (first | rfl | (simp [Region.wanted, yielded, *]; done)); focus (go_step; exact hk)) | (refine Ord.St.skip 11 [8, 12, 13, 14, 15, 16] _ rfl (by kernel_rfl) ?_ (fun K hK => ?_); (first | rfl | (simp [Region.wanted, yielded, *]; done)); go_simp; refine hK _ ?_; clear hK K)
  refine Ord.St.ho2 (T' := ?_) 12 [8, 13, 14, 15, 16] _ _ rfl (by kernel_rfl) (by first | rfl | simp [Region.wanted, yielded, *]) rfl rfl rfl ?_ (fun K w' hw' hk => ?_) ?_
  rotate_left
  · trivial
  · have z0 := (BB3.out.ch hw' (by simp)).cell (i := 0) rfl; have z1 := (BB3.out.ch hw' (by simp)).cell (i := 1) rfl; go_step; exact hk
  first | (refine Ord.St.fl2 (T' := ?_) 13 [8, 14, 15, 16] _ _ rfl (by kernel_rfl) ?_ rfl rfl rfl (fun K w' hk => ?_) ?_; rotate_left; (first | rfl | (simp [Region.wanted, yielded, *]; done)); focus (go_step; exact hk)) | (refine Ord.St.skip 13 [8, 14, 15, 16] _ rfl (by kernel_rfl) ?_ (fun K hK => ?_); (first | rfl | (simp [Region.wanted, yielded, *]; done)); go_simp; refine hK _ ?_; clear hK K)
  first | (refine Ord.St.fl2 (T' := ?_) 14 [8, 15, 16] _ _ rfl (by kernel_rfl) ?_ rfl rfl rfl (fun K w' hk => ?_) ?_; rotate_left; (first | rfl | (simp [Region.wanted, yielded, *]; done)); focus (go_step; exact hk)) | (refine Ord.St.skip 14 [8, 15, 16] _ rfl (by kernel_rfl) ?_ (fun K hK => ?_); (first | rfl | (simp [Region.wanted, yielded, *]; done)); go_simp; refine hK _ ?_; clear hK K)
  refine Ord.St.efC 8 [15, 16] _ rfl (by kernel_rfl) (fun K hK => ?_)
  go_wp2_with fail
  refine HROOM.out.mono ?_
  rintro e w2 ⟨rfl, hc2⟩
  have hcur : Ch [] W0 w2 := (Ch.refl [] W0).drew.trans hc2 (by simp)
  have b3 := BB3.out.ch hcur (by simp)
  have x0 := b3.cell (i := 0) rfl
  have x1 := b3.cell (i := 1) rfl
  clear hcurd b3 y0 y1 hc2 HROOM HLEN
  go_wp2_with fail
  refine ⟨rfl, hK _ _ ?_ ?_⟩
  · exact hcur
  clear hK K
  first | (refine Ord.St.fl2 (T' := ?_) 15 [16] _ _ rfl (by kernel_rfl) ?_ rfl rfl rfl (fun K w' hk => ?_) ?_; rotate_left; (first | rfl | (simp [Region.wanted, yielded, *]; done)); focus (go_step; exact hk)) | (refine Ord.St.skip 15 [16] _ rfl (by kernel_rfl) ?_ (fun K hK => ?_); (first | rfl | (simp [Region.wanted, yielded, *]; done)); go_simp; refine hK _ ?_; clear hK K)
  refine Ord.St.fl2 (T' := ?_) 16 [] _ _ rfl (by kernel_rfl) rfl rfl rfl rfl (fun K w' hk => ?_) ?_
  rotate_left
  · go_step; exact hk
  refine Ord.St.nil ?_
  go_wp2_with fail
  have HC2 := Lib.hid hcur; clear hcur x0 x1
  go_loopw [30] (fun i wr => ∃ k : Nat, k ≤ G.nodes.length ∧ i = .int .i64 k ∧ Ch [] w wr) (fun i _ => G.nodes.length - (intOf i).toNat)
  case atStart => exact ⟨0, by omega, rfl, HC0.out.trans HC2.out (by simp)⟩
  case round =>
    obtain ⟨k, hk, rfl, hc⟩ := hrel
    by_cases hlt : k < G.nodes.length
    · obtain ⟨x, hx⟩ : ∃ x, G.nodes[k]? = some x := ⟨_, List.getElem?_eq_getElem hlt⟩
      obtain ⟨t1, t2, t3, t4⟩ := HTL.out k x hx
      have hrr := HR.out.ch hc (by simp)
      obtain ⟨d0, d1, d2⟩ := hrr.node hx
      have hcA : Ch [] w (wr.alloc (.cells #[.int .i64 x.k, .int .i64 x.l, .int .i64 x.r] 135)) := hc.alloc _
      have hg1 := H.out.same hcA (by simp)
      have hS := Sides_g hg1 ((2 * k : Nat) : Int) (by omega)
      rw [t2, t3, show ((2 * k : Nat) : Int) = 2 * (k : Int) by omega] at hS
      generalize isAndAt G.nodes (2 * (k : Int)) = ia at hS
      have hK := fun (W : World) (hW : Ch [] w W) => Kind_g (H.out.same hW (by simp)) ((2 * k : Nat) : Int) (by omega)
      rw [t1, show ((2 * k : Nat) : Int) = 2 * (k : Int) by omega] at hK
      have HS := Lib.hid hS; clear hS
      have HK := Lib.hid hK; clear hK
      have HCA := Lib.hid hcA; clear hcA hc hg1 hrr t1 t2 t3 hx
      go_wp2_with fail
      refine HS.out.mono ?_
      rintro e w3 ⟨rfl, hc3⟩
      have b6 : blk w3 wr.heap.size [.int .i64 x.k, .int .i64 x.l, .int .i64 x.r] := (blk.new' (w := wr) [.int .i64 x.k, .int .i64 x.l, .int .i64 x.r] 135 (by simp)).ch hc3 (by simp)
      have hc13 := HCA.out.trans hc3 (by simp)
      have HKK := Lib.hid (HK.out _ hc13.drew)
      have z0 := b6.cell (i := 0) rfl
      have z1 := b6.cell (i := 1) rfl
      have z2 := b6.cell (i := 2) rfl
      have HC13 := Lib.hid hc13; clear hc13 hc3 b6 HS HK d0 d1 d2
      go_wp2_with fail
      refine Ord.St.door (fun _ => True) [.fl, .fl, .fl, .rd, .fl, .fl, .rd, .fl, .fl, .fl, .fl, .rd, .fl, .fl, .fl, .fl, .fl, .rd, .fl, .fl] [0, 0, 2, 7, 15, 0, 32, 127, 255, 511, 511, 1535, 4095, 8191, 16383, 32767, 32767, 98303, 262143, 524287] [0, 1, 2, 3, 4, 5, 6, 7, 8, 9, 10, 11, 12, 13, 14, 15, 16, 17, 18, 19] mixed (by kernel_rfl) rfl ?_
      refine Ord.St.fl2 (T' := ?_) 0 [1, 2, 3, 4, 5, 6, 7, 8, 9, 10, 11, 12, 13, 14, 15, 16, 17, 18, 19] _ _ rfl (by kernel_rfl) rfl rfl rfl rfl (fun K w' hk => ?_) ?_
      rotate_left
      · go_step; exact hk
      refine Ord.St.fl2 (T' := ?_) 1 [2, 3, 4, 5, 6, 7, 8, 9, 10, 11, 12, 13, 14, 15, 16, 17, 18, 19] _ _ rfl (by kernel_rfl) rfl rfl rfl rfl (fun K w' hk => ?_) ?_
      rotate_left
      · go_step; exact hk
      refine Ord.St.fl2 (T' := ?_) 2 [3, 4, 5, 6, 7, 8, 9, 10, 11, 12, 13, 14, 15, 16, 17, 18, 19] _ _ rfl (by kernel_rfl) rfl rfl rfl rfl (fun K w' hk => ?_) ?_
      rotate_left
      · go_step; exact hk
      refine Ord.St.rd2 (T' := ?_) 3 [4, 5, 6, 7, 8, 9, 10, 11, 12, 13, 14, 15, 16, 17, 18, 19] _ _ rfl (by kernel_rfl) rfl rfl rfl rfl (fun K hk => ?_) ?_
      rotate_left
      · go_step; refine HKK.out.mono ?_; rintro e w'' ⟨rfl, rfl⟩; exact hk
      refine Ord.St.fl2 (T' := ?_) 4 [5, 6, 7, 8, 9, 10, 11, 12, 13, 14, 15, 16, 17, 18, 19] _ _ rfl (by kernel_rfl) rfl rfl rfl rfl (fun K w' hk => ?_) ?_
      rotate_left
      · go_step; exact hk
      refine Ord.St.fl2 (T' := ?_) 5 [6, 7, 8, 9, 10, 11, 12, 13, 14, 15, 16, 17, 18, 19] _ _ rfl (by kernel_rfl) rfl rfl rfl rfl (fun K w' hk => ?_) ?_
      rotate_left
      · go_step; exact hk
      refine Ord.St.rd2 (T' := ?_) 6 [7, 8, 9, 10, 11, 12, 13, 14, 15, 16, 17, 18, 19] _ _ rfl (by kernel_rfl) rfl rfl rfl rfl (fun K hk => ?_) ?_
      rotate_left
      · go_step; exact hk
      refine Ord.St.fl2 (T' := ?_) 7 [8, 9, 10, 11, 12, 13, 14, 15, 16, 17, 18, 19] _ _ rfl (by kernel_rfl) rfl rfl rfl rfl (fun K w' hk => ?_) ?_
      rotate_left
      · go_step; exact hk
      refine Ord.St.fl2 (T' := ?_) 8 [9, 10, 11, 12, 13, 14, 15, 16, 17, 18, 19] _ _ rfl (by kernel_rfl) rfl rfl rfl rfl (fun K w' hk => ?_) ?_
      rotate_left
      · go_step; exact hk
      first | (refine Ord.St.fl2 (T' := ?_) 9 [10, 11, 12, 13, 14, 15, 16, 17, 18, 19] _ _ rfl (by kernel_rfl) ?_ rfl rfl rfl (fun K w' hk => ?_) ?_; rotate_left; (first | rfl | (simp [Region.wanted, yielded, *]; done)); focus (go_step; exact hk)) | (refine Ord.St.skip 9 [10, 11, 12, 13, 14, 15, 16, 17, 18, 19] _ rfl (by kernel_rfl) ?_ (fun K hK => ?_); (first | rfl | (simp [Region.wanted, yielded, *]; done)); go_simp; refine hK _ ?_; clear hK K)
      first | (refine Ord.St.fl2 (T' := ?_) 10 [11, 12, 13, 14, 15, 16, 17, 18, 19] _ _ rfl (by kernel_rfl) ?_ rfl rfl rfl (fun K w' hk => ?_) ?_; rotate_left; (first | rfl | (simp [Region.wanted, yielded, *]; done)); focus (go_step; exact hk)) | (refine Ord.St.skip 10 [11, 12, 13, 14, 15, 16, 17, 18, 19] _ rfl (by kernel_rfl) ?_ (fun K hK => ?_); (first | rfl | (simp [Region.wanted, yielded, *]; done)); go_simp; refine hK _ ?_; clear hK K)
      first | (refine Ord.St.rd2 (T' := ?_) 11 [12, 13, 14, 15, 16, 17, 18, 19] _ _ rfl (by kernel_rfl) ?_ rfl rfl rfl (fun K hk => ?_) ?_; rotate_left; (first | rfl | (simp [Region.wanted, yielded, *]; done)); focus (go_step; exact hk)) | (refine Ord.St.skipr 11 [12, 13, 14, 15, 16, 17, 18, 19] _ rfl (by kernel_rfl) ?_ (fun K hK => ?_); (first | rfl | (simp [Region.wanted, yielded, *]; done)); go_simp; refine hK _ ?_; clear hK K)
      first | (refine Ord.St.fl2 (T' := ?_) 12 [13, 14, 15, 16, 17, 18, 19] _ _ rfl (by kernel_rfl) ?_ rfl rfl rfl (fun K w' hk => ?_) ?_; rotate_left; (first | rfl | (simp [Region.wanted, yielded, *]; done)); focus (go_step; exact hk)) | (refine Ord.St.skip 12 [13, 14, 15, 16, 17, 18, 19] _ rfl (by kernel_rfl) ?_ (fun K hK => ?_); (first | rfl | (simp [Region.wanted, yielded, *]; done)); go_simp; refine hK _ ?_; clear hK K)
      refine Ord.St.fl2 (T' := ?_) 13 [14, 15, 16, 17, 18, 19] _ _ rfl (by kernel_rfl) rfl rfl rfl rfl (fun K w' hk => ?_) ?_
      rotate_left
      · go_step; exact hk
      refine Ord.St.fl2 (T' := ?_) 14 [15, 16, 17, 18, 19] _ _ rfl (by kernel_rfl) rfl rfl rfl rfl (fun K w' hk => ?_) ?_
      rotate_left
      · go_step; exact hk
      first | (refine Ord.St.fl2 (T' := ?_) 15 [16, 17, 18, 19] _ _ rfl (by kernel_rfl) ?_ rfl rfl rfl (fun K w' hk => ?_) ?_; rotate_left; (first | rfl | (simp [Region.wanted, yielded, *]; done)); focus (go_step; exact hk)) | (refine Ord.St.skip 15 [16, 17, 18, 19] _ rfl (by kernel_rfl) ?_ (fun K hK => ?_); (first | rfl | (simp [Region.wanted, yielded, *]; done)); go_simp; refine hK _ ?_; clear hK K)
      first | (refine Ord.St.fl2 (T' := ?_) 16 [17, 18, 19] _ _ rfl (by kernel_rfl) ?_ rfl rfl rfl (fun K w' hk => ?_) ?_; rotate_left; (first | rfl | (simp [Region.wanted, yielded, *]; done)); focus (go_step; exact hk)) | (refine Ord.St.skip 16 [17, 18, 19] _ rfl (by kernel_rfl) ?_ (fun K hK => ?_); (first | rfl | (simp [Region.wanted, yielded, *]; done)); go_simp; refine hK _ ?_; clear hK K)
      first | (refine Ord.St.rd2 (T' := ?_) 17 [18, 19] _ _ rfl (by kernel_rfl) ?_ rfl rfl rfl (fun K hk => ?_) ?_; rotate_left; (first | rfl | (simp [Region.wanted, yielded, *]; done)); focus (go_step; exact hk)) | (refine Ord.St.skipr 17 [18, 19] _ rfl (by kernel_rfl) ?_ (fun K hK => ?_); (first | rfl | (simp [Region.wanted, yielded, *]; done)); go_simp; refine hK _ ?_; clear hK K)
      first | (refine Ord.St.fl2 (T' := ?_) 18 [19] _ _ rfl (by kernel_rfl) ?_ rfl rfl rfl (fun K w' hk => ?_) ?_; rotate_left; (first | rfl | (simp [Region.wanted, yielded, *]; done)); focus (go_step; exact hk)) | (refine Ord.St.skip 18 [19] _ rfl (by kernel_rfl) ?_ (fun K hK => ?_); (first | rfl | (simp [Region.wanted, yielded, *]; done)); go_simp; refine hK _ ?_; clear hK K)
      refine Ord.St.fl2 (T' := ?_) 19 [] _ _ rfl (by kernel_rfl) rfl rfl rfl rfl (fun K w' hk => ?_) ?_
      rotate_left
      · go_step; exact hk
      refine Ord.St.nil ?_
      go_wp2_with fail
      go_roundw
      case rel => exact ⟨k + 1, by omega, by go_num, HC13.out.drew⟩
      case measure => simp [intOf]; omega
    · have HC := Lib.hid hc; clear hc
      go_wp2_with fail
      go_ret
      exact ⟨rfl, HC.out⟩
end
end Go.Proofs.YtchledddgmbndaaGreat
namespace Go.Proofs.YtchledddgmbndaaGreat
open Go.RowKit Go.Mem Go.Aig
/-- all bits -/
abbrev U64 : Nat := 18446744073709551615
theorem u64_pow : (2 ^ 64 - 1 : Nat) = U64 := rfl
theorem infoU64 : (Tryz.prog.info? 148).map (fun i => (i.zero, i.size, i.bytes)) = some (some (.int .u64 0), 1, 8) := by kernel_rfl
theorem slU64s : SliceTy Tryz.prog 147 148 1 8 (.int .u64 0) := ⟨Tryz.underlying147, infoU64, rfl, by decide⟩
theorem run_make_u64s (w : World) (n : Nat) (hn : n ≤ 1000000) : (Instr.makeSlice 147 (.int .i64 n) (.int .i64 n)).run Tryz.prog w = .ok (.slice (some ⟨w.heap.size, 0, none⟩) n n) (w.alloc (.cells (u64s (List.replicate n 0)).toArray 148)) := by
  obtain ⟨i, hi, hz, hs, hb⟩ := info_parts infoU64
  have := run_make (P := Tryz.prog) w 147 148 i (.int .u64 0) Tryz.underlying147 hi hz .i64 .i64 n n (by omega) (by omega) (by rw [hb]; omega) (by omega)
  rw [this, hs]
  have e : madeCells (Value.int .u64 0).cells ((n : Int).toNat * 1) = (u64s (List.replicate n 0)).toArray := by
    apply Array.ext'
    have h := toList_madeCells_one (Value.int .u64 0) ((n : Int).toNat * 1)
    simpa [u64s, Value.cells] using h
  rw [e]; simp
theorem u64s_get {l : List Nat} {i v : Nat} (h : l[i]? = some v) : (u64s l)[i]? = some (.int .u64 v) := by simp [u64s, h]
section
variable {w : World}
set_option maxRecDepth 100000 in
set_option maxHeartbeats 2000000 in
theorem simof1_is {bx nb n c : Nat} {vs : List Nat} (hb : w.cell? ⟨bx, 0, none⟩ = some (.slice (some ⟨nb, 0, none⟩) n c)) (hk : blk w nb (u64s vs)) (hn : vs.length = n) (hlt : ∀ v ∈ vs, v < 2 ^ 64) (r : Nat) (hr : r < 2 * n) (hr2 : r ≤ 1000000) :
    Calls Tryz.prog 150 #[.int .i64 r, .pointer (some ⟨bx, 0, none⟩)] w fun e w' => e = .returned (.int .u64 (wref U64 vs r)) ∧ w = w' := by
  have hg : vs[r / 2]? = some vs[r / 2] := List.getElem?_eq_getElem (by omega)
  have hx := hlt _ (List.getElem_mem (show r / 2 < vs.length by omega))
  have c0 : w.cell? ⟨nb, r / 2, none⟩ = some (.int .u64 vs[r / 2]) := hk.cell (u64s_get hg)
  have hv : wref U64 vs r = if r % 2 = 1 then U64 ^^^ vs[r / 2] else vs[r / 2] := by unfold wref; rw [List.getD_eq_getElem?_getD, hg]; rfl
  rw [hv]
  generalize vs[r / 2] = x at *
  clear hg hk hlt hv
  by_cases h1 : r % 2 = 1
  · rw [if_pos h1]
    have hbb : ((r : Int) % 2 == 1) = true := by simp; omega
    have hnx := bits_xor_u64_nat U64 x (by decide) (by omega)
    have H1 := Lib.hid h1; clear h1
    have HNX := Lib.hid hnx; clear hnx
    have HN := Lib.hid hn; clear hn
    go_enter Tryz.func150, Tryz.ntmps150
    go_wp2_with fail
    go_ret
    exact ⟨ret_int (by first | exact HNX.out | (rw [show IntKind.u64.max = ((U64 : Nat) : Int) from by decide]; exact HNX.out)), rfl⟩
  · rw [if_neg h1]
    have hbb : ((r : Int) % 2 == 1) = false := by simp; omega
    have H1 := Lib.hid h1; clear h1
    have HN := Lib.hid hn; clear hn
    go_enter Tryz.func150, Tryz.ntmps150
    go_wp2_with fail
    go_ret
    exact ⟨rfl, rfl⟩
theorem fnvsimof1 : Fnv 150 := fnv_of Tryz.func150 (by simp [Tryz.f150]) (by simp [Tryz.f150])
set_option maxRecDepth 100000 in
set_option maxHeartbeats 400000 in
theorem simof_is (a : Option Addr) (n c : Nat) : Calls Tryz.prog 137 #[.slice a n c] w fun e w' => e = .returned (.func (.func 150) #[] #[.pointer (some ⟨w.heap.size, 0, none⟩)]) ∧ w' = w.alloc (.cells #[.slice a n c] 147) := by
  go_enter Tryz.func137, Tryz.ntmps137
  go_wp2_with fail
  go_ret
  exact ⟨rfl, rfl⟩
theorem isAnd_at {G : Gra} (hG : Ok G) {n : Nat} {x : Nd} (hx : G.nodes[n]? = some x) : isAndAt G.nodes ((2 * n : Nat) : Int) = (x.k == 3) := by
  have := (node_tells hG hx).1
  unfold isAndAt
  rw [this]
theorem Sv.ch2 {F : List Nat} {w w' : World} {a : Option Addr} {xs : List Value} (h : Sv w a xs) (hc : Ch F w w') (hF : 0 < xs.length → ∀ p, a = some p → p.block ∉ F) : Sv w' a xs :=
  ⟨fun i x hx => by
    obtain ⟨b, o, rfl, hcell⟩ := h.cells i x hx
    have hlt := (List.getElem?_eq_some_iff.1 hx).1
    exact ⟨b, o, rfl, (hc.cell (p := ⟨b, o + i, none⟩) (cell_lt hcell) (hF (by omega) ⟨b, o, none⟩ rfl)).trans hcell⟩, h.bd⟩
theorem u64s_len (l : List Nat) : (u64s l).length = l.length := by simp [u64s]
theorem set_mid (L : List Nat) (m v : Nat) (hm : 0 < m) : (u64s (L ++ List.replicate m 0)).set L.length (.int .u64 v) = u64s ((L ++ [v]) ++ List.replicate (m - 1) 0) := by
  obtain ⟨k, rfl⟩ : ∃ k, m = k + 1 := ⟨m - 1, by omega⟩
  unfold u64s
  rw [List.map_append, List.set_append_right _ _ (by simp)]
  simp [List.replicate_succ]
theorem set_zero (L : List Nat) (m : Nat) (hm : 0 < m) : u64s (L ++ List.replicate m 0) = u64s ((L ++ [0]) ++ List.replicate (m - 1) 0) := by
  obtain ⟨k, rfl⟩ : ∃ k, m = k + 1 := ⟨m - 1, by omega⟩
  simp [u64s, List.replicate_succ]
set_option maxRecDepth 100000 in
set_option maxHeartbeats 8000000 in
theorem simnodes_is {g : Nat} {G : Gra} {F : List Nat} (h : GIn w g G F) {xa : Option Addr} {ins : List Nat} (xc : Nat) (hS : Sv w xa (u64s ins)) (hi : (inputs G.nodes).length = ins.length) (hlt : ∀ v ∈ ins, v < 2 ^ 64) (hcap : ins.length ≤ xc) (hxc : xc ≤ 9223372036854775807) :
    Calls Tryz.prog 138 #[.pointer (some ⟨g, 0, none⟩), .slice xa ins.length xc] w fun e w' => e = .returned (.slice (some ⟨w.heap.size, 0, none⟩) G.nodes.length G.nodes.length) ∧ blk w' w.heap.size (u64s (wvF U64 ins G.nodes).1) ∧ Ch [] w w' := by
  have hok := h.ok
  have hroom := hok.room
  have hmost := hok.most
  obtain ⟨N, hN⟩ : ∃ N, N = G.nodes.length := ⟨_, rfl⟩
  have hN0 : N ≤ 65536 := by omega
  have hLen := Len_g h
  rw [← hN] at hLen ⊢
  have hE0 : wvF U64 ins (G.nodes.take 0) = ([], ins) := rfl
  have hEn : wvF U64 ins (G.nodes.take N) = wvF U64 ins G.nodes := by rw [List.take_of_length_le (by omega)]
  have hEs : ∀ (k : Nat) (x : Nd), G.nodes[k]? = some x → wvF U64 ins (G.nodes.take (k + 1)) = wvStep U64 (wvF U64 ins (G.nodes.take k)) x := fun k x hx => by
    rw [List.take_add_one, hx]; exact wvF_snoc _ _ _ _
  have hEl : ∀ k, k ≤ N → (wvF U64 ins (G.nodes.take k)).1.length = k := fun k hk => by rw [wvF_len, List.length_take]; omega
  have hEb := fun k => wvF_lt (N := 64) hlt (G.nodes.take k)
  rw [u64_pow] at hEb
  have hE2 : ∀ (k : Nat) (x : Nd), G.nodes[k]? = some x → x.k = 2 → 0 < (wvF U64 ins (G.nodes.take k)).2.length := fun k x hx hk2 => by
    have h1 := (wvF_bits (N := 64) (k := 0) (by omega) ins (G.nodes.take k)).2
    rw [u64_pow] at h1
    rw [h1, nv_count, List.length_drop]
    have hsp := split_at hx
    have h2 : (inputs (G.nodes.take (k + 1))).length = (inputs (G.nodes.take k)).length + 1 := by
      rw [List.take_add_one, hx]
      rw [show (some x).toList = [x] from rfl, inputs_input hk2, List.length_append]; rfl
    have h3 : (inputs (G.nodes.take (k + 1))).length ≤ (inputs G.nodes).length := by
      rw [← nv_count (fun _ => false), ← nv_count (fun _ => false)]
      have : ∀ (ms ns : List Nd), (nv (fun _ => false) ns).2 ≤ (nv (fun _ => false) (ns ++ ms)).2 := by
        intro ms
        induction ms with
        | nil => intro ns; simp
        | cons y ms ih =>
          intro ns
          rw [List.append_cons]
          refine Nat.le_trans ?_ (ih (ns ++ [y]))
          rw [nv_snoc]; unfold nvStep
          (repeat' split) <;> simp
      conv => rhs; rw [← List.take_append_drop (k + 1) G.nodes]
      exact this _ _
    omega
  obtain ⟨E, hE⟩ : ∃ E : Nat → List Nat × List Nat, E = fun k => wvF U64 ins (G.nodes.take k) := ⟨_, rfl⟩
  have hEk : ∀ k, wvF U64 ins (G.nodes.take k) = E k := fun k => by rw [hE]
  simp only [hEk] at hE0 hEn hEs hEl hEb hE2
  rw [← hEn]
  clear hE hEk hEn
  have hmk := run_make_u64s w N (by omega)
  have hnt : ∀ (k : Nat) (x : Nd), G.nodes[k]? = some x → kindOf G.nodes (2 * (k : Int)) = x.k ∧ lOf G.nodes (2 * (k : Int)) = x.l ∧ rOf G.nodes (2 * (k : Int)) = x.r ∧ isAndAt G.nodes (2 * (k : Int)) = (x.k == 3) ∧ x.k ≤ 3 := fun k x hx => by
    obtain ⟨a1, a2, a3, a4⟩ := node_tells hok hx
    have a5 := isAnd_at hok hx
    rw [show ((2 * k : Nat) : Int) = 2 * (k : Int) by omega] at a1 a2 a3 a5
    exact ⟨a1, a2, a3, a5, a4⟩
  have hwf := hok.wf
  have HWF := Lib.hid hwf; clear hwf
  have HNT := Lib.hid hnt; clear hnt
  have H := Lib.hid h; clear h
  have HS := Lib.hid hS; clear hS
  have HE0 := Lib.hid hE0; clear hE0
  have HES := Lib.hid hEs; clear hEs
  have HEL := Lib.hid hEl; clear hEl
  have HEB := Lib.hid hEb; clear hEb
  have HE2 := Lib.hid hE2; clear hE2
  have HN := Lib.hid hN; clear hN hi hlt
  have hcf : ∀ args w, (callFunc 150 args).run Tryz.prog w = .ok (.enter 150 args) w := fnvsimof1
  go_enter Tryz.func138, Tryz.ntmps138
  go_wp2_with fail
  refine hLen.mono ?_
  rintro e w' ⟨rfl, rfl⟩
  go_upto_region 2 with fail
  refine wp_alw ?_
  intro W1 hW1
  have hbo : blk W1 w.heap.size (u64s (List.replicate N 0)) := by rw [hW1]; exact blk.new' _ _ rfl
  have hc1 : Ch [] w W1 := by rw [hW1]; exact (Ch.refl _ _).alloc _
  have hz1 : W1.heap.size = w.heap.size + 1 := by rw [hW1]; simp
  clear hW1 hmk hLen
  have hOf := simof_is (w := W1) (some ⟨w.heap.size, 0, none⟩) N N
  have HOF := Lib.hid hOf; clear hOf
  have HBO := Lib.hid hbo; clear hbo
  have HC1 := Lib.hid hc1; clear hc1
  go_wp2_with fail
  refine HOF.out.mono ?_
  rintro e W2 ⟨rfl, hW2⟩
  have hbx := alw_blk (xs := [.slice (some ⟨w.heap.size, 0, none⟩) N N]) hW2
  have hc2 := HC1.out.trans (alw_ch hW2) (by simp)
  have hbo := HBO.out.ch (alw_ch hW2) (by simp)
  clear hW2 HBO HC1 HOF
  rw [hz1] at hbx
  simp only [hz1]
  clear hz1
  have HBX := Lib.hid hbx; clear hbx
  have HBO := Lib.hid hbo; clear hbo
  have HC2 := Lib.hid hc2; clear hc2
  go_wp2_with fail
  go_loopw [1, 19] (fun u i wr => ∃ (k : Nat) (xk : Option Addr) (ck : Nat), k ≤ N ∧ i = .int .i64 k ∧ u = .slice xk (E k).2.length ck ∧ (E k).2.length ≤ ck ∧ ck ≤ 9223372036854775807 ∧ Sv wr xk (u64s (E k).2) ∧ blk wr w.heap.size (u64s ((E k).1 ++ List.replicate (N - k) 0)) ∧ blk wr (w.heap.size + 1) [.slice (some ⟨w.heap.size, 0, none⟩) N N] ∧ Ch [] w wr ∧ (∀ p, xk = some p → 0 < (E k).2.length → p.block < w.heap.size)) (fun _ i _ => N - (intOf i).toNat)
  case atStart =>
    refine ⟨0, xa, xc, by omega, rfl, by rw [HE0.out], by rw [HE0.out]; exact hcap, hxc, by rw [HE0.out]; exact HS.out.ch HC2.out (by simp), by rw [HE0.out]; exact HBO.out, HBX.out, HC2.out, fun p hp h0 => ?_⟩
    rw [HE0.out] at h0
    obtain ⟨b, o, e, hc⟩ := HS.out.cells 0 _ (List.getElem?_eq_getElem (show 0 < (u64s ins).length by simpa [u64s] using h0))
    rw [hp] at e; cases e
    exact cell_lt hc
  case round =>
    clear HBX HBO HC2
    obtain ⟨k, xk, ck, hk, rfl, rfl, hck, hck2, hsv, hbo, hbx, hc, hlo⟩ := hrel
    by_cases hkn : k < N
    · obtain ⟨x, hx⟩ : ∃ x, G.nodes[k]? = some x := ⟨_, List.getElem?_eq_getElem (by rw [← HN.out]; exact hkn)⟩
      obtain ⟨t1, t2, t3, t4, t5⟩ := HNT.out k x hx
      have hes := HES.out k x hx
      have hel := HEL.out k hk
      have heb := HEB.out k
      have he2 := HE2.out k x hx
      have hsides : x.k = 3 → x.l < 2 * k ∧ x.r < 2 * k := fun e => by have := HWF.out.sides hx e; omega
      have hg := H.out.same hc (by simp)
      have hSd := Sides_g hg (2 * (k : Int)) (by omega)
      rw [t2, t3, t4] at hSd
      generalize hEE : E (k + 1) = EN at hes
      generalize E k = ES at hes hel heb he2 hck hsv hbo hlo ⊢
      obtain ⟨L, I⟩ := ES
      simp only at hel heb he2 hck hsv hbo hlo ⊢
      unfold wvStep at hes
      have HSD := Lib.hid hSd; clear hSd
      have HG := Lib.hid hg; clear hg
      have HSV := Lib.hid hsv; clear hsv
      have HLO := Lib.hid hlo; clear hlo
      have HBO := Lib.hid hbo; clear hbo
      have HBX := Lib.hid hbx; clear hbx
      have HEL' := Lib.hid hel; clear hel
      have HEB' := Lib.hid heb; clear heb
      have HC := Lib.hid hc; clear hc
      by_cases h3 : x.k = 3
      · rw [if_pos h3] at hes
        subst hes
        obtain ⟨hl, hr⟩ := hsides h3
        have h33 : (x.k == 3) = true := by rw [h3]; rfl
        rw [h33] at HSD
        have HEE := Lib.hid hEE; clear hEE
        clear t1 t2 t3 t4 t5 h3 h33 he2 hsides hx
        generalize x.l = a at *
        generalize x.r = b at *
        go_wp2_with fail
        refine HSD.out.mono ?_
        rintro e w3 ⟨rfl, hc3⟩
        have hbo := HBO.out.ch hc3 (by simp)
        have hbx := HBX.out.ch hc3 (by simp)
        have hlen : (L ++ List.replicate (N - k) 0).length = N := by rw [List.length_append, List.length_replicate, HEL'.out]; omega
        have hbd : ∀ v ∈ L ++ List.replicate (N - k) 0, v < 2 ^ 64 := fun v hv => by
          rcases List.mem_append.1 hv with hv | hv
          · exact HEB'.out.1 v hv
          · rw [(List.mem_replicate.1 hv).2]; omega
        have hA := simof1_is (hbx.cell (i := 0) rfl) hbo hlen hbd a (by omega) (by omega)
        have hB := simof1_is (hbx.cell (i := 0) rfl) hbo hlen hbd b (by omega) (by omega)
        rw [wref_ext (by rw [HEL'.out]; exact hl)] at hA
        rw [wref_ext (by rw [HEL'.out]; exact hr)] at hB
        have hwa := wref_lt (N := 64) HEB'.out.1 a
        have hwb := wref_lt (N := 64) HEB'.out.1 b
        rw [u64_pow] at hwa hwb
        have hand := bits_and_u64_nat (wref U64 L a) (wref U64 L b) hwa hwb
        generalize hva : wref U64 L a = va at *
        generalize hvb : wref U64 L b = vb at *
        have f0 := hbo.frozen (i := k)
        obtain ⟨old, c0⟩ : ∃ old, w3.cell? ⟨w.heap.size, k, none⟩ = some old := ⟨_, hbo.cell (List.getElem?_eq_getElem (show k < (u64s (L ++ List.replicate (N - k) 0)).length by rw [u64s_len, hlen]; exact hkn))⟩
        have hlt0 := hbo.lt
        have HA := Lib.hid hA; clear hA
        have HB := Lib.hid hB; clear hB
        have HBO3 := Lib.hid hbo; clear hbo HBO
        have HBX3 := Lib.hid hbx; clear hbx HBX
        have HC3 := Lib.hid (HC.out.trans hc3 (by simp)); clear HC HSD
        have HC13 := Lib.hid hc3; clear hc3
        clear hva hvb hwa hwb hlen hbd
        go_wp2_with fail
        refine HA.out.mono ?_
        rintro e w' ⟨rfl, rfl⟩
        go_wp2_with fail
        refine HB.out.mono ?_
        rintro e w' ⟨rfl, rfl⟩
        go_wp2_with fail
        go_roundw
        case rel =>
          have hcs : Ch [w.heap.size] w3 (w3.setCell ⟨w.heap.size, k, none⟩ (.int .u64 (va &&& vb : Nat))) := (Ch.refl _ _).setCell (.inl (by simp)) _
          have hset := HBO3.out.set (i := k) (.int .u64 (va &&& vb : Nat))
          rw [show k = L.length from HEL'.out.symm, set_mid L (N - L.length) _ (by rw [HEL'.out]; omega), HEL'.out] at hset
          exact ⟨k + 1, xk, ck, by omega, by go_num, by rw [HEE.out], by rw [HEE.out]; exact hck, hck2, by rw [HEE.out]; exact (HSV.out.ch HC13.out (by simp)).ch2 hcs (fun h0 p hp hin => by rw [u64s_len] at h0; have := HLO.out p hp h0; have := List.mem_singleton.1 hin; omega), by rw [HEE.out, show N - (k + 1) = N - k - 1 by omega]; exact hset, HBX3.out.ch hcs (by simp), HC3.out.trans hcs (fun q hq => .inr (by have := List.mem_singleton.1 hq; omega)), fun p hp h0 => HLO.out p hp (by rw [HEE.out] at h0; exact h0)⟩
        case measure => simp [intOf]; omega
      · rw [if_neg h3] at hes
        have h33 : (x.k == 3) = false := by rw [beq_eq_false_iff_ne]; exact h3
        rw [h33] at HSD
        have hKd := fun (W : World) (hW : Ch [] wr W) => Kind_g (HG.out.same hW (by simp)) (2 * (k : Int)) (by omega)
        rw [t1] at hKd
        have HKD := Lib.hid hKd; clear hKd
        by_cases h2 : x.k = 2
        · rw [if_pos h2] at hes
          subst hes
          have hI := he2 h2
          rw [h2] at HKD
          have HEE := Lib.hid hEE; clear hEE
          clear t1 t2 t3 t4 t5 h3 h33 he2 hsides hx h2
          obtain ⟨v0, I', rfl⟩ : ∃ v0 I', I = v0 :: I' := by
            cases I with
            | nil => simp at hI
            | cons a l => exact ⟨a, l, rfl⟩
          obtain ⟨xb, xo, rfl, hcx⟩ := HSV.out.cells 0 (.int .u64 v0) rfl
          have hv0 := HEB'.out.2 v0 (List.mem_cons_self ..)
          have hxlo := HLO.out _ rfl hI
          simp only [List.length_cons] at hck hI
          go_wp2_with fail
          refine HSD.out.mono ?_
          rintro e w3 ⟨rfl, hc3⟩
          have hKd := HKD.out w3 hc3
          have HC13 := Lib.hid hc3; clear hc3 HSD
          have HKD3 := Lib.hid hKd; clear hKd HKD
          go_wp2_with fail
          refine HKD3.out.mono ?_
          rintro e w' ⟨rfl, rfl⟩
          have hbo := HBO.out.ch HC13.out (by simp)
          have hbx := HBX.out.ch HC13.out (by simp)
          have hlen : (L ++ List.replicate (N - k) 0).length = N := by rw [List.length_append, List.length_replicate, HEL'.out]; omega
          have c0 := (HC13.out.cell (cell_lt hcx) (by simp)).trans hcx
          rw [Nat.add_zero] at c0
          have f0 := hbo.frozen (i := k)
          obtain ⟨old, d0⟩ : ∃ old, w3.cell? ⟨w.heap.size, k, none⟩ = some old := ⟨_, hbo.cell (List.getElem?_eq_getElem (show k < (u64s (L ++ List.replicate (N - k) 0)).length by rw [u64s_len, hlen]; exact hkn))⟩
          have hlt0 := hbo.lt
          have HBO3 := Lib.hid hbo; clear hbo HBO
          have HBX3 := Lib.hid hbx; clear hbx HBX
          have HC3 := Lib.hid (HC.out.trans HC13.out (by simp)); clear HC
          clear hlen hcx
          by_cases hc1 : ck = 1
          · subst hc1
            have hI0 : I'.length = 0 := by omega
            obtain rfl : I' = [] := List.eq_nil_of_length_eq_zero hI0
            clear hI0
            go_wp2_with fail
            refine Ord.St.door (fun _ => True) [.fl, .fl, .fl, .fl, .rd, .fl, .fl, .fl, .ef, .fl] [0, 0, 0, 4, 12, 0, 32, 31, 159, 511] [0, 1, 2, 3, 4, 5, 6, 7, 8, 9] mixed (by kernel_rfl) rfl ?_
            refine Ord.St.fl2 (T' := ?_) 0 [1, 2, 3, 4, 5, 6, 7, 8, 9] _ _ rfl (by kernel_rfl) rfl rfl rfl rfl (fun K w' hk => ?_) ?_
            rotate_left
            · go_step; exact hk
            refine Ord.St.fl2 (T' := ?_) 1 [2, 3, 4, 5, 6, 7, 8, 9] _ _ rfl (by kernel_rfl) rfl rfl rfl rfl (fun K w' hk => ?_) ?_
            rotate_left
            · go_step; exact hk
            refine Ord.St.fl2 (T' := ?_) 2 [3, 4, 5, 6, 7, 8, 9] _ _ rfl (by kernel_rfl) rfl rfl rfl rfl (fun K w' hk => ?_) ?_
            rotate_left
            · go_step; exact hk
            refine Ord.St.fl2 (T' := ?_) 3 [4, 5, 6, 7, 8, 9] _ _ rfl (by kernel_rfl) rfl rfl rfl rfl (fun K w' hk => ?_) ?_
            rotate_left
            · go_step; exact hk
            refine Ord.St.rd2 (T' := ?_) 4 [5, 6, 7, 8, 9] _ _ rfl (by kernel_rfl) rfl rfl rfl rfl (fun K hk => ?_) ?_
            rotate_left
            · go_step; exact hk
            refine Ord.St.fl2 (T' := ?_) 5 [6, 7, 8, 9] _ _ rfl (by kernel_rfl) rfl rfl rfl rfl (fun K w' hk => ?_) ?_
            rotate_left
            · go_step; exact hk
            refine Ord.St.fl2 (T' := ?_) 6 [7, 8, 9] _ _ rfl (by kernel_rfl) rfl rfl rfl rfl (fun K w' hk => ?_) ?_
            rotate_left
            · go_step; exact hk
            refine Ord.St.fl2 (T' := ?_) 7 [8, 9] _ _ rfl (by kernel_rfl) rfl rfl rfl rfl (fun K w' hk => ?_) ?_
            rotate_left
            · go_step; exact hk
            refine Ord.St.ef 8 [9] _ rfl (by kernel_rfl) (fun K hK => ?_)
            go_wp2_with fail
            refine ⟨rfl, hK _ _ ?_⟩; clear hK K
            refine Ord.St.fl2 (T' := ?_) 9 [] _ _ rfl (by kernel_rfl) rfl rfl rfl rfl (fun K w' hk => ?_) ?_
            rotate_left
            · go_step; exact hk
            refine Ord.St.nil ?_
            go_wp2_with fail
            go_roundw
            case rel =>
              have hcd : Ch [] w3 w3.drew := (Ch.refl [] w3).drew
              have hcs : Ch [w.heap.size] w3.drew (w3.drew.setCell ⟨w.heap.size, k, none⟩ (.int .u64 v0)) := (Ch.refl _ _).setCell (.inl (by simp)) _
              have hset := (HBO3.out.ch hcd (by simp)).set (i := k) (.int .u64 v0)
              rw [show k = L.length from HEL'.out.symm, set_mid L (N - L.length) _ (by rw [HEL'.out]; omega), HEL'.out] at hset
              have hsv := ((HSV.out.ch HC13.out (by simp)).ch hcd (by simp)).ch2 hcs (fun _ p hp hin => by cases hp; have := List.mem_singleton.1 hin; simp only at hxlo this; omega)
              have hsv2 : Sv (w3.drew.setCell ⟨w.heap.size, k, none⟩ (.int .u64 v0)) (some ⟨xb, xo, none⟩) (u64s []) := ⟨by simp [u64s], by simp [u64s]⟩
              exact ⟨k + 1, some ⟨xb, xo, none⟩, 0, by omega, by go_num, by rw [HEE.out]; rfl, by rw [HEE.out]; show ([] : List Nat).length ≤ 0; simp, by omega, by rw [HEE.out]; exact hsv2, by rw [HEE.out, show N - (k + 1) = N - k - 1 by omega]; exact hset, (HBX3.out.ch hcd (by simp)).ch hcs (by simp), (HC3.out.trans hcd (by simp)).trans hcs (fun q hq => .inr (by have := List.mem_singleton.1 hq; omega)), fun p hp h0 => by rw [HEE.out] at h0; simp at h0⟩
            case measure => simp [intOf]; omega
          · have hck1 : 1 < ck := by omega
            have hcki : (ck : Int) - 1 = ((ck - 1 : Nat) : Int) := by omega
            go_wp2_with fail
            refine Ord.St.door (fun _ => True) [.fl, .fl, .fl, .fl, .rd, .fl, .fl, .fl, .ef, .fl] [0, 0, 0, 4, 12, 0, 32, 31, 159, 511] [0, 1, 2, 3, 4, 5, 6, 7, 8, 9] mixed (by kernel_rfl) rfl ?_
            refine Ord.St.fl2 (T' := ?_) 0 [1, 2, 3, 4, 5, 6, 7, 8, 9] _ _ rfl (by kernel_rfl) rfl rfl rfl rfl (fun K w' hk => ?_) ?_
            rotate_left
            · go_step; exact hk
            refine Ord.St.fl2 (T' := ?_) 1 [2, 3, 4, 5, 6, 7, 8, 9] _ _ rfl (by kernel_rfl) rfl rfl rfl rfl (fun K w' hk => ?_) ?_
            rotate_left
            · go_step; exact hk
            refine Ord.St.fl2 (T' := ?_) 2 [3, 4, 5, 6, 7, 8, 9] _ _ rfl (by kernel_rfl) rfl rfl rfl rfl (fun K w' hk => ?_) ?_
            rotate_left
            · go_step; exact hk
            refine Ord.St.fl2 (T' := ?_) 3 [4, 5, 6, 7, 8, 9] _ _ rfl (by kernel_rfl) rfl rfl rfl rfl (fun K w' hk => ?_) ?_
            rotate_left
            · go_step; exact hk
            refine Ord.St.rd2 (T' := ?_) 4 [5, 6, 7, 8, 9] _ _ rfl (by kernel_rfl) rfl rfl rfl rfl (fun K hk => ?_) ?_
            rotate_left
            · go_step; exact hk
            refine Ord.St.fl2 (T' := ?_) 5 [6, 7, 8, 9] _ _ rfl (by kernel_rfl) rfl rfl rfl rfl (fun K w' hk => ?_) ?_
            rotate_left
            · go_step; exact hk
            refine Ord.St.fl2 (T' := ?_) 6 [7, 8, 9] _ _ rfl (by kernel_rfl) rfl rfl rfl rfl (fun K w' hk => ?_) ?_
            rotate_left
            · go_step; exact hk
            refine Ord.St.fl2 (T' := ?_) 7 [8, 9] _ _ rfl (by kernel_rfl) rfl rfl rfl rfl (fun K w' hk => ?_) ?_
            rotate_left
            · go_step; exact hk
            refine Ord.St.ef 8 [9] _ rfl (by kernel_rfl) (fun K hK => ?_)
            go_wp2_with fail
            refine ⟨rfl, hK _ _ ?_⟩; clear hK K
            refine Ord.St.fl2 (T' := ?_) 9 [] _ _ rfl (by kernel_rfl) rfl rfl rfl rfl (fun K w' hk => ?_) ?_
            rotate_left
            · go_step; exact hk
            refine Ord.St.nil ?_
            go_wp2_with fail
            go_roundw
            case rel =>
              have hcd : Ch [] w3 w3.drew := (Ch.refl [] w3).drew
              have hcs : Ch [w.heap.size] w3.drew (w3.drew.setCell ⟨w.heap.size, k, none⟩ (.int .u64 v0)) := (Ch.refl _ _).setCell (.inl (by simp)) _
              have hset := (HBO3.out.ch hcd (by simp)).set (i := k) (.int .u64 v0)
              rw [show k = L.length from HEL'.out.symm, set_mid L (N - L.length) _ (by rw [HEL'.out]; omega), HEL'.out] at hset
              have hsv := ((HSV.out.ch HC13.out (by simp)).ch hcd (by simp)).ch2 hcs (fun _ p hp hin => by cases hp; have := List.mem_singleton.1 hin; simp only at hxlo this; omega)
              have hsv2 : Sv (w3.drew.setCell ⟨w.heap.size, k, none⟩ (.int .u64 v0)) (some ⟨xb, xo + 1, none⟩) (u64s I') := ⟨fun i x hx => by
                obtain ⟨b9, o9, e9, hc9⟩ := hsv.cells (i + 1) x (by simpa [u64s] using hx)
                cases e9
                exact ⟨_, _, rfl, by rw [show xo + 1 + i = xo + (i + 1) by omega]; exact hc9⟩, by have := hsv.bd; simp [u64s] at this ⊢; omega⟩
              exact ⟨k + 1, some ⟨xb, xo + 1, none⟩, ck - 1, by omega, by go_num, by rw [HEE.out]; rfl, by rw [HEE.out]; show I'.length ≤ _; omega, by omega, by rw [HEE.out]; exact hsv2, by rw [HEE.out, show N - (k + 1) = N - k - 1 by omega]; exact hset, (HBX3.out.ch hcd (by simp)).ch hcs (by simp), (HC3.out.trans hcd (by simp)).trans hcs (fun q hq => .inr (by have := List.mem_singleton.1 hq; omega)), fun p hp h0 => by cases hp; exact hxlo⟩
            case measure => simp [intOf]; omega
        · rw [if_neg h2] at hes
          subst hes
          have h22 : ((x.k : Int) == 2) = false := by rw [beq_eq_false_iff_ne]; omega
          have HEE := Lib.hid hEE; clear hEE
          clear t1 t2 t3 t4 h3 h33 he2 hsides hx h2
          generalize x.k = xkk at *
          go_wp2_with fail
          refine HSD.out.mono ?_
          rintro e w3 ⟨rfl, hc3⟩
          have hKd := HKD.out w3 hc3
          have HC13 := Lib.hid hc3; clear hc3 HSD
          have HKD3 := Lib.hid hKd; clear hKd HKD
          go_wp2_with fail
          refine HKD3.out.mono ?_
          rintro e w' ⟨rfl, rfl⟩
          go_wp2_with fail
          go_roundw
          case rel =>
            have hset := HBO.out.ch HC13.out (by simp)
            rw [show N - k = N - L.length by rw [HEL'.out], set_zero L (N - L.length) (by rw [HEL'.out]; omega), HEL'.out] at hset
            exact ⟨k + 1, xk, ck, by omega, by go_num, by rw [HEE.out], by rw [HEE.out]; exact hck, hck2, by rw [HEE.out]; exact HSV.out.ch HC13.out (by simp), by rw [HEE.out, show N - (k + 1) = N - k - 1 by omega]; exact hset, HBX.out.ch HC13.out (by simp), HC.out.trans HC13.out (by simp), fun p hp h0 => HLO.out p hp (by rw [HEE.out] at h0; exact h0)⟩
          case measure => simp [intOf]; omega
    · have hkN : k = N := by omega
      have hbo2 : blk wr w.heap.size (u64s (E N).1) := by
        have := hbo
        rw [hkN, Nat.sub_self, List.replicate_zero, List.append_nil] at this
        exact this
      have HBO2 := Lib.hid hbo2; clear hbo2 hbo hbx hsv hlo
      have HC := Lib.hid hc; clear hc
      go_wp2_with fail
      go_ret
      exact ⟨rfl, HBO2.out, HC.out⟩
end
end Go.Proofs.YtchledddgmbndaaGreat
namespace Go.Aig
/-- what a word of references is, for words of the inputs -/
def wsOf (ins : List Nat) (ns : List Nd) (l : List Nat) : List Nat := l.map (wref 18446744073709551615 (wvF 18446744073709551615 ins ns).1)
/-- what a word of references is, for an assignment -/
def bsOf (ins : List Bool) (ns : List Nd) (l : List Nat) : List Bool := l.map (bv (fun i => ins.getD i false) ns)
def wOf (l : List Bool) : List Nat := l.map fun b => if b then 1 else 0
theorem wOf_bit (l : List Bool) : (fun i => ((wOf l).getD i 0).testBit 0) = fun i => l.getD i false := by
  funext i
  unfold wOf
  rw [List.getD_eq_getElem?_getD, List.getD_eq_getElem?_getD, List.getElem?_map]
  cases l[i]? with
  | none => rfl
  | some b => cases b <;> rfl
theorem wsOf_bits (ins : List Bool) (ns : List Nd) (l : List Nat) : (wsOf (wOf ins) ns l).map (fun v => v.testBit 0) = bsOf ins ns l := by
  unfold wsOf bsOf
  rw [List.map_map]
  apply List.map_congr_left
  intro r _
  have := wv_bv (N := 64) (k := 0) (by omega) (wOf ins) ns r
  rw [wOf_bit] at this
  exact this
theorem wOf_lt (l : List Bool) : ∀ v ∈ wOf l, v < 2 ^ 64 := fun v hv => by
  obtain ⟨b, _, rfl⟩ := List.mem_map.1 hv
  cases b <;> decide
theorem wsOf_lt {ins : List Nat} (h : ∀ v ∈ ins, v < 2 ^ 64) (ns : List Nd) (l : List Nat) : ∀ v ∈ wsOf ins ns l, v < 2 ^ 64 := fun v hv => by
  obtain ⟨r, _, rfl⟩ := List.mem_map.1 hv
  exact wref_lt (N := 64) (wvF_lt (N := 64) h ns).1 r
end Go.Aig
namespace Go.Proofs.YtchledddgmbndaaGreat
open Go.RowKit Go.Mem Go.Aig
section
variable {w : World} {g : Nat} {G : Gra} {F : List Nat}
theorem fnvsimcheck1 : Fnv 149 := fnv_of Tryz.func149 (by simp [Tryz.f149]) (by simp [Tryz.f149])
set_option maxRecDepth 100000 in
set_option maxHeartbeats 1000000 in
theorem simcheck1_is (h : GIn w g G F) {bx : Nat} (hb : w.cell? ⟨bx, 0, none⟩ = some (.pointer (some ⟨g, 0, none⟩))) (r : Int) (hr : r ≤ 9223372036854775807) :
    Calls Tryz.prog 149 (#[.int .i64 r] ++ #[.pointer (some ⟨bx, 0, none⟩)]) w fun e w' => e = .returned (.bool (!right G.nodes r)) ∧ w = w' := by
  show Calls Tryz.prog 149 #[.int .i64 r, .pointer (some ⟨bx, 0, none⟩)] w _
  have HR := Right_g h r hr
  clear h
  generalize right G.nodes r = q at *
  go_enter Tryz.func149, Tryz.ntmps149
  go_wp2_with fail
  refine HR.mono ?_
  rintro e w' ⟨rfl, rfl⟩
  go_wp2_with fail
  go_ret
  exact ⟨ret_bool rfl, rfl⟩
set_option maxRecDepth 100000 in
set_option maxHeartbeats 2000000 in
theorem simcheck_is (h : GIn w g G F) {a : Option Addr} {l : List Int} (n c : Nat) (hn : l.length = n) (hS : Sl w a l) (hbd : ∀ r ∈ l, r ≤ 9223372036854775807) :
    Calls Tryz.prog 135 #[.pointer (some ⟨g, 0, none⟩), .slice a n c] w fun e w' => e = .returned (.int .i64 (if badIn G l then 200 else 0 : Nat)) ∧ Ch [] w w' := by
  subst hn
  have hpos := h.ok.wf.pos
  have hp0 : ((G.nodes.length : Int) == 0) = false := beqN (by omega)
  have hC : ∀ W, W = w.alloc (.cells #[.pointer (some ⟨g, 0, none⟩)] 35) → Calls Tryz.prog 15 #[.slice a l.length c, .func (.func 149) #[] #[.pointer (some ⟨w.heap.size, 0, none⟩)]] W fun e w' => e = .returned (.bool (badIn G l)) ∧ W = w' := fun W hW => by
    have hc := alw_ch hW
    have hb := alw_blk (xs := [.pointer (some ⟨g, 0, none⟩)]) hW
    exact CFref_is c 149 #[.pointer (some ⟨w.heap.size, 0, none⟩)] (fun r => !right G.nodes r) (hS.ch hc (by simp)) (fun r hr => simcheck1_is (h.same hc (by simp)) (hb.cell (i := 0) rfl) r (hbd r hr)) fnvsimcheck1
  have hL : ∀ W, W = w.alloc (.cells #[.pointer (some ⟨g, 0, none⟩)] 35) → Calls Tryz.prog 19 #[.pointer (some ⟨g, 0, none⟩)] W fun e w' => e = .returned (.int .i64 G.nodes.length) ∧ W = w' := fun W hW => Len_g (h.same (alw_ch hW) (by simp))
  have hw : w.cell? ⟨w.heap.size, 0, none⟩ = none := by simp [World.cell?]
  have HC := Lib.hid hC; clear hC
  have HL := Lib.hid hL; clear hL hw
  clear h hS hbd
  cases hq : badIn G l
  · rw [hq] at HC
    have HQ := Lib.hid hq; clear hq
    go_enter Tryz.func135, Tryz.ntmps135
    go_wp2_with fail
    refine (HL.out _ rfl).mono ?_
    rintro e w' ⟨rfl, rfl⟩
    go_wp2_with fail
    refine (HC.out _ rfl).mono ?_
    rintro e w' ⟨rfl, rfl⟩
    go_wp2_with fail
    go_ret
    exact ⟨rfl, (Ch.refl _ _).alloc _⟩
  · rw [hq] at HC
    have HQ := Lib.hid hq; clear hq
    go_enter Tryz.func135, Tryz.ntmps135
    go_wp2_with fail
    refine (HL.out _ rfl).mono ?_
    rintro e w' ⟨rfl, rfl⟩
    go_wp2_with fail
    refine (HC.out _ rfl).mono ?_
    rintro e w' ⟨rfl, rfl⟩
    go_wp2_with fail
    go_ret
    exact ⟨rfl, (Ch.refl _ _).alloc _⟩
/-- what Words returns -/
def wordsR (G : Gra) (ins : List Nat) (l : List Int) : List Nat × Nat := if badIn G l then ([], 200) else if ins.length ≠ (inputs G.nodes).length then ([], 210) else (wsOf ins G.nodes (nats l), 0)
/-- a new slice of words -/
def UNew (w : World) (v : Value) (l : List Nat) (w' : World) : Prop := row w' 148 1 v l.length (u64s l) ∧ (∀ q ∈ v.ownBlock.toList, w.heap.size ≤ q) ∧ Ch [] w w'
set_option maxRecDepth 100000 in
set_option maxHeartbeats 8000000 in
theorem simWords_is (h : GIn w g G F) {xa : Option Addr} {ins : List Nat} (xc : Nat) (hS : Sv w xa (u64s ins)) (hlt : ∀ v ∈ ins, v < 2 ^ 64) (hcap : ins.length ≤ xc) (hxc : xc ≤ 9223372036854775807) {a : Option Addr} {l : List Int} (c : Nat) (hL : Sl w a l) (hbd : ∀ r ∈ l, -9223372036854775808 ≤ r ∧ r ≤ 9223372036854775807) (hll : l.length ≤ 100000) :
    Calls Tryz.prog 90 #[.pointer (some ⟨g, 0, none⟩), .slice xa ins.length xc, .slice a l.length c] w fun e w' => ∃ v, e = .returned (.tuple #[v, .int .i64 (wordsR G ins l).2]) ∧ UNew w v (wordsR G ins l).1 w' := by
  have hpos := h.ok.wf.pos
  have hroom := h.ok.room
  have hmost := h.ok.most
  have hCk := simcheck_is h l.length c rfl hL (fun r hr => (hbd r hr).2)
  have hIn := fun (W : World) (hW : Ch [] w W) => Inputs_g (h.same hW (by simp))
  by_cases hb : badIn G l = true
  · have hR : wordsR G ins l = ([], 200) := by unfold wordsR; rw [if_pos hb]
    rw [hR]
    rw [if_pos hb] at hCk
    have HCK := Lib.hid hCk; clear hCk h hS hlt hL hbd hIn hb hR
    go_enter Tryz.func90, Tryz.ntmps90
    go_wp2_with fail
    refine HCK.out.mono ?_
    rintro e w1 ⟨rfl, hc1⟩
    have HC1 := Lib.hid hc1; clear hc1
    go_wp2_with fail
    go_ret2
    exact ⟨_, rfl, ⟨rfl, .inl ⟨rfl, rfl⟩⟩, by simp, HC1.out⟩
  · have hb2 : badIn G l = false := by simpa using hb
    rw [if_neg hb] at hCk
    obtain ⟨hnat, hnlt⟩ := badIn_no hb2
    by_cases hi : ins.length = (inputs G.nodes).length
    · have hR : wordsR G ins l = (wsOf ins G.nodes (nats l), 0) := by unfold wordsR; rw [if_neg hb, if_neg (by simp [hi])]
      rw [hR]
      have hNd := fun (W : World) (hW : Ch [] w W) => simnodes_is (h.same hW (by simp)) xc (hS.ch hW (by simp)) hi.symm hlt hcap hxc
      have hvl := wvF_len U64 ins G.nodes
      have hvb := (wvF_lt (N := 64) hlt G.nodes).1
      rw [u64_pow] at hvb
      unfold wsOf
      generalize hV : (wvF U64 ins G.nodes).1 = V at *
      clear hV
      have hie : ((ins.length : Int) != (inputs G.nodes).length) = false := by simp [hi]
      have HCK := Lib.hid hCk; clear hCk
      have HIN := Lib.hid hIn; clear hIn
      have HND := Lib.hid hNd; clear hNd
      have HVL := Lib.hid hvl; clear hvl
      have HVB := Lib.hid hvb; clear hvb
      have HL := Lib.hid hL; clear hL
      have HNL := Lib.hid hnlt; clear hnlt
      have HNT := Lib.hid hnat; clear hnat
      clear h hS hlt hbd hb hb2 hR hi
      generalize (inputs G.nodes).length = ni at *
      have hcf : ∀ args w, (callFunc 150 args).run Tryz.prog w = .ok (.enter 150 args) w := fnvsimof1
      go_enter Tryz.func90, Tryz.ntmps90
      go_wp2_with fail
      refine HCK.out.mono ?_
      rintro e w1 ⟨rfl, hc1⟩
      have hI1 := HIN.out w1 hc1
      have HI1 := Lib.hid hI1; clear hI1 HIN
      have HC1 := Lib.hid hc1; clear hc1
      go_wp2_with fail
      refine HI1.out.mono ?_
      rintro e w2 ⟨v, rfl, hro, _, hc2⟩
      obtain ⟨ia, ic, rfl⟩ := row.shape hro
      have hc12 := HC1.out.trans hc2 (by simp)
      have hN2 := HND.out w2 hc12
      have HN2 := Lib.hid hN2; clear hN2 HND hro hc2
      have HC2 := Lib.hid hc12; clear hc12 HI1 HC1
      go_wp2_with fail
      refine HN2.out.mono ?_
      rintro e w3 ⟨rfl, hbo, hc3⟩
      have hc13 := HC2.out.trans hc3 (by simp)
      have hz23 := HC2.out.size
      clear HN2
      generalize w2.heap.size = ob at *
      have hOf := simof_is (w := w3) (some ⟨ob, 0, none⟩) G.nodes.length G.nodes.length
      have HOF := Lib.hid hOf; clear hOf
      have HBO := Lib.hid hbo; clear hbo
      have HC3 := Lib.hid hc13; clear hc13 hc3 HC2
      go_wp2_with fail
      refine HOF.out.mono ?_
      rintro e w4 ⟨rfl, hw4⟩
      have hbx := alw_blk (xs := [.slice (some ⟨ob, 0, none⟩) G.nodes.length G.nodes.length]) hw4
      have hbo := HBO.out.ch (alw_ch hw4) (by simp)
      have hc4 := HC3.out.trans (alw_ch hw4) (by simp)
      have hz34 := HC3.out.size
      clear hw4 HOF HBO HC3
      generalize w3.heap.size = bx at *
      have HBX := Lib.hid hbx; clear hbx
      have HBO := Lib.hid hbo; clear hbo
      have HC4 := Lib.hid hc4; clear hc4
      go_wp2_with fail
      go_loopw [10, 31] (fun o i wr => ∃ k : Nat, k ≤ l.length ∧ i = .int .i64 k ∧ Ch [] w4 wr ∧ row wr 148 1 o k (u64s (((nats l).take k).map (wref U64 V))) ∧ ∀ q ∈ o.ownBlock.toList, w4.heap.size ≤ q) (fun _ i _ => l.length - (intOf i).toNat)
      case atStart => exact ⟨0, by omega, rfl, Ch.refl _ _, ⟨rfl, .inl ⟨rfl, rfl⟩⟩, by simp⟩
      case round =>
        obtain ⟨k, hk, rfl, hc, hrow, hlo⟩ := hrel
        obtain ⟨oa, oc, rfl⟩ := row.shape hrow
        by_cases hlt : k < l.length
        · obtain ⟨x, hx⟩ : ∃ x, (nats l)[k]? = some x := ⟨_, List.getElem?_eq_getElem (by rw [nats_len]; exact hlt)⟩
          have hxl := HNL.out x (List.mem_of_getElem? hx)
          have hlx : l[k]? = some (x : Int) := by rw [← HNT.out, List.getElem?_map, hx]; rfl
          obtain ⟨xb, xo, rfl, hcl⟩ := HL.out.cells k x hlx
          have c0 := ((HC4.out.trans hc (by simp)).cell (cell_lt hcl) (by simp)).trans hcl
          have hW := simof1_is ((HBX.out.ch hc (by simp)).cell (i := 0) rfl) (HBO.out.ch hc (by simp)) HVL.out HVB.out x hxl (by omega)
          have hsu : u64s (((nats l).take (k + 1)).map (wref U64 V)) = u64s (((nats l).take k).map (wref U64 V)) ++ [.int .u64 (wref U64 V x)] := by rw [List.take_add_one, hx]; simp [u64s]
          generalize wref U64 V x = vx at hW hsu
          have hcA : Ch [] wr (wr.alloc (.cells #[.int .u64 vx] 148)) := (Ch.refl _ _).alloc _
          have hrA := hrow.ch hcA (by simp)
          have hbA : blk (wr.alloc (.cells #[.int .u64 vx] 148)) wr.heap.size [.int .u64 vx] := blk.new' _ _ rfl
          have HW := Lib.hid hW; clear hW
          have HSU := Lib.hid hsu; clear hsu
          have HRA := Lib.hid hrA; clear hrA hrow
          have HBA := Lib.hid hbA; clear hbA
          have HCA := Lib.hid hcA; clear hcA
          have HCP := Lib.hid hc; clear hc
          have HLO := Lib.hid hlo; clear hlo hcl hlx hx
          go_wp2_with fail
          refine HW.out.mono ?_
          rintro e w' ⟨rfl, rfl⟩
          go_wp2_with (at_builtin; go_loud (refine wpList_append_row slU64s rfl _ _ rfl (v := .slice oa k oc) (n := k) (xs := u64s (((nats l).take k).map (wref U64 V))) rfl HRA.out (ad := ⟨wr.heap.size, 0, none⟩) (m := 1) (c := 1) (news := [.int .u64 vx]) rfl rfl (news_blk HBA.out) (by simp [Value.oneCell']) (by omega) (by omega) ?_; intro v' w5 hown4 hC4 hf4; have HO4 := Lib.hid hown4; clear hown4; have HCC4 := Lib.hid hC4; clear hC4; have HF4 := Lib.hid hf4; clear hf4))
          go_roundw
          case rel =>
            obtain ⟨q1, q2⟩ := app_step HCP.out HCA.out HLO.out HCC4.out HF4.out
            refine ⟨k + 1, by omega, by go_num, q1, ?_, q2⟩
            rw [HSU.out]; exact HO4.out
          case measure => simp [intOf]; omega
        · have hkn : k = l.length := by omega
          have hall : (nats l).take k = nats l := List.take_of_length_le (by rw [nats_len]; omega)
          rw [hall] at hrow
          rw [hkn] at hrow hlo
          rw [hkn]
          have HROW := Lib.hid hrow; clear hrow
          have HLO := Lib.hid hlo; clear hlo
          have HCP := Lib.hid hc; clear hc hall hkn
          go_wp2_with fail
          go_ret2
          refine ⟨.slice oa l.length oc, rfl, ?_, fun q hq => Nat.le_trans HC4.out.size (HLO.out q hq), HC4.out.trans HCP.out (by simp)⟩
          have := HROW.out
          simpa using this
    · have hR : wordsR G ins l = ([], 210) := by unfold wordsR; rw [if_neg hb, if_pos hi]
      rw [hR]
      have hie : ((ins.length : Int) != (inputs G.nodes).length) = true := by simp; omega
      have HCK := Lib.hid hCk; clear hCk
      have HIN := Lib.hid hIn; clear hIn
      clear h hS hlt hL hbd hb hb2 hR hi hnat hnlt
      generalize (inputs G.nodes).length = ni at *
      go_enter Tryz.func90, Tryz.ntmps90
      go_wp2_with fail
      refine HCK.out.mono ?_
      rintro e w1 ⟨rfl, hc1⟩
      have hI1 := HIN.out w1 hc1
      have HI1 := Lib.hid hI1; clear hI1 HIN
      have HC1 := Lib.hid hc1; clear hc1
      go_wp2_with fail
      refine HI1.out.mono ?_
      rintro e w2 ⟨v, rfl, hro, _, hc2⟩
      obtain ⟨ia, ic, rfl⟩ := row.shape hro
      have HC2 := Lib.hid (HC1.out.trans hc2 (by simp)); clear hc2 HI1 HC1 hro
      go_wp2_with fail
      go_ret2
      exact ⟨_, rfl, ⟨rfl, .inl ⟨rfl, rfl⟩⟩, by simp, HC2.out⟩
end
end Go.Proofs.YtchledddgmbndaaGreat
namespace Go.Proofs.YtchledddgmbndaaGreat
open Go.RowKit Go.Mem Go.Aig
theorem row.capLe' {w : World} {e : TypeId} {size : Nat} {a : Option Addr} {n c m : Nat} {xs : List Value} (h : row w e size (.slice a n c) m xs) : m ≤ c ∧ c ≤ 9223372036854775807 := by
  rcases h.2 with ⟨e1, h0⟩ | ⟨g', cap', cur, e1, _, _, h1, h2, _⟩
  · cases e1; omega
  · cases e1; exact ⟨h1, by unfold maxLen at h2; exact h2⟩
/-- what Bits returns -/
def bitsR (G : Gra) (ins : List Bool) (l : List Int) : List Bool × Nat := if badIn G l then ([], 200) else if ins.length ≠ (inputs G.nodes).length then ([], 210) else (bsOf ins G.nodes (nats l), 0)
theorem wOf_len (l : List Bool) : (wOf l).length = l.length := by simp [wOf]
theorem bitsR_words (G : Gra) (ins : List Bool) (l : List Int) : bitsR G ins l = ((wordsR G (wOf ins) l).1.map (fun v => v.testBit 0), (wordsR G (wOf ins) l).2) := by
  unfold bitsR wordsR
  rw [wOf_len]
  split
  · rfl
  · split
    · rfl
    · rw [wsOf_bits]
/-- a new slice of truths -/
def BNew (w : World) (v : Value) (l : List Bool) (w' : World) : Prop := row w' 4 1 v l.length (bools l) ∧ (∀ q ∈ v.ownBlock.toList, w.heap.size ≤ q) ∧ Ch [] w w'
section
variable {w : World} {g : Nat} {G : Gra} {F : List Nat}
set_option maxRecDepth 100000 in
set_option maxHeartbeats 8000000 in
theorem simBits_is (h : GIn w g G F) {xa : Option Addr} {ins : List Bool} (n xc : Nat) (hn : ins.length = n) (hS : Sb w xa ins) (hnl : n ≤ 100000) {a : Option Addr} {l : List Int} (m c : Nat) (hm : l.length = m) (hL : Sl w a l) (hbd : ∀ r ∈ l, -9223372036854775808 ≤ r ∧ r ≤ 9223372036854775807) (hll : m ≤ 100000) :
    Calls Tryz.prog 52 #[.pointer (some ⟨g, 0, none⟩), .slice xa n xc, .slice a m c] w fun e w' => ∃ v, e = .returned (.tuple #[v, .int .i64 (bitsR G ins l).2]) ∧ BNew w v (bitsR G ins l).1 w' := by
  subst hn hm
  have hW := fun (W : World) (hW : Ch [] w W) (wa : Option Addr) (wc : Nat) (hwa : row W 148 1 (.slice wa ins.length wc) ins.length (u64s (wOf ins))) => simWords_is (h.same hW (by simp)) (ins := wOf ins) (xa := wa) wc (row.sv hwa rfl (by omega)) (wOf_lt ins) (by rw [wOf_len]; exact (row.capLe' hwa).1) (row.capLe' hwa).2 c (hL.ch hW (by simp)) hbd hll
  simp only [wOf_len] at hW
  rw [bitsR_words]
  have hwl : (wordsR G (wOf ins) l).1.length ≤ l.length := by
    unfold wordsR
    split
    · simp
    · split
      · simp
      · simp [wsOf]
  have hwb : ∀ v ∈ (wordsR G (wOf ins) l).1, v < 2 ^ 64 := by
    unfold wordsR
    split
    · simp
    · split
      · simp
      · exact wsOf_lt (wOf_lt ins) _ _
  generalize wordsR G (wOf ins) l = R at *
  obtain ⟨ws, e0⟩ := R
  simp only at hwl hwb hW ⊢
  have HW := Lib.hid hW; clear hW
  have HS := Lib.hid hS; clear hS h hL hbd
  have HWB := Lib.hid hwb; clear hwb
  go_enter Tryz.func52, Tryz.ntmps52
  go_wp2_with fail
  go_loopw [8, 19] (fun o i wr => ∃ k : Nat, k ≤ ins.length ∧ i = .int .i64 k ∧ Ch [] w wr ∧ row wr 148 1 o k (u64s (wOf (ins.take k))) ∧ ∀ q ∈ o.ownBlock.toList, w.heap.size ≤ q) (fun _ i _ => ins.length - (intOf i).toNat)
  case atStart => exact ⟨0, by omega, rfl, Ch.refl _ _, ⟨rfl, .inl ⟨rfl, rfl⟩⟩, by simp⟩
  case round =>
    obtain ⟨k, hk, rfl, hc, hrow, hlo⟩ := hrel
    obtain ⟨oa, oc, rfl⟩ := row.shape hrow
    by_cases hlt : k < ins.length
    · obtain ⟨x, hx⟩ : ∃ x, ins[k]? = some x := ⟨_, List.getElem?_eq_getElem hlt⟩
      obtain ⟨xb, xo, rfl, hcl⟩ := HS.out.cells k (.bool x) (by simp [hx])
      have c0 := (hc.cell (cell_lt hcl) (by simp)).trans hcl
      cases x
      · have hsu : u64s (wOf (ins.take (k + 1))) = u64s (wOf (ins.take k)) ++ [.int .u64 0] := by rw [List.take_add_one, hx]; simp [u64s, wOf]
        have hcA : Ch [] wr (wr.alloc (.cells #[.int .u64 0] 148)) := (Ch.refl _ _).alloc _
        have hrA := hrow.ch hcA (by simp)
        have hbA : blk (wr.alloc (.cells #[.int .u64 0] 148)) wr.heap.size [.int .u64 0] := blk.new' _ _ rfl
        have HSU := Lib.hid hsu; clear hsu
        have HRA := Lib.hid hrA; clear hrA hrow
        have HBA := Lib.hid hbA; clear hbA
        have HCA := Lib.hid hcA; clear hcA
        have HCP := Lib.hid hc; clear hc
        have HLO := Lib.hid hlo; clear hlo hcl hx
        go_wp2_with (at_builtin; go_loud (refine wpList_append_row slU64s rfl _ _ rfl (v := .slice oa k oc) (n := k) (xs := u64s (wOf (ins.take k))) rfl HRA.out (ad := ⟨wr.heap.size, 0, none⟩) (m := 1) (c := 1) (news := [.int .u64 0]) rfl rfl (news_blk HBA.out) (by simp [Value.oneCell']) (by omega) (by omega) ?_; intro v' w5 hown4 hC4 hf4; have HO4 := Lib.hid hown4; clear hown4; have HCC4 := Lib.hid hC4; clear hC4; have HF4 := Lib.hid hf4; clear hf4))
        go_roundw
        case rel =>
          obtain ⟨q1, q2⟩ := app_step HCP.out HCA.out HLO.out HCC4.out HF4.out
          refine ⟨k + 1, by omega, by go_num, q1, ?_, q2⟩
          rw [HSU.out]; exact HO4.out
        case measure => simp [intOf]; omega
      · have hsu : u64s (wOf (ins.take (k + 1))) = u64s (wOf (ins.take k)) ++ [.int .u64 1] := by rw [List.take_add_one, hx]; simp [u64s, wOf]
        have hcA : Ch [] wr (wr.alloc (.cells #[.int .u64 1] 148)) := (Ch.refl _ _).alloc _
        have hrA := hrow.ch hcA (by simp)
        have hbA : blk (wr.alloc (.cells #[.int .u64 1] 148)) wr.heap.size [.int .u64 1] := blk.new' _ _ rfl
        have HSU := Lib.hid hsu; clear hsu
        have HRA := Lib.hid hrA; clear hrA hrow
        have HBA := Lib.hid hbA; clear hbA
        have HCA := Lib.hid hcA; clear hcA
        have HCP := Lib.hid hc; clear hc
        have HLO := Lib.hid hlo; clear hlo hcl hx
        go_wp2_with (at_builtin; go_loud (refine wpList_append_row slU64s rfl _ _ rfl (v := .slice oa k oc) (n := k) (xs := u64s (wOf (ins.take k))) rfl HRA.out (ad := ⟨wr.heap.size, 0, none⟩) (m := 1) (c := 1) (news := [.int .u64 1]) rfl rfl (news_blk HBA.out) (by simp [Value.oneCell']) (by omega) (by omega) ?_; intro v' w5 hown4 hC4 hf4; have HO4 := Lib.hid hown4; clear hown4; have HCC4 := Lib.hid hC4; clear hC4; have HF4 := Lib.hid hf4; clear hf4))
        go_roundw
        case rel =>
          obtain ⟨q1, q2⟩ := app_step HCP.out HCA.out HLO.out HCC4.out HF4.out
          refine ⟨k + 1, by omega, by go_num, q1, ?_, q2⟩
          rw [HSU.out]; exact HO4.out
        case measure => simp [intOf]; omega
    · have hkn : k = ins.length := by omega
      rw [hkn, List.take_of_length_le (Nat.le_refl _)] at hrow
      rw [hkn] at hlo
      rw [hkn]
      have hW1 := HW.out wr hc oa oc hrow
      have HW1 := Lib.hid hW1; clear hW1 HW hrow hlo hkn
      have HC := Lib.hid hc; clear hc
      go_wp2_with fail
      refine HW1.out.mono ?_
      rintro e w3 ⟨v, rfl, hrv, _, hc3⟩
      obtain ⟨va, vc, rfl⟩ := row.shape hrv
      have hsv := row.sv hrv rfl (by omega)
      have HSV := Lib.hid hsv; clear hsv hrv
      have HC3 := Lib.hid (HC.out.trans hc3 (by simp)); clear hc3 HC HW1
      go_wp2_with fail
      go_loopw [14, 38] (fun o i wq => ∃ j : Nat, j ≤ ws.length ∧ i = .int .i64 j ∧ Ch [] w3 wq ∧ row wq 4 1 o j (bools ((ws.take j).map (fun v => v.testBit 0))) ∧ ∀ q ∈ o.ownBlock.toList, w3.heap.size ≤ q) (fun _ i _ => ws.length - (intOf i).toNat)
      case atStart => exact ⟨0, by omega, rfl, Ch.refl _ _, ⟨rfl, .inl ⟨rfl, rfl⟩⟩, by simp⟩
      case round =>
        obtain ⟨j, hj, rfl, hc, hrow, hlo⟩ := hrel
        obtain ⟨oa, oc, rfl⟩ := row.shape hrow
        by_cases hlt : j < ws.length
        · obtain ⟨x, hx⟩ : ∃ x, ws[j]? = some x := ⟨_, List.getElem?_eq_getElem hlt⟩
          have hxb := HWB.out x (List.mem_of_getElem? hx)
          obtain ⟨xb, xo, rfl, hcl⟩ := HSV.out.cells j (.int .u64 x) (u64s_get hx)
          have c0 := (hc.cell (cell_lt hcl) (by simp)).trans hcl
          have hand : bits .and .u64 (x : Int) 1 = ((x &&& 1 : Nat) : Int) := bits_and_u64_nat x 1 (by omega) (by omega)
          have hbe : (((x &&& 1 : Nat) : Int) == 1) = x.testBit 0 := by
            rw [Nat.testBit_zero, show x &&& 1 = x % 2 from Nat.and_one_is_mod x]
            rcases Nat.mod_two_eq_zero_or_one x with h | h <;> simp [h]
          have hsu : bools ((ws.take (j + 1)).map (fun v => v.testBit 0)) = bools ((ws.take j).map (fun v => v.testBit 0)) ++ [.bool (x.testBit 0)] := by rw [List.take_add_one, hx]; simp [bools]
          generalize x.testBit 0 = tb at hbe hsu
          generalize x &&& 1 = x1 at hand hbe
          have hcA : Ch [] wr (wr.alloc (.cells #[.bool tb] 4)) := (Ch.refl _ _).alloc _
          have hrA := hrow.ch hcA (by simp)
          have hbA : blk (wr.alloc (.cells #[.bool tb] 4)) wr.heap.size [.bool tb] := blk.new' _ _ rfl
          have HSU := Lib.hid hsu; clear hsu
          have HRA := Lib.hid hrA; clear hrA hrow
          have HBA := Lib.hid hbA; clear hbA
          have HCA := Lib.hid hcA; clear hcA
          have HCP := Lib.hid hc; clear hc
          have HLO := Lib.hid hlo; clear hlo hcl hx hxb
          go_wp2_with (at_builtin; go_loud (refine wpList_append_row slBools rfl _ _ rfl (v := .slice oa j oc) (n := j) (xs := bools ((ws.take j).map (fun v => v.testBit 0))) rfl HRA.out (ad := ⟨wr.heap.size, 0, none⟩) (m := 1) (c := 1) (news := [.bool tb]) rfl rfl (news_blk HBA.out) (by simp [Value.oneCell']) (by omega) (by omega) ?_; intro v' w5 hown4 hC4 hf4; have HO4 := Lib.hid hown4; clear hown4; have HCC4 := Lib.hid hC4; clear hC4; have HF4 := Lib.hid hf4; clear hf4))
          go_roundw
          case rel =>
            obtain ⟨q1, q2⟩ := app_step HCP.out HCA.out HLO.out HCC4.out HF4.out
            refine ⟨j + 1, by omega, by go_num, q1, ?_, q2⟩
            rw [HSU.out]; exact HO4.out
          case measure => simp [intOf]; omega
        · have hkn : j = ws.length := by omega
          rw [hkn, List.take_of_length_le (Nat.le_refl _)] at hrow
          rw [hkn] at hlo
          rw [hkn]
          have HROW := Lib.hid hrow; clear hrow
          have HLO := Lib.hid hlo; clear hlo
          have HCP := Lib.hid hc; clear hc hkn
          go_wp2_with fail
          go_ret2
          refine ⟨.slice oa ws.length oc, rfl, ?_, fun q hq => Nat.le_trans HC3.out.size (HLO.out q hq), HC3.out.trans HCP.out (by simp)⟩
          have := HROW.out
          simpa using this
end
end Go.Proofs.YtchledddgmbndaaGreat
namespace Go.Proofs.YtchledddgmbndaaGreat
open Go.RowKit Go.Mem Go.Aig
theorem infoRefs : (Tryz.prog.info? 39).map (fun i => (i.zero, i.size, i.bytes)) = some (some (.slice none 0 0), 1, 24) := by kernel_rfl
theorem slRows : SliceTy Tryz.prog 42 39 1 24 (.slice none 0 0) := ⟨Tryz.underlying42, infoRefs, rfl, by decide⟩
theorem fnvmade1 : Fnv 43 := fnv_of Tryz.func43 (by simp [Tryz.f43]) (by simp [Tryz.f43])
theorem fnvmade2 : Fnv 44 := fnv_of Tryz.func44 (by simp [Tryz.f44]) (by simp [Tryz.f44])
section
variable {w : World}
set_option maxRecDepth 100000 in
set_option maxHeartbeats 2000000 in
theorem made1_is {bok bout : Nat} {ok : Bool} {oa : Option Addr} {m oc : Nat} {vs : List Value} (hk : blk w bok [.bool ok]) (ho : blk w bout [.slice oa m oc]) (hne : bok ≠ bout) (hr : row w 39 1 (.slice oa m oc) m vs) (hm : m ≤ 1000) (hd : ∀ k ∈ (Value.slice oa m oc).ownBlock.toList, k ≠ bok ∧ k ≠ bout) (a : Option Addr) (n c : Nat) (e : Nat) :
    Calls Tryz.prog 43 (#[.slice a n c, .int .i64 e] ++ #[.pointer (some ⟨bok, 0, none⟩), .pointer (some ⟨bout, 0, none⟩)]) w fun en w' => (∃ v, en = .returned v) ∧ ∃ qa qc, blk w' bok [.bool (ok && (e == 0))] ∧ blk w' bout [.slice qa (m + 1) qc] ∧ row w' 39 1 (.slice qa (m + 1) qc) (m + 1) (vs ++ [.slice a n c]) ∧
      Ch (bok :: bout :: (Value.slice oa m oc).ownBlock.toList) w w' ∧ ∀ k, (Value.slice qa (m + 1) qc).ownBlock = some k → (Value.slice oa m oc).ownBlock = some k ∨ w.heap.size ≤ k := by
  show Calls Tryz.prog 43 #[.slice a n c, .int .i64 e, .pointer (some ⟨bok, 0, none⟩), .pointer (some ⟨bout, 0, none⟩)] w _
  have hkl := hk.lt
  have hol := ho.lt
  have k0 := hk.cell (i := 0) rfl
  have k1 := hk.frozen (i := 0)
  have hq : ((e : Int) == 0) = (e == 0) := by
    by_cases h : e = 0
    · subst h; rfl
    · rw [beqN (by omega)]; simp [h]
  have hdown : ∀ k ∈ (Value.slice oa m oc).ownBlock.toList, k ≠ bok ∧ k ≠ bout := hd
  have hfin : ∀ (b : Bool) (W4 : World) (gb gc : Nat), row W4 39 1 (.slice (some ⟨gb, 0, none⟩) (m + 1) gc) (m + 1) (vs ++ [.slice a n c]) → Ch (Value.slice oa m oc).ownBlock.toList ((w.setCell ⟨bok, 0, none⟩ (.bool b)).alloc (.cells #[.slice a n c] 39)) W4 →
      (∀ k, (Value.slice (some ⟨gb, 0, none⟩) (m + 1) gc).ownBlock = some k → (Value.slice oa m oc).ownBlock = some k ∨ ((w.setCell ⟨bok, 0, none⟩ (.bool b)).alloc (.cells #[.slice a n c] 39)).heap.size ≤ k) → b = (ok && (e == 0)) →
      ∃ qa qc, blk (W4.setCell ⟨bout, 0, none⟩ (.slice (some ⟨gb, 0, none⟩) (m + 1) gc)) bok [.bool (ok && (e == 0))] ∧ blk (W4.setCell ⟨bout, 0, none⟩ (.slice (some ⟨gb, 0, none⟩) (m + 1) gc)) bout [.slice qa (m + 1) qc] ∧ row (W4.setCell ⟨bout, 0, none⟩ (.slice (some ⟨gb, 0, none⟩) (m + 1) gc)) 39 1 (.slice qa (m + 1) qc) (m + 1) (vs ++ [.slice a n c]) ∧
        Ch (bok :: bout :: (Value.slice oa m oc).ownBlock.toList) w (W4.setCell ⟨bout, 0, none⟩ (.slice (some ⟨gb, 0, none⟩) (m + 1) gc)) ∧ ∀ k, (Value.slice qa (m + 1) qc).ownBlock = some k → (Value.slice oa m oc).ownBlock = some k ∨ w.heap.size ≤ k := by
    rintro b W4 gb gc hrow hc4 hf4 rfl
    have h1 : Ch (bok :: bout :: (Value.slice oa m oc).ownBlock.toList) w ((w.setCell ⟨bok, 0, none⟩ (.bool (ok && (e == 0)))).alloc (.cells #[.slice a n c] 39)) := ((Ch.refl _ _).setCell (.inl (by simp)) _).alloc _
    have h2 := h1.trans hc4 (fun k hk => .inl (by simp at hk; simp [hk]))
    have hz : ((w.setCell ⟨bok, 0, none⟩ (.bool (ok && (e == 0)))).alloc (.cells #[.slice a n c] 39)).heap.size = w.heap.size + 1 := by simp [World.setCell]
    have hnk : bok ∉ (Value.slice oa m oc).ownBlock.toList := fun h => (hd _ h).1 rfl
    have hno : bout ∉ (Value.slice oa m oc).ownBlock.toList := fun h => (hd _ h).2 rfl
    have hgb : gb ≠ bout := by
      rcases hf4 gb rfl with h | h
      · exact (hd gb (by simpa using h)).2
      · rw [hz] at h; omega
    have hK : blk W4 bok [.bool (ok && (e == 0))] := ((hk.set (i := 0) (.bool (ok && (e == 0)))).alloc (.cells #[.slice a n c] 39)).ch hc4 hnk
    have hO : blk W4 bout [.slice oa m oc] := ((ho.other (p := ⟨bok, 0, none⟩) (by exact hne.symm) (.bool (ok && (e == 0)))).alloc (.cells #[.slice a n c] 39)).ch hc4 hno
    refine ⟨some ⟨gb, 0, none⟩, gc, hK.other (by exact hne) _, hO.set (i := 0) _, hrow.ch (F := [bout]) ((Ch.refl _ _).setCell (by simp) _) (fun k hk => by cases hk; simpa using hgb), h2.setCell (.inl (by simp)) _, fun k hk => ?_⟩
    rcases hf4 k hk with h | h
    · exact .inl h
    · rw [hz] at h; exact .inr (by omega)
  have hrA : ∀ b : Bool, row ((w.setCell ⟨bok, 0, none⟩ (.bool b)).alloc (.cells #[.slice a n c] 39)) 39 1 (.slice oa m oc) m vs := fun b => hr.ch (F := [bok]) (((Ch.refl _ _).setCell (by simp) _).alloc _) (fun k hk2 => by have := hd k (by simpa using hk2); simp; exact this.1)
  have hbA : ∀ b : Bool, blk ((w.setCell ⟨bok, 0, none⟩ (.bool b)).alloc (.cells #[.slice a n c] 39)) (w.setCell ⟨bok, 0, none⟩ (.bool b)).heap.size [.slice a n c] := fun b => blk.new' _ _ rfl
  have hoB : ∀ (b : Bool) (W4 : World), Ch (Value.slice oa m oc).ownBlock.toList ((w.setCell ⟨bok, 0, none⟩ (.bool b)).alloc (.cells #[.slice a n c] 39)) W4 → W4.cell? ⟨bout, 0, none⟩ = some (.slice oa m oc) ∧ W4.frozen? ⟨bout, 0, none⟩ = false := fun b W4 hc => by
    have hO : blk W4 bout [.slice oa m oc] := ((ho.other (p := ⟨bok, 0, none⟩) (by exact hne.symm) (.bool b)).alloc (.cells #[.slice a n c] 39)).ch hc (fun h => (hd _ h).2 rfl)
    exact ⟨hO.cell rfl, hO.frozen⟩
  have o0 := ho.cell (i := 0) rfl
  have HRA := Lib.hid hrA; clear hrA hr
  have HBA := Lib.hid hbA; clear hbA
  have HOB := Lib.hid hoB; clear hoB
  have HFIN := Lib.hid hfin; clear hfin
  clear hk ho hd hdown
  have hne2 : bout ≠ bok := hne.symm
  cases ok
  · go_enter Tryz.func43, Tryz.ntmps43
    go_wp2_with (at_builtin; go_loud (refine wpList_append_row slRows rfl _ _ rfl (v := .slice oa m oc) (n := m) (xs := vs) rfl (HRA.out false) (ad := ⟨w.heap.size, 0, none⟩) (m := 1) (c := 1) (news := [.slice a n c]) rfl rfl (news_blk (by have := HBA.out false; simpa [World.setCell] using this)) (by simp [Value.oneCell']) (by omega) (by omega) ?_; intro v' w4 hown4 hC4 hf4; obtain ⟨gb, gc, rfl⟩ := row.parts hown4 (by omega); obtain ⟨s0, s1⟩ := HOB.out _ _ hC4; have HO4 := Lib.hid hown4; clear hown4; have HC4 := Lib.hid hC4; clear hC4; have HF4 := Lib.hid hf4; clear hf4))
    refine bodyPost_end (results_none rfl _ _ _) rfl ?_
    exact ⟨⟨_, rfl⟩, HFIN.out false _ gb gc HO4.out HC4.out HF4.out rfl⟩
  · go_enter Tryz.func43, Tryz.ntmps43
    go_wp2_with (at_builtin; go_loud (refine wpList_append_row slRows rfl _ _ rfl (v := .slice oa m oc) (n := m) (xs := vs) rfl (HRA.out (e == 0)) (ad := ⟨w.heap.size, 0, none⟩) (m := 1) (c := 1) (news := [.slice a n c]) rfl rfl (news_blk (by have := HBA.out (e == 0); simpa [World.setCell] using this)) (by simp [Value.oneCell']) (by omega) (by omega) ?_; intro v' w4 hown4 hC4 hf4; obtain ⟨gb, gc, rfl⟩ := row.parts hown4 (by omega); obtain ⟨s0, s1⟩ := HOB.out _ _ hC4; have HO4 := Lib.hid hown4; clear hown4; have HC4 := Lib.hid hC4; clear hC4; have HF4 := Lib.hid hf4; clear hf4))
    refine bodyPost_end (results_none rfl _ _ _) rfl ?_
    exact ⟨⟨_, rfl⟩, HFIN.out (e == 0) _ gb gc HO4.out HC4.out HF4.out (by simp)⟩
end
end Go.Proofs.YtchledddgmbndaaGreat
namespace Go.Proofs.YtchledddgmbndaaGreat
open Go.RowKit Go.Mem Go.Aig
structure MD (w0 w1 : World) (F0 : List Nat) (w : World) (g : Nat) (G : Gra) (F : List Nat) (L : List (Value × List Int)) (bok bout bfn : Nat) (ok : Bool) (oa : Option Addr) (m oc : Nat) (vs : List Value) : Prop where
  hold : Hold w0 w g G F L
  bk : blk w bok [.bool ok]
  bo : blk w bout [.slice oa m oc]
  bf : blk w bfn [.func (.func 43) #[] #[.pointer (some ⟨bok, 0, none⟩), .pointer (some ⟨bout, 0, none⟩)]]
  row : row w 39 1 (.slice oa m oc) m vs
  ge : w0.heap.size ≤ bok ∧ w0.heap.size ≤ bout ∧ w0.heap.size ≤ bfn
  ne : bok ≠ bout ∧ bok ≠ bfn ∧ bout ≠ bfn
  nF : bok ∉ F ∧ bout ∉ F ∧ bfn ∉ F
  oo : ∀ k, (Value.slice oa m oc).ownBlock = some k → w0.heap.size ≤ k ∧ k ∉ F ∧ k ≠ bok ∧ k ≠ bout ∧ k ≠ bfn
  sep : ∀ p ∈ L, ∀ k, p.1.ownBlock = some k → k ≠ bok ∧ k ≠ bout ∧ k ≠ bfn ∧ (Value.slice oa m oc).ownBlock ≠ some k
  ch1 : Ch F0 w1 w
  ge1 : w1.heap.size ≤ bok ∧ w1.heap.size ≤ bout ∧ w1.heap.size ≤ bfn
  oo1 : ∀ k, (Value.slice oa m oc).ownBlock = some k → w1.heap.size ≤ k
  f1 : ∀ k ∈ F, k ∈ F0 ∨ w1.heap.size ≤ k
section
variable {w0 w1 w : World} {F0 : List Nat} {g : Nat} {G : Gra} {F : List Nat} {L : List (Value × List Int)} {bok bout bfn : Nat} {ok : Bool} {oa : Option Addr} {m oc : Nat} {vs : List Value}
theorem Hold.chX {w' : World} {X : List Nat} (h : Hold w0 w g G F L) (hc : Ch X w w') (hX : ∀ k ∈ X, k ∉ F ∧ w0.heap.size ≤ k) (hL : ∀ p ∈ L, ∀ k, p.1.ownBlock = some k → k ∉ X) : Hold w0 w' g G F L :=
  ⟨⟨h.own.gin.same hc (fun k hk hk2 => (hX k hk2).1 hk), h.own.own, h.own.ch.trans hc (fun k hk => .inr (hX k hk).2)⟩, fun p hp => ⟨(h.held p hp).row.ch hc (hL p hp), (h.held p hp).len, (h.held p hp).bd, (h.held p hp).own⟩, fun p hp => by cases hp⟩
theorem MD.graph {w' : World} {G' : Gra} {F' : List Nat} {L' : List (Value × List Int)} (h : MD w0 w1 F0 w g G F L bok bout bfn ok oa m oc vs) (hh : Hold w0 w' g G' F' L') (hc : Ch F w w') (hF : ∀ k ∈ F', k ∈ F ∨ w.heap.size ≤ k) (hL : ∀ p ∈ L', p ∈ L ∨ ∀ k, p.1.ownBlock = some k → w.heap.size ≤ k) :
    MD w0 w1 F0 w' g G' F' L' bok bout bfn ok oa m oc vs := by
  have h1 := h.bk.lt; have h2 := h.bo.lt; have h3 := h.bf.lt
  have hn : ∀ k, k < w.heap.size → k ∉ F → k ∉ F' := fun k hk hkF hk2 => (hF k hk2).elim hkF (by omega)
  refine ⟨hh, h.bk.ch hc h.nF.1, h.bo.ch hc h.nF.2.1, h.bf.ch hc h.nF.2.2, h.row.ch hc (fun k hk => (h.oo k hk).2.1), h.ge, h.ne, ⟨hn _ h1 h.nF.1, hn _ h2 h.nF.2.1, hn _ h3 h.nF.2.2⟩, fun k hk => ?_, fun p hp k hk => ?_, ?_, h.ge1, h.oo1, fun k hk => ?_⟩
  · have h4 := h.oo k hk
    exact ⟨h4.1, hn k (h.row.lt k hk).2 h4.2.1, h4.2.2⟩
  · rcases hL p hp with hp | hp
    · exact h.sep p hp k hk
    · have h5 := hp k hk
      exact ⟨by omega, by omega, by omega, fun e => by have := (h.row.lt k e).2; omega⟩
  · exact h.ch1.trans hc h.f1
  · rcases hF k hk with e | e
    · exact h.f1 k e
    · exact .inr (Nat.le_trans h.ch1.size e)
theorem MD.same {w' : World} (h : MD w0 w1 F0 w g G F L bok bout bfn ok oa m oc vs) (hc : Ch [] w w') : MD w0 w1 F0 w' g G F L bok bout bfn ok oa m oc vs :=
  h.graph (h.hold.same hc) (hc.mono (by simp)) (fun _ hk => .inl hk) (fun _ hp => .inl hp)
theorem MD.word {w' : World} {G' : Gra} {v : Value} {l : List Nat} (h : MD w0 w1 F0 w g G F L bok bout bfn ok oa m oc vs) (ht : GVo w g G' [] F v l w') (hb : ∀ r ∈ l, r ≤ 1000000) (hl : l.length ≤ 1000000) : ∃ a c F', v = .slice a l.length c ∧ MD w0 w1 F0 w' g G' F' ((.slice a l.length c, natInts l) :: L) bok bout bfn ok oa m oc vs := by
  have ht0 := ht
  obtain ⟨F', h1, h2, h3, h4, h5, h6⟩ := ht
  obtain ⟨a, c, rfl⟩ := row.shape h5
  have hk2 := h.hold.to (G' := G') ⟨F', h1, h2, h3, h4⟩
  refine ⟨a, c, F', rfl, h.graph ⟨⟨h1, fun k hk => (h3 k hk).elim (h.hold.own.own k) (fun e => Nat.le_trans h.hold.own.ch.size e), h.hold.own.ch.trans h2 (fun k hk => .inr (h.hold.own.own k hk))⟩, fun p hp => ?_, fun p hp => by cases hp⟩ h2 h3 (fun p hp => ?_)⟩
  · rcases List.mem_cons.1 hp with rfl | hp
    · refine ⟨?_, by simpa using hl, fun r hr => ?_, fun k hk => ⟨Nat.le_trans h.hold.own.ch.size (h6 k hk).1, (h6 k hk).2⟩⟩
      · simp only [natInts_len]
        rw [← refs_natInts]
        exact h5
      · obtain ⟨q, hq, rfl⟩ := List.mem_map.1 hr
        have := hb q hq
        omega
    · exact (h.hold.held p hp).keep h2 h3
  · rcases List.mem_cons.1 hp with rfl | hp
    · exact .inr (fun k hk => (h6 k hk).1)
    · exact .inl hp
theorem MD.ref {w' : World} {G' : Gra} (h : MD w0 w1 F0 w g G F L bok bout bfn ok oa m oc vs) (ht : GTo w g G' F w') : ∃ F', MD w0 w1 F0 w' g G' F' L bok bout bfn ok oa m oc vs := by
  obtain ⟨F', h1, h2, h3, h4⟩ := ht
  exact ⟨F', h.graph ⟨⟨h1, fun k hk => (h3 k hk).elim (h.hold.own.own k) (fun e => Nat.le_trans h.hold.own.ch.size e), h.hold.own.ch.trans h2 (fun k hk => .inr (h.hold.own.own k hk))⟩, fun p hp => (h.hold.held p hp).keep h2 h3, fun p hp => by cases hp⟩ h2 h3 (fun _ hp => .inl hp)⟩
theorem MD.note {w' : World} {ok' : Bool} {qa : Option Addr} {qc : Nat} {vs' : List Value} (h : MD w0 w1 F0 w g G F L bok bout bfn ok oa m oc vs) (h1 : blk w' bok [.bool ok']) (h2 : blk w' bout [.slice qa (m + 1) qc]) (h3 : Go.Mem.row w' 39 1 (.slice qa (m + 1) qc) (m + 1) vs') (hc : Ch (bok :: bout :: (Value.slice oa m oc).ownBlock.toList) w w')
    (hf : ∀ k, (Value.slice qa (m + 1) qc).ownBlock = some k → (Value.slice oa m oc).ownBlock = some k ∨ w.heap.size ≤ k) : MD w0 w1 F0 w' g G F L bok bout bfn ok' qa (m + 1) qc vs' := by
  have k1 := h.bk.lt; have k2 := h.bo.lt; have k3 := h.bf.lt
  have hz : w0.heap.size ≤ w.heap.size := h.hold.own.ch.size
  have hX : ∀ k ∈ bok :: bout :: (Value.slice oa m oc).ownBlock.toList, k ∉ F ∧ w0.heap.size ≤ k := fun k hk => by
    simp only [List.mem_cons, Option.mem_toList] at hk
    rcases hk with rfl | rfl | hk
    · exact ⟨h.nF.1, h.ge.1⟩
    · exact ⟨h.nF.2.1, h.ge.2.1⟩
    · exact ⟨(h.oo k hk).2.1, (h.oo k hk).1⟩
  refine ⟨h.hold.chX hc hX (fun p hp k hk hk2 => ?_), h1, h2, h.bf.ch hc (fun hk => ?_), h3, h.ge, h.ne, h.nF, fun k hk => ?_, fun p hp k hk => ?_, h.ch1.trans hc (fun k hk => ?_), h.ge1, fun k hk => ?_, h.f1⟩
  · have hs := h.sep p hp k hk
    simp only [List.mem_cons, Option.mem_toList] at hk2
    rcases hk2 with e | e | e
    · exact hs.1 e
    · exact hs.2.1 e
    · exact hs.2.2.2 e
  · simp only [List.mem_cons, Option.mem_toList] at hk
    rcases hk with e | e | e
    · exact h.ne.2.1 e.symm
    · exact h.ne.2.2 e.symm
    · exact (h.oo bfn e).2.2.2.2 rfl
  · rcases hf k hk with e | e
    · exact h.oo k e
    · exact ⟨by omega, fun hkF => by have := GIn.lt h.hold.own.gin k hkF; omega, by omega, by omega, by omega⟩
  · have hs := h.sep p hp k hk
    refine ⟨hs.1, hs.2.1, hs.2.2.1, fun e => ?_⟩
    rcases hf k e with e2 | e2
    · exact hs.2.2.2 e2
    · have := ((h.hold.held p hp).row.lt k hk).2; omega
  · simp only [List.mem_cons, Option.mem_toList] at hk
    rcases hk with rfl | rfl | hk
    · exact .inr h.ge1.1
    · exact .inr h.ge1.2.1
    · exact .inr (h.oo1 k hk)
  · rcases hf k hk with e | e
    · exact h.oo1 k e
    · exact Nat.le_trans h.ch1.size e
/-- a result is noted -/
theorem MD.noted (h : MD w0 w1 F0 w g G F L bok bout bfn ok oa m oc vs) (hm : m ≤ 1000) (a : Option Addr) (n c e : Nat) :
    Calls Tryz.prog 43 #[.slice a n c, .int .i64 e, .pointer (some ⟨bok, 0, none⟩), .pointer (some ⟨bout, 0, none⟩)] w fun en w' => (∃ v, en = .returned v) ∧ ∃ qa qc, MD w0 w1 F0 w' g G F L bok bout bfn (ok && (e == 0)) qa (m + 1) qc (vs ++ [.slice a n c]) := by
  have h0 := made1_is h.bk h.bo h.ne.1 h.row hm (fun k hk => ⟨(h.oo k (by simpa using hk)).2.2.1, (h.oo k (by simpa using hk)).2.2.2.1⟩) a n c e
  change Calls Tryz.prog 43 #[.slice a n c, .int .i64 e, .pointer (some ⟨bok, 0, none⟩), .pointer (some ⟨bout, 0, none⟩)] w _ at h0
  refine h0.mono ?_
  rintro en w' ⟨hv, qa, qc, h1, h2, h3, hc, hf⟩
  exact ⟨hv, qa, qc, h.note h1 h2 h3 hc hf⟩
end
end Go.Proofs.YtchledddgmbndaaGreat
namespace Go.Aig
def bitR (R : Res) : Gra × List Nat × Nat := (R.1, [R.2.1], R.2.2)
/-- what the operations make -/
def mkOp (i : Nat) (G : Gra) (x y : List Int) : Gra × List Nat × Nat := match i with
  | 0 => wordG G [x] ((G, 0), (nats x).map neg)
  | 1 => subG G (List.replicate x.length 0) x
  | 2 => wordG G [x, y] (eachF (rop and) (G, 0) ((nats x).zip (nats y)))
  | 3 => wordG G [x, y] (eachF (rop rOr) (G, 0) ((nats x).zip (nats y)))
  | 4 => wordG G [x, y] (eachF (rop rXor) (G, 0) ((nats x).zip (nats y)))
  | 5 => wordG G [x, y] (sumW x.length (G, 0) ((nats x).zip (nats y)) 0)
  | 6 => subG G x y
  | 7 => bitR (negG (refG G [x, y] (neF (G, 0) ((nats x).zip (nats y)))))
  | 8 => bitR (refG G [x, y] (neF (G, 0) ((nats x).zip (nats y))))
  | 9 => bitR (refG G [x, y] (ltF (G, 0) ((nats x).zip (nats y))))
  | _ => bitR (negG (refG G [y, x] (ltF (G, 0) ((nats y).zip (nats x)))))
theorem mkOp_0 (G : Gra) (x y : List Int) : mkOp 0 G x y = wordG G [x] ((G, 0), (nats x).map neg) := rfl
theorem mkOp_1 (G : Gra) (x y : List Int) : mkOp 1 G x y = subG G (List.replicate x.length 0) x := rfl
theorem mkOp_2 (G : Gra) (x y : List Int) : mkOp 2 G x y = wordG G [x, y] (eachF (rop and) (G, 0) ((nats x).zip (nats y))) := rfl
theorem mkOp_3 (G : Gra) (x y : List Int) : mkOp 3 G x y = wordG G [x, y] (eachF (rop rOr) (G, 0) ((nats x).zip (nats y))) := rfl
theorem mkOp_4 (G : Gra) (x y : List Int) : mkOp 4 G x y = wordG G [x, y] (eachF (rop rXor) (G, 0) ((nats x).zip (nats y))) := rfl
theorem mkOp_5 (G : Gra) (x y : List Int) : mkOp 5 G x y = wordG G [x, y] (sumW x.length (G, 0) ((nats x).zip (nats y)) 0) := rfl
theorem mkOp_6 (G : Gra) (x y : List Int) : mkOp 6 G x y = subG G x y := rfl
theorem mkOp_7 (G : Gra) (x y : List Int) : mkOp 7 G x y = bitR (negG (refG G [x, y] (neF (G, 0) ((nats x).zip (nats y))))) := rfl
theorem mkOp_8 (G : Gra) (x y : List Int) : mkOp 8 G x y = bitR (refG G [x, y] (neF (G, 0) ((nats x).zip (nats y)))) := rfl
theorem mkOp_9 (G : Gra) (x y : List Int) : mkOp 9 G x y = bitR (refG G [x, y] (ltF (G, 0) ((nats x).zip (nats y)))) := rfl
theorem mkOp_10 (G : Gra) (x y : List Int) : mkOp 10 G x y = bitR (negG (refG G [y, x] (ltF (G, 0) ((nats y).zip (nats x))))) := rfl
def madeStep (x y : List Int) (s : Gra × List (List Nat) × Bool) (i : Nat) : Gra × List (List Nat) × Bool := ((mkOp i s.1 x y).1, s.2.1 ++ [(mkOp i s.1 x y).2.1], s.2.2 && ((mkOp i s.1 x y).2.2 == 0))
def madeG (G : Gra) (x y : List Int) (n : Nat) : Gra × List (List Nat) × Bool := (List.range n).foldl (madeStep x y) (G, [], true)
theorem madeG_succ (G : Gra) (x y : List Int) (n : Nat) : madeG G x y (n + 1) = madeStep x y (madeG G x y n) n := by
  unfold madeG
  rw [List.range_succ, List.foldl_append]; rfl
theorem eachF_len (op : Mk → Nat → Nat → Mk × Nat) (s : Mk) (l : List (Nat × Nat)) : (eachF op s l).2.length = l.length := by
  have : ∀ (l : List (Nat × Nat)) (q : Mk × List Nat), (l.foldl (eachS op) q).2.length = q.2.length + l.length := by
    intro l
    induction l with
    | nil => intro q; rfl
    | cons p l ih =>
      intro q
      rw [List.foldl_cons, ih]
      unfold eachS
      simp; omega
  have h := this l (s, [])
  simpa [eachF] using h
theorem wordG_len {G : Gra} {ws : List (List Int)} {R : Mk × List Nat} {n : Nat} (h : R.2.length ≤ n) : (wordG G ws R).2.1.length ≤ n := by
  unfold wordG wres
  split
  · simp
  · split
    · simp
    · exact h
theorem chk1_lt {G : Gra} {x : List Int} (h : chk G [x] = 0) : ∀ r ∈ nats x, r < 2 * G.nodes.length := (chk_ok h x (by simp)).lt
theorem subG_ok {G : Gra} (hG : Ok G) (x y : List Int) : WOk G (subG G x y) := wordG_ok hG fun hc => by
  have hp := hG.wf.pos
  have h1 := (chk_ok hc x (by simp)).lt
  have h2 := (chk_ok hc y (by simp)).lt
  exact sumF_lok hG _ _ (zip_lt h1 (fun r hr => by obtain ⟨q, hq, rfl⟩ := List.mem_map.1 hr; exact neg_lt (h2 q hq))) (by omega)
theorem subG_len {G : Gra} {x y : List Int} {n : Nat} (h : x.length ≤ n) : (subG G x y).2.1.length ≤ n := wordG_len (by
  unfold sumW
  dsimp only
  rw [Go.Proofs.YtchledddgmbndaaGreat.sumF_len, List.length_zip]
  simp only [nats_len]
  omega)
theorem bitR_ok {G : Gra} {R : Res} (h1 : Ok R.1) (h2 : Ext G R.1) (h3 : R.2.1 < 2 * R.1.nodes.length) : WOk G (bitR R) := ⟨h1, h2, fun r hr => by rw [List.mem_singleton.1 hr]; exact h3⟩
theorem negG_ok {G : Gra} {R : Res} (h : Ok R.1 ∧ Ext G R.1 ∧ R.2.1 < 2 * R.1.nodes.length) : Ok (negG R).1 ∧ Ext G (negG R).1 ∧ (negG R).2.1 < 2 * (negG R).1.nodes.length := by
  have := h.1.wf.pos
  unfold negG
  split
  · exact ⟨h.1, h.2.1, by show 0 < 2 * R.1.nodes.length; omega⟩
  · exact ⟨h.1, h.2.1, neg_lt h.2.2⟩
theorem mkOp_ok {G : Gra} (hG : Ok G) (i : Nat) (hi : i < 11) (x y : List Int) (hx : x.length ≤ 1000000) : WOk G (mkOp i G x y) ∧ (mkOp i G x y).2.1.length ≤ 1000000 := by
  have hp := hG.wf.pos
  rcases i with _ | _ | _ | _ | _ | _ | _ | _ | _ | _ | _ | i
  · exact ⟨wordG_ok hG fun hc => ⟨.start hG, fun r hr => by obtain ⟨q, hq, rfl⟩ := List.mem_map.1 hr; exact neg_lt (chk1_lt hc q hq)⟩, wordG_len (by simpa using hx)⟩
  · exact ⟨subG_ok hG _ _, subG_len (by simpa using hx)⟩
  · exact ⟨wordG_ok hG fun hc => eachF_lok hG full_and _ (chk_zip hc), wordG_len (by rw [eachF_len, List.length_zip]; simp only [nats_len]; omega)⟩
  · exact ⟨wordG_ok hG fun hc => eachF_lok hG full_or _ (chk_zip hc), wordG_len (by rw [eachF_len, List.length_zip]; simp only [nats_len]; omega)⟩
  · exact ⟨wordG_ok hG fun hc => eachF_lok hG full_xor _ (chk_zip hc), wordG_len (by rw [eachF_len, List.length_zip]; simp only [nats_len]; omega)⟩
  · exact ⟨wordG_ok hG fun hc => sumF_lok hG _ _ (chk_zip hc) (by omega), wordG_len (by unfold sumW; dsimp only; rw [Go.Proofs.YtchledddgmbndaaGreat.sumF_len, List.length_zip]; simp only [nats_len]; omega)⟩
  · exact ⟨subG_ok hG _ _, subG_len hx⟩
  · have h := negG_ok (refG_ok hG (ws := [x, y]) (R := neF (G, 0) ((nats x).zip (nats y))) fun hc => neF_vok hG _ (chk_zip hc))
    exact ⟨bitR_ok h.1 h.2.1 h.2.2, by show (1 : Nat) ≤ 1000000; omega⟩
  · have h := refG_ok hG (ws := [x, y]) (R := neF (G, 0) ((nats x).zip (nats y))) fun hc => neF_vok hG _ (chk_zip hc)
    exact ⟨bitR_ok h.1 h.2.1 h.2.2, by show (1 : Nat) ≤ 1000000; omega⟩
  · have h := refG_ok hG (ws := [x, y]) (R := ltF (G, 0) ((nats x).zip (nats y))) fun hc => ltF_vok hG _ (chk_zip hc)
    exact ⟨bitR_ok h.1 h.2.1 h.2.2, by show (1 : Nat) ≤ 1000000; omega⟩
  · have h := negG_ok (refG_ok hG (ws := [y, x]) (R := ltF (G, 0) ((nats y).zip (nats x))) fun hc => ltF_vok hG _ (chk_zip hc))
    exact ⟨bitR_ok h.1 h.2.1 h.2.2, by show (1 : Nat) ≤ 1000000; omega⟩
  · omega
theorem WOk.small {G : Gra} {R : Gra × List Nat × Nat} (h : WOk G R) : ∀ r ∈ R.2.1, r ≤ 1000000 := fun r hr => by
  have h1 := h.lt r hr
  have h2 := h.ok.small
  omega
end Go.Aig
namespace Go.Proofs.YtchledddgmbndaaGreat
open Go.RowKit Go.Mem Go.Aig
theorem run_storeFunc {P : Program} {w : World} {a : Addr} {m : Mode} (f : Fn) (b c : Array Value) : (store a (.func f b c) m).run P w = stored P w a (.func f b c) m := run_store P w a _ m rfl
attribute [local go_sem] run_storeFunc
def mfun (B : Nat) : Value := .func (.func 43) #[] #[.pointer (some ⟨B + 1, 0, none⟩), .pointer (some ⟨B, 0, none⟩)]
/-- values that are held words, one for each list -/
structure VL (vs : List Value) (ls : List (List Nat)) (L : List (Value × List Int)) : Prop where
  len : vs.length = ls.length
  mem : ∀ (i : Nat) (v : Value) (l : List Nat), vs[i]? = some v → ls[i]? = some l → (v, natInts l) ∈ L
theorem VL.snoc {vs : List Value} {ls : List (List Nat)} {L : List (Value × List Int)} (h : VL vs ls L) (v : Value) (l : List Nat) : VL (vs ++ [v]) (ls ++ [l]) ((v, natInts l) :: L) := by
  refine ⟨by simp [h.len], fun i u q hu hq => ?_⟩
  by_cases hi : i < vs.length
  · rw [List.getElem?_append_left hi] at hu
    rw [List.getElem?_append_left (by rw [← h.len]; exact hi)] at hq
    exact List.mem_cons_of_mem _ (h.mem i u q hu hq)
  · have hlt := (List.getElem?_eq_some_iff.1 hu).1
    rw [List.length_append] at hlt
    simp at hlt
    have he : i = vs.length := by omega
    subst he
    have hl := h.len
    rw [List.getElem?_append_right (by omega)] at hu
    rw [List.getElem?_append_right (by omega)] at hq
    simp at hu
    simp [hl] at hq
    rw [← hu, ← hq]
    exact List.mem_cons_self
section
variable {w0 w1 w : World} {F0 : List Nat} {g : Nat} {G : Gra} {F : List Nat} {L : List (Value × List Int)} {bok bout bfn : Nat} {ok : Bool} {oa : Option Addr} {m oc : Nat} {vs : List Value}
set_option maxRecDepth 100000 in
set_option maxHeartbeats 2000000 in
theorem made2_is (h : MD w0 w1 F0 w g G F L bok bout bfn ok oa m oc vs) (hm : m ≤ 1000) (r e : Nat) (hr : r ≤ 1000000) :
    Calls Tryz.prog 44 #[.int .i64 r, .int .i64 e, .pointer (some ⟨bfn, 0, none⟩)] w fun en w' => (∃ v, en = .returned v) ∧ ∃ a qa qc, MD w0 w1 F0 w' g G F ((.slice a 1 1, natInts [r]) :: L) bok bout bfn (ok && (e == 0)) qa (m + 1) qc (vs ++ [.slice a 1 1]) := by
  have hcf : ∀ args w, (callFunc 43 args).run Tryz.prog w = .ok (.enter 43 args) w := fnvmade1
  have f0 := h.bf.cell (i := 0) rfl
  have hN : ∀ W, W = w.alloc (.cells #[.int .i64 r] 52) → MD w0 w1 F0 W g G F ((.slice (some ⟨w.heap.size, 0, none⟩) 1 1, natInts [r]) :: L) bok bout bfn ok oa m oc vs := fun W hW => by
    have hc := alw_ch hW
    have hg := GIn.lt h.hold.own.gin
    have hz : w0.heap.size ≤ w.heap.size := h.hold.own.ch.size
    refine h.graph ⟨(h.hold.same hc).own, fun p hp => ?_, fun p hp => by cases hp⟩ (hc.mono (by simp)) (fun _ hk => .inl hk) (fun p hp => ?_)
    · rcases List.mem_cons.1 hp with rfl | hp
      · refine ⟨⟨rfl, .inr ⟨w.heap.size, 1, #[.int .i64 r], rfl, by omega, ?_, by simp [natInts], by unfold maxLen; omega, rfl, rfl⟩⟩, by simp [natInts], fun q hq => ?_, fun k hk => ?_⟩
        · rw [hW]; exact heap_alloc_new w _
        · simp [natInts] at hq; omega
        · cases hk
          exact ⟨hz, fun hk => by have := hg _ hk; simp at this⟩
      · exact (h.hold.same hc).held p hp
    · rcases List.mem_cons.1 hp with rfl | hp
      · exact .inr (fun k hk => by cases hk; exact Nat.le_refl _)
      · exact .inl hp
  have HN := Lib.hid hN; clear hN h
  go_enter Tryz.func44, Tryz.ntmps44
  go_wp2_with fail
  refine calls_named fun W0 hW0 => ?_
  refine ((HN.out W0 hW0).noted hm (some ⟨w.heap.size, 0, none⟩) 1 1 e).mono ?_
  rintro en w1 ⟨⟨v, rfl⟩, qa, qc, hmd⟩
  have HMD := Lib.hid hmd; clear hmd
  go_wp2_with fail
  refine bodyPost_end (results_none rfl _ _ _) rfl ?_
  exact ⟨⟨_, rfl⟩, _, qa, qc, HMD.out⟩
set_option maxRecDepth 100000 in
set_option maxHeartbeats 3000000 in
theorem made23_is (h : Hold w0 w g G F L) {xa ya : Option Addr} {xl yl : List Int} {n n2 xc yc : Nat} (hx : (.slice xa n xc, xl) ∈ L) (hxn : xl.length = n) (hy : (.slice ya n2 yc, yl) ∈ L) (hyn : yl.length = n2) :
    Calls Tryz.prog 12 #[.pointer (some ⟨g, 0, none⟩), .slice xa n xc, .slice ya n2 yc] w fun e w' => ∃ F' L' oa oc ba vs, e = .returned (.tuple #[.slice oa 11 oc, .slice (some ⟨ba, 0, none⟩) 11 11, .bool (madeG G xl yl 11).2.2]) ∧ Hold w0 w' g (madeG G xl yl 11).1 F' L' ∧ (∀ p ∈ L, p ∈ L') ∧ VL vs (madeG G xl yl 11).2.1 L' ∧
      row w' 39 1 (.slice oa 11 oc) 11 vs ∧ (∀ k, (Value.slice oa 11 oc).ownBlock = some k → w0.heap.size ≤ k ∧ k ∉ F') ∧ blk w' ba ([1, 2, 8, 9, 10, 3, 4, 13, 14, 15, 16].map fun (z : Int) => Value.int .u8 z) ∧ w0.heap.size ≤ ba ∧ ba ∉ F' ∧ Ch F w w' ∧ (∀ k ∈ F', k ∈ F ∨ w.heap.size ≤ k) := by
  have hcf : ∀ args w, (callFunc 43 args).run Tryz.prog w = .ok (.enter 43 args) w := fnvmade1
  have hcf2 : ∀ args w, (callFunc 44 args).run Tryz.prog w = .ok (.enter 44 args) w := fnvmade2
  subst hxn hyn
  have hlen : xl.length ≤ 1000000 := (h.at hx rfl).ok.len
  have H := Lib.hid h; clear h
  have HX := Lib.hid hx; clear hx
  have HY := Lib.hid hy; clear hy
  go_enter Tryz.func12, Tryz.ntmps12
  go_wp2_with fail
  refine wp_named fun W0 hW0 => ?_
  have hc0 : Ch [] w W0 := by rw [hW0]; exact (((Ch.refl _ _).alloc _).alloc _).alloc _
  have hz := H.out.own.ch.size
  have hg0 := GIn.lt H.out.own.gin
  have hzz0 : w0.heap.size ≤ w.heap.size := H.out.own.ch.size
  have hmd : MD w0 w F W0 g G F L (w.heap.size + 1) w.heap.size (w.heap.size + 2) true none 0 0 [] := by
    refine ⟨H.out.same hc0, by rw [hW0]; exact (blk.new' _ _ (by simp)).alloc _, by rw [hW0]; exact ((blk.new' _ _ (by simp)).alloc _).alloc _, by rw [hW0]; exact blk.new' _ _ (by simp), ⟨rfl, .inl ⟨rfl, rfl⟩⟩, ⟨by omega, by omega, by omega⟩, ⟨by omega, by omega, by omega⟩, ⟨fun hk => ?_, fun hk => ?_, fun hk => ?_⟩, by simp [Value.ownBlock], fun p hp k hk => ?_, ?_, ?_, ?_, ?_⟩
    · have := hg0 _ hk; omega
    · have := hg0 _ hk; omega
    · have := hg0 _ hk; omega
    · have := ((H.out.held p hp).row.lt k hk).2
      exact ⟨by omega, by omega, by omega, by simp [Value.ownBlock]⟩
    · exact hc0.mono (by simp)
    · exact ⟨by omega, by omega, by omega⟩
    · exact fun k hk => by simp [Value.ownBlock] at hk
    · exact fun k hk => .inl hk
  clear hW0 hz hg0
  obtain ⟨vs0, hv0⟩ : ∃ X : List Value, X = [] := ⟨_, rfl⟩
  obtain ⟨L0, hL0⟩ : ∃ X, X = L := ⟨_, rfl⟩
  obtain ⟨F0, hF0⟩ : ∃ X, X = F := ⟨_, rfl⟩
  replace hmd : MD w0 w F W0 g (madeG G xl yl 0).1 F0 L0 (w.heap.size + 1) w.heap.size (w.heap.size + 2) (madeG G xl yl 0).2.2 none 0 0 vs0 := by rw [hv0, hL0, hF0]; exact hmd
  have hvl : VL vs0 (madeG G xl yl 0).2.1 L0 := by rw [hv0]; exact ⟨rfl, by simp⟩
  have HMD := Lib.hid hmd; clear hmd
  have HVL := Lib.hid hvl; clear hvl
  have HSub := Lib.hid (show ∀ p ∈ L, p ∈ L0 from fun _ h => hL0 ▸ h)
  have HC00 := Lib.hid hc0; clear hc0 hv0 hL0 hF0
  clear H
  obtain ⟨B, hB⟩ : ∃ B, B = w.heap.size := ⟨_, rfl⟩
  rw [← hB] at HMD ⊢
  clear hB
  -- Not
  have hok := mkOp_ok HMD.out.hold.own.gin.ok 0 (by omega) xl yl hlen
  obtain ⟨R0, hR⟩ : ∃ R, R = mkOp 0 (madeG G xl yl 0).1 xl yl := ⟨_, rfl⟩
  rw [← hR] at hok
  have HR := Lib.hid hR; clear hR
  have HOK := Lib.hid hok; clear hok
  go_wp2_with fail
  refine Ord.St.door (fun w' => w'.cell? ⟨B + 2, 0, none⟩ = some (mfun B)) [.ho, .fl, .fl, .ef, .fl, .fl, .ef] [0, 0, 0, 6, 14, 14, 63] [0, 1, 2, 3, 4, 5, 6] mixed (by kernel_rfl) rfl ?_
  obtain ⟨Wc, hWc⟩ : ∃ Wc, Wc = W0.drew := ⟨_, rfl⟩
  rw [← hWc]
  have hmd := HMD.out.same (by rw [hWc]; exact (Ch.refl _ _).drew : Ch [] _ Wc)
  clear hWc
  have hbf := hmd.bf
  have hC2 : Calls Tryz.prog 45 #[.pointer (some ⟨g, 0, none⟩), .slice xa xl.length xc] Wc fun e w' => ∃ v, e = .returned (.tuple #[v, .int .i64 R0.2.2]) ∧ GVo Wc g R0.1 [] F0 v R0.2.1 w' := by rw [HR.out, mkOp_0]; have hC := sNot_is hmd.hold.own.gin (hmd.hold.at (HSub.out _ HX.out) rfl); exact hC
  clear HMD
  have HMD := Lib.hid hmd; clear hmd
  refine Ord.St.ho2 (T' := ?_) 0 [1, 2, 3, 4, 5, 6] _ _ rfl (by kernel_rfl) rfl rfl rfl rfl ?_ (fun K w' hw' hk => ?_) ?_
  rotate_left
  · exact hbf.cell rfl
  · have q1 := hw'; clear hw'; unfold mfun at q1; go_step; exact hk
  refine Ord.St.fl2 (T' := ?_) 1 [2, 3, 4, 5, 6] _ _ rfl (by kernel_rfl) rfl rfl rfl rfl (fun K w' hk => ?_) ?_
  rotate_left
  · go_step; exact hk
  refine Ord.St.fl2 (T' := ?_) 2 [3, 4, 5, 6] _ _ rfl (by kernel_rfl) rfl rfl rfl rfl (fun K w' hk => ?_) ?_
  rotate_left
  · go_step; exact hk
  refine Ord.St.efC 3 [4, 5, 6] _ rfl (by kernel_rfl) (fun K hK => ?_)
  go_wp2_with fail
  refine hC2.mono ?_
  rintro e w1 ⟨v, rfl, hg⟩
  obtain ⟨a0, c0, F1, rfl, hmd⟩ := HMD.out.word hg HOK.out.1.small HOK.out.2
  replace hbf := hmd.bf
  have hN := hmd.noted (by omega) a0 R0.2.1.length c0 R0.2.2
  clear hC2 hg hmd
  go_wp2_with fail
  refine ⟨rfl, hK _ _ ?_ ?_⟩
  · exact hbf.cell rfl
  clear hK K
  refine Ord.St.fl2 (T' := ?_) 4 [5, 6] _ _ rfl (by kernel_rfl) rfl rfl rfl rfl (fun K w' hk => ?_) ?_
  rotate_left
  · go_step; exact hk
  refine Ord.St.fl2 (T' := ?_) 5 [6] _ _ rfl (by kernel_rfl) rfl rfl rfl rfl (fun K w' hk => ?_) ?_
  rotate_left
  · go_step; exact hk
  refine Ord.St.ef 6 [] _ rfl (by kernel_rfl) (fun K hK => ?_)
  go_wp2_with fail
  refine hN.mono ?_
  rintro e W1 ⟨⟨v, rfl⟩, qa0, qc0, hmd⟩
  clear hN HMD
  have HMD0 := Lib.hid hmd; clear hmd
  go_wp2_with fail
  refine ⟨rfl, hK _ _ ?_⟩; clear hK K
  refine Ord.St.nil ?_
  have hmd : MD w0 w F W1 g (madeG G xl yl 1).1 F1 ((.slice a0 R0.2.1.length c0, natInts R0.2.1) :: L0) (B + 1) B (B + 2) (madeG G xl yl 1).2.2 qa0 1 qc0 (vs0 ++ [.slice a0 R0.2.1.length c0]) := by rw [madeG_succ]; unfold madeStep; rw [← HR.out]; exact HMD0.out
  have hvl : VL (vs0 ++ [.slice a0 R0.2.1.length c0]) (madeG G xl yl 1).2.1 ((.slice a0 R0.2.1.length c0, natInts R0.2.1) :: L0) := by rw [madeG_succ]; unfold madeStep; rw [← HR.out]; exact HVL.out.snoc _ _
  obtain ⟨L1, hL⟩ : ∃ X, X = (.slice a0 R0.2.1.length c0, natInts R0.2.1) :: L0 := ⟨_, rfl⟩
  obtain ⟨vs1, hv⟩ : ∃ X, X = vs0 ++ [.slice a0 R0.2.1.length c0] := ⟨_, rfl⟩
  rw [← hL, ← hv] at hmd hvl
  have hsub : ∀ p ∈ L, p ∈ L1 := fun p hp => by rw [hL]; exact List.mem_cons_of_mem _ (HSub.out p hp)
  clear HMD0 hL hv
  have HMD := Lib.hid hmd; clear hmd
  have HVL2 := Lib.hid hvl; clear hvl HVL
  have HVL := HVL2; clear HVL2
  have HSub2 := Lib.hid hsub; clear hsub HSub
  have HSub := HSub2; clear HSub2
  -- Neg
  have hok := mkOp_ok HMD.out.hold.own.gin.ok 1 (by omega) xl yl hlen
  obtain ⟨R1, hR⟩ : ∃ R, R = mkOp 1 (madeG G xl yl 1).1 xl yl := ⟨_, rfl⟩
  rw [← hR] at hok
  have HR := Lib.hid hR; clear hR
  have HOK := Lib.hid hok; clear hok
  go_wp2_with fail
  refine Ord.St.door (fun w' => w'.cell? ⟨B + 2, 0, none⟩ = some (mfun B)) [.ho, .fl, .fl, .ef, .fl, .fl, .ef] [0, 0, 0, 6, 14, 14, 63] [0, 1, 2, 3, 4, 5, 6] mixed (by kernel_rfl) rfl ?_
  obtain ⟨Wc, hWc⟩ : ∃ Wc, Wc = W1.drew := ⟨_, rfl⟩
  rw [← hWc]
  have hmd := HMD.out.same (by rw [hWc]; exact (Ch.refl _ _).drew : Ch [] _ Wc)
  clear hWc
  have hbf := hmd.bf
  have hC2 : Calls Tryz.prog 46 #[.pointer (some ⟨g, 0, none⟩), .slice xa xl.length xc] Wc fun e w' => ∃ v, e = .returned (.tuple #[v, .int .i64 R1.2.2]) ∧ GVo Wc g R1.1 [] F1 v R1.2.1 w' := by rw [HR.out, mkOp_1]; have hC := sNeg_is hmd.hold.own.gin (hmd.hold.at (HSub.out _ HX.out) rfl); exact hC
  clear HMD
  have HMD := Lib.hid hmd; clear hmd
  refine Ord.St.ho2 (T' := ?_) 0 [1, 2, 3, 4, 5, 6] _ _ rfl (by kernel_rfl) rfl rfl rfl rfl ?_ (fun K w' hw' hk => ?_) ?_
  rotate_left
  · exact hbf.cell rfl
  · have q1 := hw'; clear hw'; unfold mfun at q1; go_step; exact hk
  refine Ord.St.fl2 (T' := ?_) 1 [2, 3, 4, 5, 6] _ _ rfl (by kernel_rfl) rfl rfl rfl rfl (fun K w' hk => ?_) ?_
  rotate_left
  · go_step; exact hk
  refine Ord.St.fl2 (T' := ?_) 2 [3, 4, 5, 6] _ _ rfl (by kernel_rfl) rfl rfl rfl rfl (fun K w' hk => ?_) ?_
  rotate_left
  · go_step; exact hk
  refine Ord.St.efC 3 [4, 5, 6] _ rfl (by kernel_rfl) (fun K hK => ?_)
  go_wp2_with fail
  refine hC2.mono ?_
  rintro e w1 ⟨v, rfl, hg⟩
  obtain ⟨a1, c1, F2, rfl, hmd⟩ := HMD.out.word hg HOK.out.1.small HOK.out.2
  replace hbf := hmd.bf
  have hN := hmd.noted (by omega) a1 R1.2.1.length c1 R1.2.2
  clear hC2 hg hmd
  go_wp2_with fail
  refine ⟨rfl, hK _ _ ?_ ?_⟩
  · exact hbf.cell rfl
  clear hK K
  refine Ord.St.fl2 (T' := ?_) 4 [5, 6] _ _ rfl (by kernel_rfl) rfl rfl rfl rfl (fun K w' hk => ?_) ?_
  rotate_left
  · go_step; exact hk
  refine Ord.St.fl2 (T' := ?_) 5 [6] _ _ rfl (by kernel_rfl) rfl rfl rfl rfl (fun K w' hk => ?_) ?_
  rotate_left
  · go_step; exact hk
  refine Ord.St.ef 6 [] _ rfl (by kernel_rfl) (fun K hK => ?_)
  go_wp2_with fail
  refine hN.mono ?_
  rintro e W2 ⟨⟨v, rfl⟩, qa1, qc1, hmd⟩
  clear hN HMD
  have HMD0 := Lib.hid hmd; clear hmd
  go_wp2_with fail
  refine ⟨rfl, hK _ _ ?_⟩; clear hK K
  refine Ord.St.nil ?_
  have hmd : MD w0 w F W2 g (madeG G xl yl 2).1 F2 ((.slice a1 R1.2.1.length c1, natInts R1.2.1) :: L1) (B + 1) B (B + 2) (madeG G xl yl 2).2.2 qa1 2 qc1 (vs1 ++ [.slice a1 R1.2.1.length c1]) := by rw [madeG_succ]; unfold madeStep; rw [← HR.out]; exact HMD0.out
  have hvl : VL (vs1 ++ [.slice a1 R1.2.1.length c1]) (madeG G xl yl 2).2.1 ((.slice a1 R1.2.1.length c1, natInts R1.2.1) :: L1) := by rw [madeG_succ]; unfold madeStep; rw [← HR.out]; exact HVL.out.snoc _ _
  obtain ⟨L2, hL⟩ : ∃ X, X = (.slice a1 R1.2.1.length c1, natInts R1.2.1) :: L1 := ⟨_, rfl⟩
  obtain ⟨vs2, hv⟩ : ∃ X, X = vs1 ++ [.slice a1 R1.2.1.length c1] := ⟨_, rfl⟩
  rw [← hL, ← hv] at hmd hvl
  have hsub : ∀ p ∈ L, p ∈ L2 := fun p hp => by rw [hL]; exact List.mem_cons_of_mem _ (HSub.out p hp)
  clear HMD0 hL hv
  have HMD := Lib.hid hmd; clear hmd
  have HVL2 := Lib.hid hvl; clear hvl HVL
  have HVL := HVL2; clear HVL2
  have HSub2 := Lib.hid hsub; clear hsub HSub
  have HSub := HSub2; clear HSub2
  -- And
  have hok := mkOp_ok HMD.out.hold.own.gin.ok 2 (by omega) xl yl hlen
  obtain ⟨R2, hR⟩ : ∃ R, R = mkOp 2 (madeG G xl yl 2).1 xl yl := ⟨_, rfl⟩
  rw [← hR] at hok
  have HR := Lib.hid hR; clear hR
  have HOK := Lib.hid hok; clear hok
  go_wp2_with fail
  refine Ord.St.door (fun w' => w'.cell? ⟨B + 2, 0, none⟩ = some (mfun B)) [.ho, .fl, .fl, .fl, .ef, .fl, .fl, .ef] [0, 0, 0, 0, 14, 30, 30, 127] [0, 1, 2, 3, 4, 5, 6, 7] mixed (by kernel_rfl) rfl ?_
  obtain ⟨Wc, hWc⟩ : ∃ Wc, Wc = W2.drew := ⟨_, rfl⟩
  rw [← hWc]
  have hmd := HMD.out.same (by rw [hWc]; exact (Ch.refl _ _).drew : Ch [] _ Wc)
  clear hWc
  have hbf := hmd.bf
  have hC2 : Calls Tryz.prog 47 #[.pointer (some ⟨g, 0, none⟩), .slice xa xl.length xc, .slice ya yl.length yc] Wc fun e w' => ∃ v, e = .returned (.tuple #[v, .int .i64 R2.2.2]) ∧ GVo Wc g R2.1 [] F2 v R2.2.1 w' := by rw [HR.out, mkOp_2]; have hC := sAnd_is hmd.hold.own.gin (hmd.hold.at (HSub.out _ HX.out) rfl) (hmd.hold.at (HSub.out _ HY.out) rfl); exact hC
  clear HMD
  have HMD := Lib.hid hmd; clear hmd
  refine Ord.St.ho2 (T' := ?_) 0 [1, 2, 3, 4, 5, 6, 7] _ _ rfl (by kernel_rfl) rfl rfl rfl rfl ?_ (fun K w' hw' hk => ?_) ?_
  rotate_left
  · exact hbf.cell rfl
  · have q1 := hw'; clear hw'; unfold mfun at q1; go_step; exact hk
  refine Ord.St.fl2 (T' := ?_) 1 [2, 3, 4, 5, 6, 7] _ _ rfl (by kernel_rfl) rfl rfl rfl rfl (fun K w' hk => ?_) ?_
  rotate_left
  · go_step; exact hk
  refine Ord.St.fl2 (T' := ?_) 2 [3, 4, 5, 6, 7] _ _ rfl (by kernel_rfl) rfl rfl rfl rfl (fun K w' hk => ?_) ?_
  rotate_left
  · go_step; exact hk
  refine Ord.St.fl2 (T' := ?_) 3 [4, 5, 6, 7] _ _ rfl (by kernel_rfl) rfl rfl rfl rfl (fun K w' hk => ?_) ?_
  rotate_left
  · go_step; exact hk
  refine Ord.St.efC 4 [5, 6, 7] _ rfl (by kernel_rfl) (fun K hK => ?_)
  go_wp2_with fail
  refine hC2.mono ?_
  rintro e w1 ⟨v, rfl, hg⟩
  obtain ⟨a2, c2, F3, rfl, hmd⟩ := HMD.out.word hg HOK.out.1.small HOK.out.2
  replace hbf := hmd.bf
  have hN := hmd.noted (by omega) a2 R2.2.1.length c2 R2.2.2
  clear hC2 hg hmd
  go_wp2_with fail
  refine ⟨rfl, hK _ _ ?_ ?_⟩
  · exact hbf.cell rfl
  clear hK K
  refine Ord.St.fl2 (T' := ?_) 5 [6, 7] _ _ rfl (by kernel_rfl) rfl rfl rfl rfl (fun K w' hk => ?_) ?_
  rotate_left
  · go_step; exact hk
  refine Ord.St.fl2 (T' := ?_) 6 [7] _ _ rfl (by kernel_rfl) rfl rfl rfl rfl (fun K w' hk => ?_) ?_
  rotate_left
  · go_step; exact hk
  refine Ord.St.ef 7 [] _ rfl (by kernel_rfl) (fun K hK => ?_)
  go_wp2_with fail
  refine hN.mono ?_
  rintro e W3 ⟨⟨v, rfl⟩, qa2, qc2, hmd⟩
  clear hN HMD
  have HMD0 := Lib.hid hmd; clear hmd
  go_wp2_with fail
  refine ⟨rfl, hK _ _ ?_⟩; clear hK K
  refine Ord.St.nil ?_
  have hmd : MD w0 w F W3 g (madeG G xl yl 3).1 F3 ((.slice a2 R2.2.1.length c2, natInts R2.2.1) :: L2) (B + 1) B (B + 2) (madeG G xl yl 3).2.2 qa2 3 qc2 (vs2 ++ [.slice a2 R2.2.1.length c2]) := by rw [madeG_succ]; unfold madeStep; rw [← HR.out]; exact HMD0.out
  have hvl : VL (vs2 ++ [.slice a2 R2.2.1.length c2]) (madeG G xl yl 3).2.1 ((.slice a2 R2.2.1.length c2, natInts R2.2.1) :: L2) := by rw [madeG_succ]; unfold madeStep; rw [← HR.out]; exact HVL.out.snoc _ _
  obtain ⟨L3, hL⟩ : ∃ X, X = (.slice a2 R2.2.1.length c2, natInts R2.2.1) :: L2 := ⟨_, rfl⟩
  obtain ⟨vs3, hv⟩ : ∃ X, X = vs2 ++ [.slice a2 R2.2.1.length c2] := ⟨_, rfl⟩
  rw [← hL, ← hv] at hmd hvl
  have hsub : ∀ p ∈ L, p ∈ L3 := fun p hp => by rw [hL]; exact List.mem_cons_of_mem _ (HSub.out p hp)
  clear HMD0 hL hv
  have HMD := Lib.hid hmd; clear hmd
  have HVL2 := Lib.hid hvl; clear hvl HVL
  have HVL := HVL2; clear HVL2
  have HSub2 := Lib.hid hsub; clear hsub HSub
  have HSub := HSub2; clear HSub2
  -- Or
  have hok := mkOp_ok HMD.out.hold.own.gin.ok 3 (by omega) xl yl hlen
  obtain ⟨R3, hR⟩ : ∃ R, R = mkOp 3 (madeG G xl yl 3).1 xl yl := ⟨_, rfl⟩
  rw [← hR] at hok
  have HR := Lib.hid hR; clear hR
  have HOK := Lib.hid hok; clear hok
  go_wp2_with fail
  refine Ord.St.door (fun w' => w'.cell? ⟨B + 2, 0, none⟩ = some (mfun B)) [.ho, .fl, .fl, .fl, .ef, .fl, .fl, .ef] [0, 0, 0, 0, 14, 30, 30, 127] [0, 1, 2, 3, 4, 5, 6, 7] mixed (by kernel_rfl) rfl ?_
  obtain ⟨Wc, hWc⟩ : ∃ Wc, Wc = W3.drew := ⟨_, rfl⟩
  rw [← hWc]
  have hmd := HMD.out.same (by rw [hWc]; exact (Ch.refl _ _).drew : Ch [] _ Wc)
  clear hWc
  have hbf := hmd.bf
  have hC2 : Calls Tryz.prog 48 #[.pointer (some ⟨g, 0, none⟩), .slice xa xl.length xc, .slice ya yl.length yc] Wc fun e w' => ∃ v, e = .returned (.tuple #[v, .int .i64 R3.2.2]) ∧ GVo Wc g R3.1 [] F3 v R3.2.1 w' := by rw [HR.out, mkOp_3]; have hC := sOr_is hmd.hold.own.gin (hmd.hold.at (HSub.out _ HX.out) rfl) (hmd.hold.at (HSub.out _ HY.out) rfl); exact hC
  clear HMD
  have HMD := Lib.hid hmd; clear hmd
  refine Ord.St.ho2 (T' := ?_) 0 [1, 2, 3, 4, 5, 6, 7] _ _ rfl (by kernel_rfl) rfl rfl rfl rfl ?_ (fun K w' hw' hk => ?_) ?_
  rotate_left
  · exact hbf.cell rfl
  · have q1 := hw'; clear hw'; unfold mfun at q1; go_step; exact hk
  refine Ord.St.fl2 (T' := ?_) 1 [2, 3, 4, 5, 6, 7] _ _ rfl (by kernel_rfl) rfl rfl rfl rfl (fun K w' hk => ?_) ?_
  rotate_left
  · go_step; exact hk
  refine Ord.St.fl2 (T' := ?_) 2 [3, 4, 5, 6, 7] _ _ rfl (by kernel_rfl) rfl rfl rfl rfl (fun K w' hk => ?_) ?_
  rotate_left
  · go_step; exact hk
  refine Ord.St.fl2 (T' := ?_) 3 [4, 5, 6, 7] _ _ rfl (by kernel_rfl) rfl rfl rfl rfl (fun K w' hk => ?_) ?_
  rotate_left
  · go_step; exact hk
  refine Ord.St.efC 4 [5, 6, 7] _ rfl (by kernel_rfl) (fun K hK => ?_)
  go_wp2_with fail
  refine hC2.mono ?_
  rintro e w1 ⟨v, rfl, hg⟩
  obtain ⟨a3, c3, F4, rfl, hmd⟩ := HMD.out.word hg HOK.out.1.small HOK.out.2
  replace hbf := hmd.bf
  have hN := hmd.noted (by omega) a3 R3.2.1.length c3 R3.2.2
  clear hC2 hg hmd
  go_wp2_with fail
  refine ⟨rfl, hK _ _ ?_ ?_⟩
  · exact hbf.cell rfl
  clear hK K
  refine Ord.St.fl2 (T' := ?_) 5 [6, 7] _ _ rfl (by kernel_rfl) rfl rfl rfl rfl (fun K w' hk => ?_) ?_
  rotate_left
  · go_step; exact hk
  refine Ord.St.fl2 (T' := ?_) 6 [7] _ _ rfl (by kernel_rfl) rfl rfl rfl rfl (fun K w' hk => ?_) ?_
  rotate_left
  · go_step; exact hk
  refine Ord.St.ef 7 [] _ rfl (by kernel_rfl) (fun K hK => ?_)
  go_wp2_with fail
  refine hN.mono ?_
  rintro e W4 ⟨⟨v, rfl⟩, qa3, qc3, hmd⟩
  clear hN HMD
  have HMD0 := Lib.hid hmd; clear hmd
  go_wp2_with fail
  refine ⟨rfl, hK _ _ ?_⟩; clear hK K
  refine Ord.St.nil ?_
  have hmd : MD w0 w F W4 g (madeG G xl yl 4).1 F4 ((.slice a3 R3.2.1.length c3, natInts R3.2.1) :: L3) (B + 1) B (B + 2) (madeG G xl yl 4).2.2 qa3 4 qc3 (vs3 ++ [.slice a3 R3.2.1.length c3]) := by rw [madeG_succ]; unfold madeStep; rw [← HR.out]; exact HMD0.out
  have hvl : VL (vs3 ++ [.slice a3 R3.2.1.length c3]) (madeG G xl yl 4).2.1 ((.slice a3 R3.2.1.length c3, natInts R3.2.1) :: L3) := by rw [madeG_succ]; unfold madeStep; rw [← HR.out]; exact HVL.out.snoc _ _
  obtain ⟨L4, hL⟩ : ∃ X, X = (.slice a3 R3.2.1.length c3, natInts R3.2.1) :: L3 := ⟨_, rfl⟩
  obtain ⟨vs4, hv⟩ : ∃ X, X = vs3 ++ [.slice a3 R3.2.1.length c3] := ⟨_, rfl⟩
  rw [← hL, ← hv] at hmd hvl
  have hsub : ∀ p ∈ L, p ∈ L4 := fun p hp => by rw [hL]; exact List.mem_cons_of_mem _ (HSub.out p hp)
  clear HMD0 hL hv
  have HMD := Lib.hid hmd; clear hmd
  have HVL2 := Lib.hid hvl; clear hvl HVL
  have HVL := HVL2; clear HVL2
  have HSub2 := Lib.hid hsub; clear hsub HSub
  have HSub := HSub2; clear HSub2
  -- Xor
  have hok := mkOp_ok HMD.out.hold.own.gin.ok 4 (by omega) xl yl hlen
  obtain ⟨R4, hR⟩ : ∃ R, R = mkOp 4 (madeG G xl yl 4).1 xl yl := ⟨_, rfl⟩
  rw [← hR] at hok
  have HR := Lib.hid hR; clear hR
  have HOK := Lib.hid hok; clear hok
  go_wp2_with fail
  refine Ord.St.door (fun w' => w'.cell? ⟨B + 2, 0, none⟩ = some (mfun B)) [.ho, .fl, .fl, .fl, .ef, .fl, .fl, .ef] [0, 0, 0, 0, 14, 30, 30, 127] [0, 1, 2, 3, 4, 5, 6, 7] mixed (by kernel_rfl) rfl ?_
  obtain ⟨Wc, hWc⟩ : ∃ Wc, Wc = W4.drew := ⟨_, rfl⟩
  rw [← hWc]
  have hmd := HMD.out.same (by rw [hWc]; exact (Ch.refl _ _).drew : Ch [] _ Wc)
  clear hWc
  have hbf := hmd.bf
  have hC2 : Calls Tryz.prog 21 #[.pointer (some ⟨g, 0, none⟩), .slice xa xl.length xc, .slice ya yl.length yc] Wc fun e w' => ∃ v, e = .returned (.tuple #[v, .int .i64 R4.2.2]) ∧ GVo Wc g R4.1 [] F4 v R4.2.1 w' := by rw [HR.out, mkOp_4]; have hC := sXor_is hmd.hold.own.gin (hmd.hold.at (HSub.out _ HX.out) rfl) (hmd.hold.at (HSub.out _ HY.out) rfl); exact hC
  clear HMD
  have HMD := Lib.hid hmd; clear hmd
  refine Ord.St.ho2 (T' := ?_) 0 [1, 2, 3, 4, 5, 6, 7] _ _ rfl (by kernel_rfl) rfl rfl rfl rfl ?_ (fun K w' hw' hk => ?_) ?_
  rotate_left
  · exact hbf.cell rfl
  · have q1 := hw'; clear hw'; unfold mfun at q1; go_step; exact hk
  refine Ord.St.fl2 (T' := ?_) 1 [2, 3, 4, 5, 6, 7] _ _ rfl (by kernel_rfl) rfl rfl rfl rfl (fun K w' hk => ?_) ?_
  rotate_left
  · go_step; exact hk
  refine Ord.St.fl2 (T' := ?_) 2 [3, 4, 5, 6, 7] _ _ rfl (by kernel_rfl) rfl rfl rfl rfl (fun K w' hk => ?_) ?_
  rotate_left
  · go_step; exact hk
  refine Ord.St.fl2 (T' := ?_) 3 [4, 5, 6, 7] _ _ rfl (by kernel_rfl) rfl rfl rfl rfl (fun K w' hk => ?_) ?_
  rotate_left
  · go_step; exact hk
  refine Ord.St.efC 4 [5, 6, 7] _ rfl (by kernel_rfl) (fun K hK => ?_)
  go_wp2_with fail
  refine hC2.mono ?_
  rintro e w1 ⟨v, rfl, hg⟩
  obtain ⟨a4, c4, F5, rfl, hmd⟩ := HMD.out.word hg HOK.out.1.small HOK.out.2
  replace hbf := hmd.bf
  have hN := hmd.noted (by omega) a4 R4.2.1.length c4 R4.2.2
  clear hC2 hg hmd
  go_wp2_with fail
  refine ⟨rfl, hK _ _ ?_ ?_⟩
  · exact hbf.cell rfl
  clear hK K
  refine Ord.St.fl2 (T' := ?_) 5 [6, 7] _ _ rfl (by kernel_rfl) rfl rfl rfl rfl (fun K w' hk => ?_) ?_
  rotate_left
  · go_step; exact hk
  refine Ord.St.fl2 (T' := ?_) 6 [7] _ _ rfl (by kernel_rfl) rfl rfl rfl rfl (fun K w' hk => ?_) ?_
  rotate_left
  · go_step; exact hk
  refine Ord.St.ef 7 [] _ rfl (by kernel_rfl) (fun K hK => ?_)
  go_wp2_with fail
  refine hN.mono ?_
  rintro e W5 ⟨⟨v, rfl⟩, qa4, qc4, hmd⟩
  clear hN HMD
  have HMD0 := Lib.hid hmd; clear hmd
  go_wp2_with fail
  refine ⟨rfl, hK _ _ ?_⟩; clear hK K
  refine Ord.St.nil ?_
  have hmd : MD w0 w F W5 g (madeG G xl yl 5).1 F5 ((.slice a4 R4.2.1.length c4, natInts R4.2.1) :: L4) (B + 1) B (B + 2) (madeG G xl yl 5).2.2 qa4 5 qc4 (vs4 ++ [.slice a4 R4.2.1.length c4]) := by rw [madeG_succ]; unfold madeStep; rw [← HR.out]; exact HMD0.out
  have hvl : VL (vs4 ++ [.slice a4 R4.2.1.length c4]) (madeG G xl yl 5).2.1 ((.slice a4 R4.2.1.length c4, natInts R4.2.1) :: L4) := by rw [madeG_succ]; unfold madeStep; rw [← HR.out]; exact HVL.out.snoc _ _
  obtain ⟨L5, hL⟩ : ∃ X, X = (.slice a4 R4.2.1.length c4, natInts R4.2.1) :: L4 := ⟨_, rfl⟩
  obtain ⟨vs5, hv⟩ : ∃ X, X = vs4 ++ [.slice a4 R4.2.1.length c4] := ⟨_, rfl⟩
  rw [← hL, ← hv] at hmd hvl
  have hsub : ∀ p ∈ L, p ∈ L5 := fun p hp => by rw [hL]; exact List.mem_cons_of_mem _ (HSub.out p hp)
  clear HMD0 hL hv
  have HMD := Lib.hid hmd; clear hmd
  have HVL2 := Lib.hid hvl; clear hvl HVL
  have HVL := HVL2; clear HVL2
  have HSub2 := Lib.hid hsub; clear hsub HSub
  have HSub := HSub2; clear HSub2
  -- Add
  have hok := mkOp_ok HMD.out.hold.own.gin.ok 5 (by omega) xl yl hlen
  obtain ⟨R5, hR⟩ : ∃ R, R = mkOp 5 (madeG G xl yl 5).1 xl yl := ⟨_, rfl⟩
  rw [← hR] at hok
  have HR := Lib.hid hR; clear hR
  have HOK := Lib.hid hok; clear hok
  go_wp2_with fail
  refine Ord.St.door (fun w' => w'.cell? ⟨B + 2, 0, none⟩ = some (mfun B)) [.ho, .fl, .fl, .fl, .ef, .fl, .fl, .ef] [0, 0, 0, 0, 14, 30, 30, 127] [0, 1, 2, 3, 4, 5, 6, 7] mixed (by kernel_rfl) rfl ?_
  obtain ⟨Wc, hWc⟩ : ∃ Wc, Wc = W5.drew := ⟨_, rfl⟩
  rw [← hWc]
  have hmd := HMD.out.same (by rw [hWc]; exact (Ch.refl _ _).drew : Ch [] _ Wc)
  clear hWc
  have hbf := hmd.bf
  have hC2 : Calls Tryz.prog 49 #[.pointer (some ⟨g, 0, none⟩), .slice xa xl.length xc, .slice ya yl.length yc] Wc fun e w' => ∃ v, e = .returned (.tuple #[v, .int .i64 R5.2.2]) ∧ GVo Wc g R5.1 [] F5 v R5.2.1 w' := by rw [HR.out, mkOp_5]; have hC := sAdd_is hmd.hold.own.gin (hmd.hold.at (HSub.out _ HX.out) rfl) (hmd.hold.at (HSub.out _ HY.out) rfl); exact hC
  clear HMD
  have HMD := Lib.hid hmd; clear hmd
  refine Ord.St.ho2 (T' := ?_) 0 [1, 2, 3, 4, 5, 6, 7] _ _ rfl (by kernel_rfl) rfl rfl rfl rfl ?_ (fun K w' hw' hk => ?_) ?_
  rotate_left
  · exact hbf.cell rfl
  · have q1 := hw'; clear hw'; unfold mfun at q1; go_step; exact hk
  refine Ord.St.fl2 (T' := ?_) 1 [2, 3, 4, 5, 6, 7] _ _ rfl (by kernel_rfl) rfl rfl rfl rfl (fun K w' hk => ?_) ?_
  rotate_left
  · go_step; exact hk
  refine Ord.St.fl2 (T' := ?_) 2 [3, 4, 5, 6, 7] _ _ rfl (by kernel_rfl) rfl rfl rfl rfl (fun K w' hk => ?_) ?_
  rotate_left
  · go_step; exact hk
  refine Ord.St.fl2 (T' := ?_) 3 [4, 5, 6, 7] _ _ rfl (by kernel_rfl) rfl rfl rfl rfl (fun K w' hk => ?_) ?_
  rotate_left
  · go_step; exact hk
  refine Ord.St.efC 4 [5, 6, 7] _ rfl (by kernel_rfl) (fun K hK => ?_)
  go_wp2_with fail
  refine hC2.mono ?_
  rintro e w1 ⟨v, rfl, hg⟩
  obtain ⟨a5, c5, F6, rfl, hmd⟩ := HMD.out.word hg HOK.out.1.small HOK.out.2
  replace hbf := hmd.bf
  have hN := hmd.noted (by omega) a5 R5.2.1.length c5 R5.2.2
  clear hC2 hg hmd
  go_wp2_with fail
  refine ⟨rfl, hK _ _ ?_ ?_⟩
  · exact hbf.cell rfl
  clear hK K
  refine Ord.St.fl2 (T' := ?_) 5 [6, 7] _ _ rfl (by kernel_rfl) rfl rfl rfl rfl (fun K w' hk => ?_) ?_
  rotate_left
  · go_step; exact hk
  refine Ord.St.fl2 (T' := ?_) 6 [7] _ _ rfl (by kernel_rfl) rfl rfl rfl rfl (fun K w' hk => ?_) ?_
  rotate_left
  · go_step; exact hk
  refine Ord.St.ef 7 [] _ rfl (by kernel_rfl) (fun K hK => ?_)
  go_wp2_with fail
  refine hN.mono ?_
  rintro e W6 ⟨⟨v, rfl⟩, qa5, qc5, hmd⟩
  clear hN HMD
  have HMD0 := Lib.hid hmd; clear hmd
  go_wp2_with fail
  refine ⟨rfl, hK _ _ ?_⟩; clear hK K
  refine Ord.St.nil ?_
  have hmd : MD w0 w F W6 g (madeG G xl yl 6).1 F6 ((.slice a5 R5.2.1.length c5, natInts R5.2.1) :: L5) (B + 1) B (B + 2) (madeG G xl yl 6).2.2 qa5 6 qc5 (vs5 ++ [.slice a5 R5.2.1.length c5]) := by rw [madeG_succ]; unfold madeStep; rw [← HR.out]; exact HMD0.out
  have hvl : VL (vs5 ++ [.slice a5 R5.2.1.length c5]) (madeG G xl yl 6).2.1 ((.slice a5 R5.2.1.length c5, natInts R5.2.1) :: L5) := by rw [madeG_succ]; unfold madeStep; rw [← HR.out]; exact HVL.out.snoc _ _
  obtain ⟨L6, hL⟩ : ∃ X, X = (.slice a5 R5.2.1.length c5, natInts R5.2.1) :: L5 := ⟨_, rfl⟩
  obtain ⟨vs6, hv⟩ : ∃ X, X = vs5 ++ [.slice a5 R5.2.1.length c5] := ⟨_, rfl⟩
  rw [← hL, ← hv] at hmd hvl
  have hsub : ∀ p ∈ L, p ∈ L6 := fun p hp => by rw [hL]; exact List.mem_cons_of_mem _ (HSub.out p hp)
  clear HMD0 hL hv
  have HMD := Lib.hid hmd; clear hmd
  have HVL2 := Lib.hid hvl; clear hvl HVL
  have HVL := HVL2; clear HVL2
  have HSub2 := Lib.hid hsub; clear hsub HSub
  have HSub := HSub2; clear HSub2
  -- Sub
  have hok := mkOp_ok HMD.out.hold.own.gin.ok 6 (by omega) xl yl hlen
  obtain ⟨R6, hR⟩ : ∃ R, R = mkOp 6 (madeG G xl yl 6).1 xl yl := ⟨_, rfl⟩
  rw [← hR] at hok
  have HR := Lib.hid hR; clear hR
  have HOK := Lib.hid hok; clear hok
  go_wp2_with fail
  refine Ord.St.door (fun w' => w'.cell? ⟨B + 2, 0, none⟩ = some (mfun B)) [.ho, .fl, .fl, .fl, .ef, .fl, .fl, .ef] [0, 0, 0, 0, 14, 30, 30, 127] [0, 1, 2, 3, 4, 5, 6, 7] mixed (by kernel_rfl) rfl ?_
  obtain ⟨Wc, hWc⟩ : ∃ Wc, Wc = W6.drew := ⟨_, rfl⟩
  rw [← hWc]
  have hmd := HMD.out.same (by rw [hWc]; exact (Ch.refl _ _).drew : Ch [] _ Wc)
  clear hWc
  have hbf := hmd.bf
  have hC2 : Calls Tryz.prog 22 #[.pointer (some ⟨g, 0, none⟩), .slice xa xl.length xc, .slice ya yl.length yc] Wc fun e w' => ∃ v, e = .returned (.tuple #[v, .int .i64 R6.2.2]) ∧ GVo Wc g R6.1 [] F6 v R6.2.1 w' := by rw [HR.out, mkOp_6]; have hC := sSub_is hmd.hold.own.gin (hmd.hold.at (HSub.out _ HX.out) rfl) (hmd.hold.at (HSub.out _ HY.out) rfl); exact hC
  clear HMD
  have HMD := Lib.hid hmd; clear hmd
  refine Ord.St.ho2 (T' := ?_) 0 [1, 2, 3, 4, 5, 6, 7] _ _ rfl (by kernel_rfl) rfl rfl rfl rfl ?_ (fun K w' hw' hk => ?_) ?_
  rotate_left
  · exact hbf.cell rfl
  · have q1 := hw'; clear hw'; unfold mfun at q1; go_step; exact hk
  refine Ord.St.fl2 (T' := ?_) 1 [2, 3, 4, 5, 6, 7] _ _ rfl (by kernel_rfl) rfl rfl rfl rfl (fun K w' hk => ?_) ?_
  rotate_left
  · go_step; exact hk
  refine Ord.St.fl2 (T' := ?_) 2 [3, 4, 5, 6, 7] _ _ rfl (by kernel_rfl) rfl rfl rfl rfl (fun K w' hk => ?_) ?_
  rotate_left
  · go_step; exact hk
  refine Ord.St.fl2 (T' := ?_) 3 [4, 5, 6, 7] _ _ rfl (by kernel_rfl) rfl rfl rfl rfl (fun K w' hk => ?_) ?_
  rotate_left
  · go_step; exact hk
  refine Ord.St.efC 4 [5, 6, 7] _ rfl (by kernel_rfl) (fun K hK => ?_)
  go_wp2_with fail
  refine hC2.mono ?_
  rintro e w1 ⟨v, rfl, hg⟩
  obtain ⟨a6, c6, F7, rfl, hmd⟩ := HMD.out.word hg HOK.out.1.small HOK.out.2
  replace hbf := hmd.bf
  have hN := hmd.noted (by omega) a6 R6.2.1.length c6 R6.2.2
  clear hC2 hg hmd
  go_wp2_with fail
  refine ⟨rfl, hK _ _ ?_ ?_⟩
  · exact hbf.cell rfl
  clear hK K
  refine Ord.St.fl2 (T' := ?_) 5 [6, 7] _ _ rfl (by kernel_rfl) rfl rfl rfl rfl (fun K w' hk => ?_) ?_
  rotate_left
  · go_step; exact hk
  refine Ord.St.fl2 (T' := ?_) 6 [7] _ _ rfl (by kernel_rfl) rfl rfl rfl rfl (fun K w' hk => ?_) ?_
  rotate_left
  · go_step; exact hk
  refine Ord.St.ef 7 [] _ rfl (by kernel_rfl) (fun K hK => ?_)
  go_wp2_with fail
  refine hN.mono ?_
  rintro e W7 ⟨⟨v, rfl⟩, qa6, qc6, hmd⟩
  clear hN HMD
  have HMD0 := Lib.hid hmd; clear hmd
  go_wp2_with fail
  refine ⟨rfl, hK _ _ ?_⟩; clear hK K
  refine Ord.St.nil ?_
  have hmd : MD w0 w F W7 g (madeG G xl yl 7).1 F7 ((.slice a6 R6.2.1.length c6, natInts R6.2.1) :: L6) (B + 1) B (B + 2) (madeG G xl yl 7).2.2 qa6 7 qc6 (vs6 ++ [.slice a6 R6.2.1.length c6]) := by rw [madeG_succ]; unfold madeStep; rw [← HR.out]; exact HMD0.out
  have hvl : VL (vs6 ++ [.slice a6 R6.2.1.length c6]) (madeG G xl yl 7).2.1 ((.slice a6 R6.2.1.length c6, natInts R6.2.1) :: L6) := by rw [madeG_succ]; unfold madeStep; rw [← HR.out]; exact HVL.out.snoc _ _
  obtain ⟨L7, hL⟩ : ∃ X, X = (.slice a6 R6.2.1.length c6, natInts R6.2.1) :: L6 := ⟨_, rfl⟩
  obtain ⟨vs7, hv⟩ : ∃ X, X = vs6 ++ [.slice a6 R6.2.1.length c6] := ⟨_, rfl⟩
  rw [← hL, ← hv] at hmd hvl
  have hsub : ∀ p ∈ L, p ∈ L7 := fun p hp => by rw [hL]; exact List.mem_cons_of_mem _ (HSub.out p hp)
  clear HMD0 hL hv
  have HMD := Lib.hid hmd; clear hmd
  have HVL2 := Lib.hid hvl; clear hvl HVL
  have HVL := HVL2; clear HVL2
  have HSub2 := Lib.hid hsub; clear hsub HSub
  have HSub := HSub2; clear HSub2
  -- Eq
  have hok := mkOp_ok HMD.out.hold.own.gin.ok 7 (by omega) xl yl hlen
  obtain ⟨R7, hR⟩ : ∃ R : Res, R = (negG (refG (madeG G xl yl 7).1 [xl, yl] (neF ((madeG G xl yl 7).1, 0) ((nats xl).zip (nats yl))))) := ⟨_, rfl⟩
  have hmk : mkOp 7 (madeG G xl yl 7).1 xl yl = bitR R7 := by rw [hR, mkOp_7]
  have hC2 : Calls Tryz.prog 25 #[.pointer (some ⟨g, 0, none⟩), .slice xa xl.length xc, .slice ya yl.length yc] W7 fun e w' => e = .returned (.tuple #[.int .i64 R7.2.1, .int .i64 R7.2.2]) ∧ GTo W7 g R7.1 F7 w' := by rw [hR]; have hC := sEq_is HMD.out.hold.own.gin (HMD.out.hold.at (HSub.out _ HX.out) rfl) (HMD.out.hold.at (HSub.out _ HY.out) rfl); exact hC
  rw [hmk] at hok
  have hrs := hok.1.small R7.2.1 (by simp [bitR])
  have HMK := Lib.hid hmk; clear hmk hR hok
  go_wp2_with fail
  refine hC2.mono ?_
  rintro e w1 ⟨rfl, hg⟩
  obtain ⟨F8, hmd⟩ := HMD.out.ref hg
  have hN := made2_is hmd (by omega) R7.2.1 R7.2.2 hrs
  clear hC2 hg hmd HMD
  go_wp2_with fail
  refine hN.mono ?_
  rintro e W8 ⟨⟨v, rfl⟩, a7, qa7, qc7, hmd0⟩
  have HMD0 := Lib.hid hmd0; clear hmd0 hN hrs
  have hmd : MD w0 w F W8 g (madeG G xl yl 8).1 F8 ((.slice a7 1 1, natInts [R7.2.1]) :: L7) (B + 1) B (B + 2) (madeG G xl yl 8).2.2 qa7 8 qc7 (vs7 ++ [.slice a7 1 1]) := by rw [madeG_succ]; unfold madeStep; rw [HMK.out]; exact HMD0.out
  have hvl : VL (vs7 ++ [.slice a7 1 1]) (madeG G xl yl 8).2.1 ((.slice a7 1 1, natInts [R7.2.1]) :: L7) := by rw [madeG_succ]; unfold madeStep; rw [HMK.out]; exact HVL.out.snoc _ _
  obtain ⟨L8, hL⟩ : ∃ X, X = (.slice a7 1 1, natInts [R7.2.1]) :: L7 := ⟨_, rfl⟩
  obtain ⟨vs8, hv⟩ : ∃ X, X = vs7 ++ [.slice a7 1 1] := ⟨_, rfl⟩
  rw [← hL, ← hv] at hmd hvl
  have hsub : ∀ p ∈ L, p ∈ L8 := fun p hp => by rw [hL]; exact List.mem_cons_of_mem _ (HSub.out p hp)
  clear HMD0 hL hv
  have HMD := Lib.hid hmd; clear hmd
  have HVL2 := Lib.hid hvl; clear hvl HVL
  have HVL := HVL2; clear HVL2
  have HSub2 := Lib.hid hsub; clear hsub HSub
  have HSub := HSub2; clear HSub2
  -- Ne
  have hok := mkOp_ok HMD.out.hold.own.gin.ok 8 (by omega) xl yl hlen
  obtain ⟨R8, hR⟩ : ∃ R : Res, R = (refG (madeG G xl yl 8).1 [xl, yl] (neF ((madeG G xl yl 8).1, 0) ((nats xl).zip (nats yl)))) := ⟨_, rfl⟩
  have hmk : mkOp 8 (madeG G xl yl 8).1 xl yl = bitR R8 := by rw [hR, mkOp_8]
  have hC2 : Calls Tryz.prog 50 #[.pointer (some ⟨g, 0, none⟩), .slice xa xl.length xc, .slice ya yl.length yc] W8 fun e w' => e = .returned (.tuple #[.int .i64 R8.2.1, .int .i64 R8.2.2]) ∧ GTo W8 g R8.1 F8 w' := by rw [hR]; have hC := sNe_is HMD.out.hold.own.gin (HMD.out.hold.at (HSub.out _ HX.out) rfl) (HMD.out.hold.at (HSub.out _ HY.out) rfl); exact hC
  rw [hmk] at hok
  have hrs := hok.1.small R8.2.1 (by simp [bitR])
  have HMK := Lib.hid hmk; clear hmk hR hok
  go_wp2_with fail
  refine hC2.mono ?_
  rintro e w1 ⟨rfl, hg⟩
  obtain ⟨F9, hmd⟩ := HMD.out.ref hg
  have hN := made2_is hmd (by omega) R8.2.1 R8.2.2 hrs
  clear hC2 hg hmd HMD
  go_wp2_with fail
  refine hN.mono ?_
  rintro e W9 ⟨⟨v, rfl⟩, a8, qa8, qc8, hmd0⟩
  have HMD0 := Lib.hid hmd0; clear hmd0 hN hrs
  have hmd : MD w0 w F W9 g (madeG G xl yl 9).1 F9 ((.slice a8 1 1, natInts [R8.2.1]) :: L8) (B + 1) B (B + 2) (madeG G xl yl 9).2.2 qa8 9 qc8 (vs8 ++ [.slice a8 1 1]) := by rw [madeG_succ]; unfold madeStep; rw [HMK.out]; exact HMD0.out
  have hvl : VL (vs8 ++ [.slice a8 1 1]) (madeG G xl yl 9).2.1 ((.slice a8 1 1, natInts [R8.2.1]) :: L8) := by rw [madeG_succ]; unfold madeStep; rw [HMK.out]; exact HVL.out.snoc _ _
  obtain ⟨L9, hL⟩ : ∃ X, X = (.slice a8 1 1, natInts [R8.2.1]) :: L8 := ⟨_, rfl⟩
  obtain ⟨vs9, hv⟩ : ∃ X, X = vs8 ++ [.slice a8 1 1] := ⟨_, rfl⟩
  rw [← hL, ← hv] at hmd hvl
  have hsub : ∀ p ∈ L, p ∈ L9 := fun p hp => by rw [hL]; exact List.mem_cons_of_mem _ (HSub.out p hp)
  clear HMD0 hL hv
  have HMD := Lib.hid hmd; clear hmd
  have HVL2 := Lib.hid hvl; clear hvl HVL
  have HVL := HVL2; clear HVL2
  have HSub2 := Lib.hid hsub; clear hsub HSub
  have HSub := HSub2; clear HSub2
  -- Lt
  have hok := mkOp_ok HMD.out.hold.own.gin.ok 9 (by omega) xl yl hlen
  obtain ⟨R9, hR⟩ : ∃ R : Res, R = (refG (madeG G xl yl 9).1 [xl, yl] (ltF ((madeG G xl yl 9).1, 0) ((nats xl).zip (nats yl)))) := ⟨_, rfl⟩
  have hmk : mkOp 9 (madeG G xl yl 9).1 xl yl = bitR R9 := by rw [hR, mkOp_9]
  have hC2 : Calls Tryz.prog 23 #[.pointer (some ⟨g, 0, none⟩), .slice xa xl.length xc, .slice ya yl.length yc] W9 fun e w' => e = .returned (.tuple #[.int .i64 R9.2.1, .int .i64 R9.2.2]) ∧ GTo W9 g R9.1 F9 w' := by rw [hR]; have hC := sLt_is HMD.out.hold.own.gin (HMD.out.hold.at (HSub.out _ HX.out) rfl) (HMD.out.hold.at (HSub.out _ HY.out) rfl); exact hC
  rw [hmk] at hok
  have hrs := hok.1.small R9.2.1 (by simp [bitR])
  have HMK := Lib.hid hmk; clear hmk hR hok
  go_wp2_with fail
  refine hC2.mono ?_
  rintro e w1 ⟨rfl, hg⟩
  obtain ⟨F10, hmd⟩ := HMD.out.ref hg
  have hN := made2_is hmd (by omega) R9.2.1 R9.2.2 hrs
  clear hC2 hg hmd HMD
  go_wp2_with fail
  refine hN.mono ?_
  rintro e W10 ⟨⟨v, rfl⟩, a9, qa9, qc9, hmd0⟩
  have HMD0 := Lib.hid hmd0; clear hmd0 hN hrs
  have hmd : MD w0 w F W10 g (madeG G xl yl 10).1 F10 ((.slice a9 1 1, natInts [R9.2.1]) :: L9) (B + 1) B (B + 2) (madeG G xl yl 10).2.2 qa9 10 qc9 (vs9 ++ [.slice a9 1 1]) := by rw [madeG_succ]; unfold madeStep; rw [HMK.out]; exact HMD0.out
  have hvl : VL (vs9 ++ [.slice a9 1 1]) (madeG G xl yl 10).2.1 ((.slice a9 1 1, natInts [R9.2.1]) :: L9) := by rw [madeG_succ]; unfold madeStep; rw [HMK.out]; exact HVL.out.snoc _ _
  obtain ⟨L10, hL⟩ : ∃ X, X = (.slice a9 1 1, natInts [R9.2.1]) :: L9 := ⟨_, rfl⟩
  obtain ⟨vs10, hv⟩ : ∃ X, X = vs9 ++ [.slice a9 1 1] := ⟨_, rfl⟩
  rw [← hL, ← hv] at hmd hvl
  have hsub : ∀ p ∈ L, p ∈ L10 := fun p hp => by rw [hL]; exact List.mem_cons_of_mem _ (HSub.out p hp)
  clear HMD0 hL hv
  have HMD := Lib.hid hmd; clear hmd
  have HVL2 := Lib.hid hvl; clear hvl HVL
  have HVL := HVL2; clear HVL2
  have HSub2 := Lib.hid hsub; clear hsub HSub
  have HSub := HSub2; clear HSub2
  -- Le
  have hok := mkOp_ok HMD.out.hold.own.gin.ok 10 (by omega) xl yl hlen
  obtain ⟨R10, hR⟩ : ∃ R : Res, R = (negG (refG (madeG G xl yl 10).1 [yl, xl] (ltF ((madeG G xl yl 10).1, 0) ((nats yl).zip (nats xl))))) := ⟨_, rfl⟩
  have hmk : mkOp 10 (madeG G xl yl 10).1 xl yl = bitR R10 := by rw [hR, mkOp_10]
  have hC2 : Calls Tryz.prog 51 #[.pointer (some ⟨g, 0, none⟩), .slice xa xl.length xc, .slice ya yl.length yc] W10 fun e w' => e = .returned (.tuple #[.int .i64 R10.2.1, .int .i64 R10.2.2]) ∧ GTo W10 g R10.1 F10 w' := by rw [hR]; have hC := sLe_is HMD.out.hold.own.gin (HMD.out.hold.at (HSub.out _ HX.out) rfl) (HMD.out.hold.at (HSub.out _ HY.out) rfl); exact hC
  rw [hmk] at hok
  have hrs := hok.1.small R10.2.1 (by simp [bitR])
  have HMK := Lib.hid hmk; clear hmk hR hok
  go_wp2_with fail
  refine hC2.mono ?_
  rintro e w1 ⟨rfl, hg⟩
  obtain ⟨F11, hmd⟩ := HMD.out.ref hg
  have hN := made2_is hmd (by omega) R10.2.1 R10.2.2 hrs
  clear hC2 hg hmd HMD
  go_wp2_with fail
  refine hN.mono ?_
  rintro e W11 ⟨⟨v, rfl⟩, a10, qa10, qc10, hmd0⟩
  have HMD0 := Lib.hid hmd0; clear hmd0 hN hrs
  have hmd : MD w0 w F W11 g (madeG G xl yl 11).1 F11 ((.slice a10 1 1, natInts [R10.2.1]) :: L10) (B + 1) B (B + 2) (madeG G xl yl 11).2.2 qa10 11 qc10 (vs10 ++ [.slice a10 1 1]) := by rw [madeG_succ]; unfold madeStep; rw [HMK.out]; exact HMD0.out
  have hvl : VL (vs10 ++ [.slice a10 1 1]) (madeG G xl yl 11).2.1 ((.slice a10 1 1, natInts [R10.2.1]) :: L10) := by rw [madeG_succ]; unfold madeStep; rw [HMK.out]; exact HVL.out.snoc _ _
  obtain ⟨L11, hL⟩ : ∃ X, X = (.slice a10 1 1, natInts [R10.2.1]) :: L10 := ⟨_, rfl⟩
  obtain ⟨vs11, hv⟩ : ∃ X, X = vs10 ++ [.slice a10 1 1] := ⟨_, rfl⟩
  rw [← hL, ← hv] at hmd hvl
  have hsub : ∀ p ∈ L, p ∈ L11 := fun p hp => by rw [hL]; exact List.mem_cons_of_mem _ (HSub.out p hp)
  clear HMD0 hL hv
  have HMD := Lib.hid hmd; clear hmd
  have HVL2 := Lib.hid hvl; clear hvl HVL
  have HVL := HVL2; clear HVL2
  have HSub2 := Lib.hid hsub; clear hsub HSub
  have HSub := HSub2; clear HSub2
  generalize hokk : (madeG G xl yl 11).2.2 = okk at *
  have HOKK := Lib.hid hokk; clear hokk
  have hbo := HMD.out.bo
  have hbk := HMD.out.bk
  go_wp2_with fail
  refine Ord.St.door (fun w' => w'.cell? ⟨B, 0, none⟩ = some (.slice qa10 11 qc10) ∧ w'.cell? ⟨B + 1, 0, none⟩ = some (.bool okk)) [.ho, .ef, .ho, .fl, .fl, .fl] [0, 0, 0, 1, 11, 31] [0, 1, 2, 3, 4, 5] mixed (by kernel_rfl) rfl ?_
  obtain ⟨Wc, hWc⟩ : ∃ Wc, Wc = W11.drew := ⟨_, rfl⟩
  rw [← hWc]
  have hmd := HMD.out.same (by rw [hWc]; exact (Ch.refl _ _).drew : Ch [] _ Wc)
  clear hWc HMD
  replace hbo := hmd.bo
  replace hbk := hmd.bk
  have HMD := Lib.hid hmd; clear hmd
  refine Ord.St.ho2 (T' := ?_) 0 [1, 2, 3, 4, 5] _ _ rfl (by kernel_rfl) rfl rfl rfl rfl ?_ (fun K w' hw' hk => ?_) ?_
  rotate_left
  · exact ⟨hbo.cell rfl, hbk.cell rfl⟩
  · obtain ⟨q1, q2⟩ := hw'; go_step; exact hk
  refine Ord.St.ho2 (T' := ?_) 2 [1, 3, 4, 5] _ _ rfl (by kernel_rfl) rfl rfl rfl rfl ?_ (fun K w' hw' hk => ?_) ?_
  rotate_left
  · exact ⟨hbo.cell rfl, hbk.cell rfl⟩
  · obtain ⟨q1, q2⟩ := hw'; go_step; exact hk
  refine Ord.St.fl2 (T' := ?_) 3 [1, 4, 5] _ _ rfl (by kernel_rfl) rfl rfl rfl rfl (fun K w' hk => ?_) ?_
  rotate_left
  · go_step; exact hk
  refine Ord.St.efC 1 [4, 5] _ rfl (by kernel_rfl) (fun K hK => ?_)
  go_wp2_with fail
  refine ⟨rfl, hK _ _ ?_ ?_⟩
  · exact ⟨(hbo.alloc _).cell rfl, (hbk.alloc _).cell rfl⟩
  clear hK K
  refine Ord.St.alw ?_; intro Wn hWn
  have hcn := alw_ch hWn
  have hops := alw_blk (xs := ([1, 2, 8, 9, 10, 3, 4, 13, 14, 15, 16].map fun (z : Int) => Value.int .u8 z)) hWn
  clear hWn
  replace hbo := hbo.ch hcn (by simp)
  replace hbk := hbk.ch hcn (by simp)
  refine Ord.St.fl2 (T' := ?_) 4 [5] _ _ rfl (by kernel_rfl) rfl rfl rfl rfl (fun K w' hk => ?_) ?_
  rotate_left
  · go_step; exact hk
  refine Ord.St.fl2 (T' := ?_) 5 [] _ _ rfl (by kernel_rfl) rfl rfl rfl rfl (fun K w' hk => ?_) ?_
  rotate_left
  · go_step; exact hk
  refine Ord.St.nil ?_
  go_wp2_with fail
  have hm2 := HMD.out.same hcn
  have hz2 := HMD.out.hold.own.ch.size
  have hlt2 := GIn.lt HMD.out.hold.own.gin
  go_ret3
  refine ⟨F11, L11, qa10, qc10, Wc.heap.size, vs11, ?_, hm2.hold, HSub.out, HVL.out, hm2.row, fun k hk => ⟨(hm2.oo k hk).1, (hm2.oo k hk).2.1⟩, hops, hz2, fun hk => (by have := hlt2 _ hk; omega), hm2.ch1, hm2.f1⟩
  rw [HOKK.out]; rfl
end
end Go.Proofs.YtchledddgmbndaaGreat
namespace Go.Aig
theorem and_c (G : Gra) (a b : Bool) : and G a.toNat b.toNat = (G, (a && b).toNat, 0) := by cases a <;> cases b <;> rfl
theorem neg_c (b : Bool) : neg b.toNat = (!b).toNat := by cases b <;> rfl
theorem rOr_c (G : Gra) (a b : Bool) : rOr G a.toNat b.toNat = (G, (a || b).toNat, 0) := by cases a <;> cases b <;> rfl
theorem rMux_c (G : Gra) (c a b : Bool) : rMux G c.toNat a.toNat b.toNat = (G, (bif c then a else b).toNat, 0) := by cases c <;> cases a <;> cases b <;> rfl
theorem rXor_c (G : Gra) (a b : Bool) : rXor G a.toNat b.toNat = (G, (Bool.xor a b).toNat, 0) := by cases a <;> cases b <;> rfl
/-- a word of constants -/
def crs (l : List Bool) : List Nat := l.map Bool.toNat
def cp (p : Bool × Bool) : Nat × Nat := (p.1.toNat, p.2.toNat)
theorem crs_snoc (l : List Bool) (b : Bool) : crs (l ++ [b]) = crs l ++ [b.toNat] := by simp [crs]
theorem crs_zip (x y : List Bool) : (crs x).zip (crs y) = (x.zip y).map cp := by
  unfold crs cp
  rw [List.zip_map]
  rfl
theorem each_c (G : Gra) (f : Gra → Nat → Nat → Res) (g : Bool → Bool → Bool) (hf : ∀ a b : Bool, f G a.toNat b.toNat = (G, (g a b).toNat, 0)) (l : List (Bool × Bool)) :
    eachF (rop f) (G, 0) (l.map cp) = ((G, 0), crs (l.map fun p => g p.1 p.2)) := by
  have : ∀ (l : List (Bool × Bool)) (acc : List Nat), (l.map cp).foldl (eachS (rop f)) ((G, 0), acc) = ((G, 0), acc ++ crs (l.map fun p => g p.1 p.2)) := by
    intro l
    induction l with
    | nil => intro acc; simp [crs]
    | cons p l ih =>
      intro acc
      rw [List.map_cons, List.foldl_cons]
      have e : eachS (rop f) ((G, 0), acc) (cp p) = ((G, 0), acc ++ [(g p.1 p.2).toNat]) := by
        unfold eachS rop cp
        simp only [hf]
        rfl
      rw [e, ih]
      simp [crs]
  exact this l []
/-- the sum of constants, bit by bit -/
def sB (n : Nat) (q : List Bool × Bool) (p : Bool × Bool) : List Bool × Bool :=
  (q.1 ++ [Bool.xor (Bool.xor p.1 p.2) q.2], if q.1.length + 1 < n then (p.1 && p.2) || (Bool.xor p.1 p.2 && q.2) else q.2)
theorem sum_c (G : Gra) (n : Nat) (l : List (Bool × Bool)) (c : Bool) : sumF n (G, 0) (l.map cp) c.toNat = ((G, 0), crs (l.foldl (sB n) ([], c)).1, (l.foldl (sB n) ([], c)).2.toNat) := by
  have : ∀ (l : List (Bool × Bool)) (acc : List Bool) (c : Bool), (l.map cp).foldl (sumS n) ((G, 0), crs acc, c.toNat) = ((G, 0), crs (l.foldl (sB n) (acc, c)).1, (l.foldl (sB n) (acc, c)).2.toNat) := by
    intro l
    induction l with
    | nil => intro acc c; rfl
    | cons p l ih =>
      intro acc c
      rw [List.map_cons, List.foldl_cons, List.foldl_cons]
      have e : sumS n ((G, 0), crs acc, c.toNat) (cp p) = ((G, 0), crs (sB n (acc, c) p).1, (sB n (acc, c) p).2.toNat) := by
        have hx : sXor (G, 0) p.1.toNat p.2.toNat = ((G, 0), (Bool.xor p.1 p.2).toNat) := by unfold sXor; simp only [rXor_c]; rfl
        have hr : sXor (G, 0) (Bool.xor p.1 p.2).toNat c.toNat = ((G, 0), (Bool.xor (Bool.xor p.1 p.2) c).toNat) := by unfold sXor; simp only [rXor_c]; rfl
        have h1 : sAnd (G, 0) p.1.toNat p.2.toNat = ((G, 0), (p.1 && p.2).toNat) := by unfold sAnd; simp only [and_c]; rfl
        have h2 : sAnd (G, 0) (Bool.xor p.1 p.2).toNat c.toNat = ((G, 0), (Bool.xor p.1 p.2 && c).toNat) := by unfold sAnd; simp only [and_c]; rfl
        have h3 : sOr (G, 0) (p.1 && p.2).toNat (Bool.xor p.1 p.2 && c).toNat = ((G, 0), ((p.1 && p.2) || (Bool.xor p.1 p.2 && c)).toNat) := by unfold sOr; simp only [rOr_c]; rfl
        have hl : (crs acc).length = acc.length := by simp [crs]
        unfold sumS sB cp
        simp only [hx, hr, h1, h2, h3, hl]
        split
        · simp only [crs_snoc]
        · simp only [crs_snoc]
      rw [e, ih]
  exact this l [] c
theorem b_le (b : Bool) : b.toNat ≤ 1 := by cases b <;> decide
theorem sB_len (n : Nat) (c : Bool) (l : List (Bool × Bool)) : (l.foldl (sB n) ([], c)).1.length = l.length := by
  induction l using List.snocRec with
  | nil => rfl
  | snoc l p ih => rw [List.foldl_append]; simp [sB, ih]
theorem full_add (a b c : Bool) : (Bool.xor (Bool.xor a b) c).toNat + 2 * ((a && b) || (Bool.xor a b && c)).toNat = a.toNat + b.toNat + c.toNat := by cases a <;> cases b <;> cases c <;> rfl
theorem sB_val (n : Nat) (c : Bool) (l : List (Bool × Bool)) (h : l.length < n) : bitsVal (l.foldl (sB n) ([], c)).1 + (l.foldl (sB n) ([], c)).2.toNat * 2 ^ l.length = bitsVal (l.map Prod.fst) + bitsVal (l.map Prod.snd) + c.toNat := by
  induction l using List.snocRec with
  | nil => simp [bitsVal]
  | snoc l p ih =>
    rw [List.length_append] at h
    have ih := ih (by simp at h; omega)
    have hl := sB_len n c l
    rw [List.foldl_append]
    generalize l.foldl (sB n) ([], c) = q at *
    obtain ⟨out, cc⟩ := q
    simp only at ih hl
    simp only [List.foldl_cons, List.foldl_nil, sB, hl, List.map_append, List.map_cons, List.map_nil, List.length_append, List.length_cons, List.length_nil]
    simp at h
    rw [if_pos (by omega)]
    rw [bitsVal_snoc, bitsVal_snoc, bitsVal_snoc, hl, List.length_map, List.length_map, Nat.zero_add, Nat.pow_succ]
    have hf := full_add p.1 p.2 cc
    generalize 2 ^ l.length = P at *
    generalize (Bool.xor (Bool.xor p.1 p.2) cc).toNat = s at *
    generalize ((p.1 && p.2) || (Bool.xor p.1 p.2 && cc)).toNat = t at *
    generalize p.1.toNat = a at *
    generalize p.2.toNat = b at *
    generalize cc.toNat = k at *
    have e : s * P + t * (P * 2) = a * P + b * P + k * P := by
      have : (s + 2 * t) * P = (a + b + k) * P := by rw [hf]
      rw [Nat.add_mul, Nat.add_mul, Nat.add_mul] at this
      rw [show t * (P * 2) = 2 * t * P by rw [Nat.mul_comm P 2, ← Nat.mul_assoc, Nat.mul_comm t 2]]
      exact this
    omega
theorem sB_last (n : Nat) (c : Bool) (l : List (Bool × Bool)) (h : l.length = n) (hn : 1 ≤ n) : bitsVal (l.foldl (sB n) ([], c)).1 = (bitsVal (l.map Prod.fst) + bitsVal (l.map Prod.snd) + c.toNat) % 2 ^ n := by
  have hne : l ≠ [] := by intro e; rw [e] at h; simp at h; omega
  obtain ⟨l', p, rfl⟩ : ∃ l' p, l = l' ++ [p] := ⟨_, _, (List.dropLast_concat_getLast hne).symm⟩
  rw [List.length_append] at h
  simp at h
  have hv := sB_val n c l' (by omega)
  have hl := sB_len n c l'
  have hlt := bitsVal_lt (((l' ++ [p]).foldl (sB n) ([], c)).1)
  rw [sB_len, List.length_append] at hlt
  simp only [List.length_cons, List.length_nil, Nat.zero_add, h] at hlt
  rw [List.foldl_append] at hlt ⊢
  generalize l'.foldl (sB n) ([], c) = q at *
  obtain ⟨out, cc⟩ := q
  simp only at hv hl
  simp only [List.foldl_cons, List.foldl_nil, sB, List.map_append, List.map_cons, List.map_nil] at hlt ⊢
  rw [bitsVal_snoc] at hlt ⊢
  rw [bitsVal_snoc, bitsVal_snoc, hl, List.length_map, List.length_map]
  rw [hl] at hlt
  have hP : 2 ^ n = 2 * 2 ^ l'.length := by rw [← h, Nat.pow_succ, Nat.mul_comm]
  rw [hP] at hlt ⊢
  have hf := full_add p.1 p.2 cc
  generalize 2 ^ l'.length = P at *
  generalize (Bool.xor (Bool.xor p.1 p.2) cc).toNat = s at *
  generalize ((p.1 && p.2) || (Bool.xor p.1 p.2 && cc)).toNat = t at *
  generalize p.1.toNat = a at *
  generalize p.2.toNat = b at *
  generalize cc.toNat = k at *
  have e : s * P + t * (2 * P) = a * P + b * P + k * P := by
    have : (s + 2 * t) * P = (a + b + k) * P := by rw [hf]
    rw [Nat.add_mul, Nat.add_mul, Nat.add_mul] at this
    rw [show t * (2 * P) = 2 * t * P by rw [← Nat.mul_assoc, Nat.mul_comm t 2]]
    exact this
  have e2 : bitsVal (l'.map Prod.fst) + a * P + (bitsVal (l'.map Prod.snd) + b * P) + c.toNat = bitsVal out + s * P + t * (2 * P) := by omega
  rw [e2, Nat.mul_comm t (2 * P), Nat.add_mul_mod_self_left, Nat.mod_eq_of_lt hlt]
/-- less than, of constants -/
def lB (o : Bool) (p : Bool × Bool) : Bool := bif Bool.xor p.1 p.2 then p.2 else o
theorem lt_c (G : Gra) (l : List (Bool × Bool)) : ltF (G, 0) (l.map cp) = ((G, 0), (l.foldl lB false).toNat) := by
  have : ∀ (l : List (Bool × Bool)) (o : Bool), (l.map cp).foldl ltS ((G, 0), o.toNat) = ((G, 0), (l.foldl lB o).toNat) := by
    intro l
    induction l with
    | nil => intro o; rfl
    | cons p l ih =>
      intro o
      rw [List.map_cons, List.foldl_cons, List.foldl_cons]
      have e : ltS ((G, 0), o.toNat) (cp p) = ((G, 0), (lB o p).toNat) := by
        have hx : sXor (G, 0) p.1.toNat p.2.toNat = ((G, 0), (Bool.xor p.1 p.2).toNat) := by unfold sXor; simp only [rXor_c]; rfl
        have hm : sMux (G, 0) (Bool.xor p.1 p.2).toNat p.2.toNat o.toNat = ((G, 0), (bif Bool.xor p.1 p.2 then p.2 else o).toNat) := by unfold sMux; simp only [rMux_c]; rfl
        unfold ltS cp
        simp only [hx, hm]
        rfl
      rw [e, ih]
  exact this l false
theorem lB_val (l : List (Bool × Bool)) : l.foldl lB false = decide (bitsVal (l.map Prod.fst) < bitsVal (l.map Prod.snd)) := by
  induction l using List.snocRec with
  | nil => rfl
  | snoc l p ih =>
    rw [List.foldl_append, ih]
    simp only [List.foldl_cons, List.foldl_nil, List.map_append, List.map_cons, List.map_nil]
    rw [bitsVal_snoc, bitsVal_snoc, List.length_map, List.length_map]
    have h1 := bitsVal_lt (l.map Prod.fst)
    have h2 := bitsVal_lt (l.map Prod.snd)
    rw [List.length_map] at h1 h2
    unfold lB
    generalize bitsVal (l.map Prod.fst) = x at *
    generalize bitsVal (l.map Prod.snd) = y at *
    generalize 2 ^ l.length = P at *
    obtain ⟨a, b⟩ := p
    cases a <;> cases b <;> simp <;> omega
theorem rAllFrom_c (G : Gra) : ∀ (l : List Bool) (o : Bool), rAllFrom G G o.toNat (crs l) = (G, (o && l.all id).toNat, 0)
  | [], o => by simp [crs, rAllFrom]
  | b :: l, o => by
    have h := and_c G o b
    show (if (and G o.toNat b.toNat).2.2 ≠ 0 then (G, 0, (and G o.toNat b.toNat).2.2) else rAllFrom G (and G o.toNat b.toNat).1 (and G o.toNat b.toNat).2.1 (crs l)) = _
    rw [h]
    simp only [ne_eq, not_true_eq_false, if_false]
    rw [rAllFrom_c G l]
    simp [Bool.and_assoc]
theorem all_not : ∀ l : List Bool, (l.map not).all id = !(l.any id)
  | [] => rfl
  | b :: l => by
    rw [List.map_cons, List.all_cons, List.any_cons, all_not l]
    cases b <;> rfl
theorem rAny_c (G : Gra) (l : List Bool) : rAny G (crs l) = (G, (l.any id).toNat, 0) := by
  have hn : (crs l).map neg = crs (l.map not) := by
    unfold crs
    rw [List.map_map, List.map_map]
    exact List.map_congr_left (fun b _ => neg_c b)
  have h := rAllFrom_c G (l.map not) true
  have h2 : rAll G ((crs l).map neg) = (G, ((l.map not).all id).toNat, 0) := by
    rw [hn]
    unfold rAll
    have := h
    simp only [Bool.true_and] at this
    exact this
  unfold rAny
  rw [h2]
  simp only [ne_eq, not_true_eq_false, if_false, neg_c]
  rw [all_not, Bool.not_not]
theorem any_val (l : List Bool) : l.any id = decide (bitsVal l ≠ 0) := by
  induction l with
  | nil => rfl
  | cons b l ih =>
    rw [List.any_cons, ih]
    show (b || decide (bitsVal l ≠ 0)) = decide (b.toNat + 2 * bitsVal l ≠ 0)
    cases b <;> simp <;> omega
theorem bitsVal_inj : ∀ {x y : List Bool}, x.length = y.length → bitsVal x = bitsVal y → x = y
  | [], [], _, _ => rfl
  | [], _ :: _, h, _ => by simp at h
  | _ :: _, [], h, _ => by simp at h
  | a :: x, b :: y, h, e => by
    have e : a.toNat + 2 * bitsVal x = b.toNat + 2 * bitsVal y := e
    have ha := b_le a
    have hb := b_le b
    have h1 : a.toNat = b.toNat := by omega
    have h2 : bitsVal x = bitsVal y := by omega
    rw [bitsVal_inj (by simpa using h) h2]
    congr 1
    cases a <;> cases b <;> simp at h1 ⊢
theorem not_val (l : List Bool) : bitsVal (l.map not) = 2 ^ l.length - 1 - bitsVal l := by
  induction l with
  | nil => rfl
  | cons b l ih =>
    have h := bitsVal_lt l
    show (!b).toNat + 2 * bitsVal (l.map not) = 2 ^ (l.length + 1) - 1 - (b.toNat + 2 * bitsVal l)
    rw [ih, Nat.pow_succ]
    cases b <;> simp <;> omega
theorem bitsVal_bit : ∀ (l : List Bool) (i : Nat), (bitsVal l).testBit i = l.getD i false
  | [], i => by simp [bitsVal]
  | b :: l, 0 => by
    show (b.toNat + 2 * bitsVal l).testBit 0 = b
    rw [Nat.testBit_zero]
    cases b <;> simp <;> omega
  | b :: l, i + 1 => by
    show (b.toNat + 2 * bitsVal l).testBit (i + 1) = _
    rw [Nat.testBit_succ, show (b.toNat + 2 * bitsVal l) / 2 = bitsVal l by have := b_le b; omega, bitsVal_bit l i]
    simp
theorem bits_val (a w : Nat) : bitsVal ((List.range w).map fun i => a.testBit i) = a % 2 ^ w := by
  apply Nat.eq_of_testBit_eq
  intro i
  rw [bitsVal_bit, Nat.testBit_mod_two_pow, List.getD_eq_getElem?_getD, List.getElem?_map]
  by_cases h : i < w
  · rw [List.getElem?_range h]; simp [h]
  · rw [List.getElem?_eq_none (by simp; omega)]; simp [h]
end Go.Aig
namespace Go.Aig
def opsL : List Nat := [1, 2, 8, 9, 10, 3, 4, 13, 14, 15, 16]
theorem nats_crs (X : List Bool) : nats (natInts (crs X)) = crs X := by
  unfold nats natInts
  exact Go.Proofs.YtchledddgmbndaaGreat.toNats (crs X)
theorem crs_len (X : List Bool) : (crs X).length = X.length := by simp [crs]
theorem natInts_crs_len (X : List Bool) : (natInts (crs X)).length = X.length := by simp [natInts, crs]
theorem crs_neg (X : List Bool) : (crs X).map neg = crs (X.map not) := by
  unfold crs
  rw [List.map_map, List.map_map]
  exact List.map_congr_left (fun b _ => neg_c b)
theorem badIn_c {G : Gra} (hG : Ok G) (X : List Bool) : badIn G (natInts (crs X)) = false := by
  unfold badIn
  rw [List.any_eq_false]
  intro r hr
  unfold natInts crs at hr
  rw [List.map_map] at hr
  obtain ⟨b, _, rfl⟩ := List.mem_map.1 hr
  have := hG.wf.pos
  have := b_le b
  simp [right]; omega
theorem chk2_c {G : Gra} (hG : Ok G) {X Y : List Bool} {w : Nat} (hx : X.length = w) (hy : Y.length = w) (h1 : 1 ≤ w) (h16 : w ≤ 16) : chk G [natInts (crs X), natInts (crs Y)] = 0 := by
  have h : rightW (w : Int) = true := by unfold rightW; simp; omega
  unfold chk
  simp only [List.any_cons, List.any_nil, Bool.or_false, List.headD_cons, badIn_c hG, badAs, natInts_crs_len, hx, hy, h]
  simp
theorem chk1_c {G : Gra} (hG : Ok G) {X : List Bool} {w : Nat} (hx : X.length = w) (h1 : 1 ≤ w) (h16 : w ≤ 16) : chk G [natInts (crs X)] = 0 := by
  have h : rightW (w : Int) = true := by unfold rightW; simp; omega
  unfold chk
  simp only [List.any_cons, List.any_nil, Bool.or_false, List.headD_cons, badIn_c hG, badAs, natInts_crs_len, hx, h]
  simp
theorem wordG_c {G : Gra} {ws : List (List Int)} (h : chk G ws = 0) (l : List Nat) : wordG G ws ((G, 0), l) = (G, l, 0) := by
  unfold wordG wres
  rw [if_neg (by simp [h]), if_neg (by simp)]
theorem refG_c {G : Gra} {ws : List (List Int)} (h : chk G ws = 0) (r : Nat) : refG G ws ((G, 0), r) = (G, r, 0) := by
  unfold refG rres
  rw [if_neg (by simp [h]), if_neg (by simp)]
theorem negG_c (G : Gra) (b : Bool) : negG (G, b.toNat, 0) = (G, (!b).toNat, 0) := by
  unfold negG
  rw [if_neg (by simp), neg_c]
theorem mask_eq (a w : Nat) : a &&& (2 ^ w - 1) = a % 2 ^ w := Nat.and_two_pow_sub_one_eq_mod a w
theorem fst_zip {X Y : List Bool} (h : X.length = Y.length) : (X.zip Y).map Prod.fst = X := List.map_fst_zip (by omega)
theorem snd_zip {X Y : List Bool} (h : X.length = Y.length) : (X.zip Y).map Prod.snd = Y := List.map_snd_zip (by omega)
theorem sumW_c {G : Gra} {X Y : List Bool} {w : Nat} (hx : X.length = w) (hy : Y.length = w) (h1 : 1 ≤ w) (c : Bool) : ∃ B : List Bool, sumW w (G, 0) ((crs X).zip (crs Y)) c.toNat = ((G, 0), crs B) ∧ B.length = w ∧ bitsVal B = (bitsVal X + bitsVal Y + c.toNat) % 2 ^ w := by
  have hl : (X.zip Y).length = w := by rw [List.length_zip]; omega
  refine ⟨((X.zip Y).foldl (sB w) ([], c)).1, ?_, by rw [sB_len]; exact hl, ?_⟩
  · unfold sumW
    rw [crs_zip, sum_c]
  · rw [sB_last w c _ hl h1, fst_zip (by omega), snd_zip (by omega)]
theorem zip_val (g : Bool → Bool → Bool) (hg : g false false = false) (X Y : List Bool) (h : X.length = Y.length) (i : Nat) : (bitsVal ((X.zip Y).map fun p => g p.1 p.2)).testBit i = g ((bitsVal X).testBit i) ((bitsVal Y).testBit i) := by
  rw [bitsVal_bit, bitsVal_bit, bitsVal_bit, List.getD_eq_getElem?_getD, List.getD_eq_getElem?_getD, List.getD_eq_getElem?_getD, List.getElem?_map]
  by_cases hi : i < X.length
  · rw [List.getElem?_eq_getElem hi, List.getElem?_eq_getElem (show i < Y.length by omega), List.getElem?_eq_getElem (show i < (X.zip Y).length by rw [List.length_zip]; omega)]
    simp
  · rw [List.getElem?_eq_none (show X.length ≤ i by omega), List.getElem?_eq_none (show Y.length ≤ i by omega), List.getElem?_eq_none (show (X.zip Y).length ≤ i by rw [List.length_zip]; omega)]
    simp [hg]
theorem pow32 {w : Nat} (h : w ≤ 16) : ∃ Q, 4294967296 = 2 ^ w * Q ∧ 1 ≤ Q := ⟨2 ^ (32 - w), by rw [← Nat.pow_add, show w + (32 - w) = 32 by omega], Nat.one_le_two_pow⟩
theorem ne_c {G : Gra} (hG : Ok G) {X Y : List Bool} {w : Nat} (hx : X.length = w) (hy : Y.length = w) (h1 : 1 ≤ w) (h16 : w ≤ 16) : refG G [natInts (crs X), natInts (crs Y)] (neF (G, 0) ((nats (natInts (crs X))).zip (nats (natInts (crs Y))))) = (G, (!(bitsVal X == bitsVal Y)).toNat, 0) := by
  rw [nats_crs, nats_crs]
  have e : neF (G, 0) ((crs X).zip (crs Y)) = ((G, 0), (!(bitsVal X == bitsVal Y)).toNat) := by
    unfold neF sAny
    rw [crs_zip, each_c G rXor Bool.xor (rXor_c G)]
    simp only [rAny_c]
    show ((G, 0), (((X.zip Y).map fun p => Bool.xor p.1 p.2).any id).toNat) = _
    rw [any_val]
    congr 2
    by_cases h : bitsVal X = bitsVal Y
    · have hxy := bitsVal_inj (by omega) h
      subst hxy
      have h0 : bitsVal ((X.zip X).map fun p => Bool.xor p.1 p.2) = 0 := by
        apply Nat.eq_of_testBit_eq
        intro i
        rw [zip_val Bool.xor rfl X X rfl]
        simp
      rw [h0]; simp
    · have h0 : bitsVal ((X.zip Y).map fun p => Bool.xor p.1 p.2) ≠ 0 := fun e => h (by
        apply Nat.eq_of_testBit_eq
        intro i
        have := zip_val Bool.xor rfl X Y (by omega) i
        rw [e, Nat.zero_testBit] at this
        cases hq : (bitsVal X).testBit i <;> cases hr : (bitsVal Y).testBit i <;> rw [hq, hr] at this <;> simp at this ⊢)
      have h2 : (bitsVal X == bitsVal Y) = false := by rw [beq_eq_false_iff_ne]; exact h
      rw [h2, decide_eq_true h0]; rfl
  rw [e]
  exact refG_c (chk2_c hG hx hy h1 h16) _
theorem ltR_c {G : Gra} (hG : Ok G) {X Y : List Bool} {w : Nat} (hx : X.length = w) (hy : Y.length = w) (h1 : 1 ≤ w) (h16 : w ≤ 16) : refG G [natInts (crs X), natInts (crs Y)] (ltF (G, 0) ((nats (natInts (crs X))).zip (nats (natInts (crs Y))))) = (G, (decide (bitsVal X < bitsVal Y)).toNat, 0) := by
  rw [nats_crs, nats_crs, crs_zip, lt_c, lB_val, fst_zip (by omega), snd_zip (by omega)]
  exact refG_c (chk2_c hG hx hy h1 h16) _
/-- what an operation makes of constants -/
structure OpC (i : Nat) (G : Gra) (X Y : List Bool) (w : Nat) (B : List Bool) : Prop where
  made : mkOp i G (natInts (crs X)) (natInts (crs Y)) = (G, crs B, 0)
  val : bitsVal B = opV (opsL.getD i 0) (bitsVal X) (bitsVal Y) (2 ^ w - 1) &&& (2 ^ w - 1)
  len : 1 ≤ B.length ∧ B.length ≤ 16
theorem bit_mask {w : Nat} (h : 1 ≤ w) (b : Bool) : b.toNat &&& (2 ^ w - 1) = b.toNat := by
  rw [mask_eq]
  have : 2 ^ 1 ≤ 2 ^ w := Nat.pow_le_pow_right (by omega) h
  have := b_le b
  exact Nat.mod_eq_of_lt (by omega)
theorem bit_val (b : Bool) : bitsVal [b] = b.toNat := by simp [bitsVal]
theorem mkOp_c {G : Gra} (hG : Ok G) {X Y : List Bool} {w : Nat} (hx : X.length = w) (hy : Y.length = w) (h1 : 1 ≤ w) (h16 : w ≤ 16) (i : Nat) (hi : i < 11) : ∃ B, OpC i G X Y w B := by
  have hX := bitsVal_lt X
  have hY := bitsVal_lt Y
  rw [hx] at hX
  rw [hy] at hY
  have hc2 := chk2_c hG hx hy h1 h16
  obtain ⟨Q, hQ, hQ1⟩ := pow32 h16
  have hP : 0 < 2 ^ w := Nat.two_pow_pos w
  match i, hi with
  | 0, _ =>
    refine ⟨X.map not, ?_, ?_, by simp; omega⟩
    · rw [mkOp_0, nats_crs, crs_neg]
      exact wordG_c (chk1_c hG hx h1 h16) _
    · rw [show opsL.getD 0 0 = 1 from rfl, opV_1]
      rw [not_val, hx, mask_eq]
      show _ = (2 ^ w - 1 - bitsVal X) % 2 ^ w
      rw [Nat.mod_eq_of_lt (by omega)]
  | 1, _ =>
    have h0 : List.replicate (natInts (crs X)).length (0 : Int) = natInts (crs (List.replicate w false)) := by
      rw [natInts_crs_len, hx]; simp [natInts, crs]
    obtain ⟨B, hB, hl, hv⟩ := sumW_c (G := G) (X := List.replicate w false) (Y := X.map not) (w := w) (by simp) (by simp [hx]) h1 true
    have hz : bitsVal (List.replicate w false) = 0 := by
      apply Nat.eq_of_testBit_eq
      intro j
      rw [bitsVal_bit, List.getD_eq_getElem?_getD, List.getElem?_replicate]
      split <;> simp
    refine ⟨B, ?_, ?_, by omega⟩
    · rw [mkOp_1, h0]
      unfold subG
      rw [nats_crs, nats_crs, natInts_crs_len, List.length_replicate, crs_neg, show (1 : Nat) = (true : Bool).toNat from rfl, hB]
      exact wordG_c (chk2_c hG (by simp) hx h1 h16) _
    · rw [show opsL.getD 1 0 = 2 from rfl, opV_2]
      unfold neg32
      rw [hv, hz, not_val, hx, mask_eq]
      show (0 + (2 ^ w - 1 - bitsVal X) + 1) % 2 ^ w = (4294967296 - bitsVal X) % 4294967296 % 2 ^ w
      rw [hQ, Nat.mod_mul_right_mod, show 0 + (2 ^ w - 1 - bitsVal X) + 1 = 2 ^ w - bitsVal X by omega]
      obtain ⟨q, rfl⟩ : ∃ q, Q = q + 1 := ⟨Q - 1, by omega⟩
      rw [Nat.mul_add, Nat.mul_one, show 2 ^ w * q + 2 ^ w - bitsVal X = (2 ^ w - bitsVal X) + 2 ^ w * q by omega, Nat.add_mul_mod_self_left]
  | 2, _ =>
    refine ⟨(X.zip Y).map fun p => p.1 && p.2, ?_, ?_, by simp [hx, hy]; omega⟩
    · rw [mkOp_2, nats_crs, nats_crs, crs_zip, each_c G and (fun a b => a && b) (and_c G)]
      exact wordG_c hc2 _
    · rw [show opsL.getD 2 0 = 8 from rfl, opV_8]
      show _ = (bitsVal X &&& bitsVal Y) &&& (2 ^ w - 1)
      rw [mask_eq, Nat.mod_eq_of_lt (Nat.and_lt_two_pow _ hY)]
      apply Nat.eq_of_testBit_eq
      intro j
      rw [zip_val (fun a b => a && b) rfl X Y (by omega), Nat.testBit_and]
  | 3, _ =>
    refine ⟨(X.zip Y).map fun p => p.1 || p.2, ?_, ?_, by simp [hx, hy]; omega⟩
    · rw [mkOp_3, nats_crs, nats_crs, crs_zip, each_c G rOr (fun a b => a || b) (rOr_c G)]
      exact wordG_c hc2 _
    · rw [show opsL.getD 3 0 = 9 from rfl, opV_9]
      show _ = (bitsVal X ||| bitsVal Y) &&& (2 ^ w - 1)
      rw [mask_eq, Nat.mod_eq_of_lt (Nat.or_lt_two_pow hX hY)]
      apply Nat.eq_of_testBit_eq
      intro j
      rw [zip_val (fun a b => a || b) rfl X Y (by omega), Nat.testBit_or]
  | 4, _ =>
    refine ⟨(X.zip Y).map fun p => Bool.xor p.1 p.2, ?_, ?_, by simp [hx, hy]; omega⟩
    · rw [mkOp_4, nats_crs, nats_crs, crs_zip, each_c G rXor Bool.xor (rXor_c G)]
      exact wordG_c hc2 _
    · rw [show opsL.getD 4 0 = 10 from rfl, opV_10]
      show _ = (bitsVal X ^^^ bitsVal Y) &&& (2 ^ w - 1)
      rw [mask_eq, Nat.mod_eq_of_lt (Nat.xor_lt_two_pow hX hY)]
      apply Nat.eq_of_testBit_eq
      intro j
      rw [zip_val Bool.xor rfl X Y (by omega), Nat.testBit_xor]
  | 5, _ =>
    obtain ⟨B, hB, hl, hv⟩ := sumW_c (G := G) hx hy h1 false
    refine ⟨B, ?_, ?_, by omega⟩
    · rw [mkOp_5, nats_crs, nats_crs, natInts_crs_len, hx]
      have hB' : sumW w (G, 0) ((crs X).zip (crs Y)) 0 = ((G, 0), crs B) := hB
      rw [hB']
      exact wordG_c hc2 _
    · rw [show opsL.getD 5 0 = 3 from rfl, opV_3]
      unfold add32
      rw [hv, mask_eq]
      show (bitsVal X + bitsVal Y + 0) % 2 ^ w = (bitsVal X + bitsVal Y) % 4294967296 % 2 ^ w
      rw [hQ, Nat.mod_mul_right_mod, Nat.add_zero]
  | 6, _ =>
    obtain ⟨B, hB, hl, hv⟩ := sumW_c (G := G) (X := X) (Y := Y.map not) hx (by simp [hy]) h1 true
    refine ⟨B, ?_, ?_, by omega⟩
    · rw [mkOp_6]
      unfold subG
      rw [nats_crs, nats_crs, natInts_crs_len, hx, crs_neg, show (1 : Nat) = (true : Bool).toNat from rfl, hB]
      exact wordG_c hc2 _
    · rw [show opsL.getD 6 0 = 4 from rfl, opV_4]
      unfold sub32
      rw [hv, not_val, hy, mask_eq]
      show (bitsVal X + (2 ^ w - 1 - bitsVal Y) + 1) % 2 ^ w = (bitsVal X + 4294967296 - bitsVal Y) % 4294967296 % 2 ^ w
      rw [hQ, Nat.mod_mul_right_mod, show bitsVal X + (2 ^ w - 1 - bitsVal Y) + 1 = bitsVal X + 2 ^ w - bitsVal Y by omega]
      obtain ⟨q, rfl⟩ : ∃ q, Q = q + 1 := ⟨Q - 1, by omega⟩
      rw [Nat.mul_add, Nat.mul_one, show bitsVal X + (2 ^ w * q + 2 ^ w) - bitsVal Y = (bitsVal X + 2 ^ w - bitsVal Y) + 2 ^ w * q by omega, Nat.add_mul_mod_self_left]
  | 7, _ =>
    refine ⟨[bitsVal X == bitsVal Y], ?_, ?_, by simp⟩
    · rw [mkOp_7, ne_c hG hx hy h1 h16, negG_c, Bool.not_not]; rfl
    · rw [show opsL.getD 7 0 = 13 from rfl, opV_13]
      rw [bit_val]; exact (bit_mask h1 _).symm
  | 8, _ =>
    refine ⟨[!(bitsVal X == bitsVal Y)], ?_, ?_, by simp⟩
    · rw [mkOp_8, ne_c hG hx hy h1 h16]; rfl
    · rw [show opsL.getD 8 0 = 14 from rfl, opV_14]
      rw [bit_val]; exact (bit_mask h1 _).symm
  | 9, _ =>
    refine ⟨[decide (bitsVal X < bitsVal Y)], ?_, ?_, by simp⟩
    · rw [mkOp_9, ltR_c hG hx hy h1 h16]; rfl
    · rw [show opsL.getD 9 0 = 15 from rfl, opV_15]
      rw [bit_val]; exact (bit_mask h1 _).symm
  | 10, _ =>
    refine ⟨[decide (bitsVal X ≤ bitsVal Y)], ?_, ?_, by simp⟩
    · rw [mkOp_10, ltR_c hG hy hx h1 h16, negG_c]
      rw [show (!decide (bitsVal Y < bitsVal X)) = decide (bitsVal X ≤ bitsVal Y) from by rw [← decide_not]; congr 1; exact propext Nat.not_lt]; rfl
    · rw [show opsL.getD 10 0 = 16 from rfl, opV_16]
      rw [bit_val]; exact (bit_mask h1 _).symm
theorem madeG_c {G : Gra} (hG : Ok G) {X Y : List Bool} {w : Nat} (hx : X.length = w) (hy : Y.length = w) (h1 : 1 ≤ w) (h16 : w ≤ 16) : ∀ n, n ≤ 11 → ∃ Bs : List (List Bool), madeG G (natInts (crs X)) (natInts (crs Y)) n = (G, Bs.map crs, true) ∧ Bs.length = n ∧ ∀ i B, Bs[i]? = some B → OpC i G X Y w B
  | 0, _ => ⟨[], rfl, rfl, by simp⟩
  | n + 1, hn => by
    obtain ⟨Bs, h2, h3, h4⟩ := madeG_c hG hx hy h1 h16 n (by omega)
    obtain ⟨B, hB⟩ := mkOp_c hG hx hy h1 h16 n (by omega)
    refine ⟨Bs ++ [B], ?_, by simp [h3], fun i C hC => ?_⟩
    · rw [madeG_succ, h2]
      unfold madeStep
      simp only [hB.made]
      simp
    · by_cases hi : i < Bs.length
      · rw [List.getElem?_append_left hi] at hC
        exact h4 i C hC
      · have hlt := (List.getElem?_eq_some_iff.1 hC).1
        have : i = Bs.length := by simp at hlt; omega
        subst this
        simp at hC
        subst hC
        rw [h3]; exact hB
end Go.Aig
namespace Go.Proofs.YtchledddgmbndaaGreat
open Go.RowKit Go.Mem Go.Aig
theorem Sb_nil (w : World) : Sb w none [] := ⟨fun i x hx => by simp at hx, by simp⟩
theorem bv_c (env : Nat → Bool) (n : Nat) (b : Bool) : bv env (newG n).nodes b.toNat = b := by
  cases b <;> rfl
theorem bits_c {n : Nat} (h1 : 1 ≤ n) (h2 : n ≤ 65536) (B : List Bool) : bitsR (newG n) [] (natInts (crs B)) = (B, 0) := by
  unfold bitsR
  rw [badIn_c (newG_ok h1 h2)]
  have hi : (inputs (newG n).nodes).length = 0 := rfl
  rw [hi, nats_crs]
  simp only [List.length_nil, ne_eq, not_true_eq_false, if_false, Bool.false_eq_true]
  unfold bsOf crs
  rw [List.map_map]
  congr 1
  rw [show (bv (fun i => ([] : List Bool).getD i false) (newG n).nodes ∘ Bool.toNat) = id from funext fun b => bv_c _ n b]
  simp
section
variable {w : World} {g : Nat} {G : Gra} {F : List Nat}
set_option maxRecDepth 100000 in
set_option maxHeartbeats 4000000 in
theorem Reads23_is (h : GIn w g G F) {a : Option Addr} {l : List Int} {m c : Nat} (hm : l.length = m) (hL : Sl w a l) (hbd : ∀ r ∈ l, -9223372036854775808 ≤ r ∧ r ≤ 9223372036854775807) {B : List Bool} (hR : bitsR G [] l = (B, 0)) (hB : B.length = m) (h1 : 1 ≤ m) (h16 : m ≤ 16) :
    Calls Tryz.prog 13 #[.pointer (some ⟨g, 0, none⟩), .slice a m c, .slice none 0 0] w fun e w' => e = .returned (.tuple #[.int .u32 (bitsVal B), .bool true]) ∧ Ch [] w w' := by
  have HB := simBits_is h (xa := none) (ins := []) 0 0 rfl (Sb_nil w) (by omega) m c hm hL hbd (by omega)
  rw [hR] at HB
  have HV := fun (W : World) (ba : Option Addr) (bc : Nat) (hS : Sb W ba B) => sValue_is (w := W) (x := ⟨a, l, c⟩) (by show l.length ≤ _; omega) bc (by omega) hS
  simp only [WV.val, hB, hm, h1, h16, and_self, if_true] at HV
  go_enter Tryz.func13, Tryz.ntmps13
  go_wp2_with fail
  refine HB.mono ?_
  rintro e w1 ⟨v, rfl, hrow, hown, hch⟩
  obtain ⟨ba, bc, rfl⟩ := hrow.parts (by show 0 < B.length; omega)
  have hS : Sb w1 (some ⟨ba, 0, none⟩) B := row.sv hrow rfl (by show B.length ≤ _; omega)
  simp only [hB]
  go_wp2_with fail
  refine (HV w1 _ bc hS).mono ?_
  rintro e w2 ⟨rfl, rfl⟩
  go_wp2_with fail
  go_ret2
  exact ⟨rfl, hch⟩
set_option maxRecDepth 100000 in
theorem consts1_is (b : Bool) : Calls Tryz.prog 16 #[.int .i64 b.toNat] w fun e w' => e = .returned (.bool false) ∧ w = w' := by
  cases b
  · go_enter Tryz.func16, Tryz.ntmps16
    go_wp2_with fail
    go_ret
    exact ⟨rfl, rfl⟩
  · go_enter Tryz.func16, Tryz.ntmps16
    go_wp2_with fail
    go_ret
    exact ⟨rfl, rfl⟩
theorem fnvconsts1 : Fnv 16 := fnv_of Tryz.func16 (by simp [Tryz.f16]) (by simp [Tryz.f16])
theorem small_is {a : Option Addr} {m cap : Nat} (B : List Bool) (hB : B.length = m) (h : Sl w a (natInts (crs B))) : Calls Tryz.prog 15 #[.slice a m cap, .func (.func 16) #[] #[]] w fun e w' => e = .returned (.bool false) ∧ w = w' := by
  subst hB
  have hl : (natInts (crs B)).length = B.length := natInts_crs_len B
  have hC := CFref_is cap 16 #[] (fun _ => false) h (fun x hx => by
    unfold natInts crs at hx
    rw [List.map_map] at hx
    obtain ⟨b, _, rfl⟩ := List.mem_map.1 hx
    exact consts1_is b) fnvconsts1
  rw [hl] at hC
  have he : ((natInts (crs B)).any fun _ => false) = false := by simp
  rw [he] at hC
  exact hC
end
end Go.Proofs.YtchledddgmbndaaGreat
namespace Go.Aig
theorem madeG_len (G : Gra) (x y : List Int) : ∀ n, (madeG G x y n).2.1.length = n
  | 0 => rfl
  | n + 1 => by
    rw [madeG_succ]
    unfold madeStep
    simp [madeG_len G x y n]
def goodL (L A : List (List Nat)) : Prop := ∀ (i : Nat) (l a : List Nat), L[i]? = some l → A[i]? = some a → l = [] ∨ l = a ∨ l = [0]
def goodB (L A : List (List Nat)) : Bool := (L.zip A).all fun p => p.1 == [] || p.1 == p.2 || p.1 == [0]
theorem goodB_L {L A : List (List Nat)} (h : goodB L A = true) : goodL L A := fun i l a hl ha => by
  have hz : (L.zip A)[i]? = some (l, a) := by rw [List.getElem?_zip_eq_some]; exact ⟨hl, ha⟩
  have := List.all_eq_true.1 h (l, a) (List.mem_of_getElem? hz)
  simp at this
  rcases this with (h | h) | h
  · exact .inl h
  · exact .inr (.inl h)
  · exact .inr (.inr h)
def againB (n : Nat) : Bool :=
  let x := natInts (rIn 0 n)
  let y := natInts (rIn n n)
  let A := madeG (gIn 4000 (2 * n)) x y 11
  let N := A.1.nodes.length
  let B := madeG A.1 x y 11
  let C := madeG (gIn N (2 * n)) x y 11
  let D := madeG (gIn (N - 1) (2 * n)) x y 11
  A.2.2 && B.2.2 && B.1.nodes.length == N && A.2.1 == B.2.1 && C.2.2 && !D.2.2 && decide (D.1.nodes.length ≤ N - 1) && decide (2 * n + 1 < N - 1) && decide (N ≤ 4000) && goodB C.2.1 A.2.1 && goodB D.2.1 A.2.1
set_option maxRecDepth 100000 in
theorem again_all : (List.range 5).all (fun i => againB (i + 1)) = true := by decide +kernel
structure AgainF (n N : Nat) (GA GB GC GD : Gra) (lA lC lD : List (List Nat)) : Prop where
  a : madeG (gIn 4000 (2 * n)) (natInts (rIn 0 n)) (natInts (rIn n n)) 11 = (GA, lA, true)
  an : GA.nodes.length = N
  b : madeG GA (natInts (rIn 0 n)) (natInts (rIn n n)) 11 = (GB, lA, true)
  bn : GB.nodes.length = N
  c : madeG (gIn N (2 * n)) (natInts (rIn 0 n)) (natInts (rIn n n)) 11 = (GC, lC, true)
  d : madeG (gIn (N - 1) (2 * n)) (natInts (rIn 0 n)) (natInts (rIn n n)) 11 = (GD, lD, false)
  dn : GD.nodes.length ≤ N - 1
  lo : 2 * n + 1 < N - 1
  hi : N ≤ 4000
  gc : goodL lC lA
  gd : goodL lD lA
  la : lA.length = 11
  lc : lC.length = 11
  ld : lD.length = 11
theorem again_facts {n : Nat} (h1 : 1 ≤ n) (h5 : n ≤ 5) : ∃ N GA GB GC GD lA lC lD, AgainF n N GA GB GC GD lA lC lD := by
  have h := List.all_eq_true.1 again_all (n - 1) (List.mem_range.2 (by omega))
  rw [show n - 1 + 1 = n by omega] at h
  unfold againB at h
  dsimp only at h
  have l1 := madeG_len (gIn 4000 (2 * n)) (natInts (rIn 0 n)) (natInts (rIn n n)) 11
  generalize hA : madeG (gIn 4000 (2 * n)) (natInts (rIn 0 n)) (natInts (rIn n n)) 11 = A at h l1
  have l2 := madeG_len (gIn A.1.nodes.length (2 * n)) (natInts (rIn 0 n)) (natInts (rIn n n)) 11
  have l3 := madeG_len (gIn (A.1.nodes.length - 1) (2 * n)) (natInts (rIn 0 n)) (natInts (rIn n n)) 11
  generalize hB : madeG A.1 (natInts (rIn 0 n)) (natInts (rIn n n)) 11 = B at h
  generalize hC : madeG (gIn A.1.nodes.length (2 * n)) (natInts (rIn 0 n)) (natInts (rIn n n)) 11 = C at h l2
  generalize hD : madeG (gIn (A.1.nodes.length - 1) (2 * n)) (natInts (rIn 0 n)) (natInts (rIn n n)) 11 = D at h l3
  obtain ⟨GA, lA, oA⟩ := A
  obtain ⟨GB, lB, oB⟩ := B
  obtain ⟨GC, lC, oC⟩ := C
  obtain ⟨GD, lD, oD⟩ := D
  simp only [Bool.and_eq_true, Bool.not_eq_true', decide_eq_true_eq, beq_iff_eq] at h
  obtain ⟨⟨⟨⟨⟨⟨⟨⟨⟨⟨a1, a2⟩, a3⟩, a4⟩, a5⟩, a6⟩, a7⟩, a8⟩, a9⟩, a10⟩, a11⟩ := h
  subst a1 a2 a4 a5 a6
  exact ⟨GA.nodes.length, GA, GB, GC, GD, lA, lC, lD, ⟨hA, rfl, hB, a3, hC, hD, a7, a8, a9, goodB_L a10, goodB_L a11, l1, l2, l3⟩⟩
end Go.Aig
namespace Go.Proofs.YtchledddgmbndaaGreat
open Go.RowKit Go.Mem Go.Aig
theorem VL.at {w0 w : World} {g : Nat} {G : Gra} {F : List Nat} {L : List (Value × List Int)} {vs : List Value} {ls : List (List Nat)} (hv : VL vs ls L) (h : Hold w0 w g G F L) {k : Nat} {l : List Nat} (hl : ls[k]? = some l) : ∃ a c, vs[k]? = some (.slice a l.length c) ∧ (.slice a l.length c, natInts l) ∈ L := by
  have hlt := (List.getElem?_eq_some_iff.1 hl).1
  rw [← hv.len] at hlt
  have hu : vs[k]? = some vs[k] := List.getElem?_eq_getElem hlt
  have hm := hv.mem k _ l hu hl
  have hr := (h.held _ hm).row
  simp only [natInts_len] at hr
  obtain ⟨a, c, e⟩ := row.shape hr
  have e2 : vs[k] = .slice a l.length c := e
  rw [e2] at hu hm
  exact ⟨a, c, hu, hm⟩
theorem row_at {w : World} {e : TypeId} {b n c : Nat} {vs : List Value} (h : row w e 1 (.slice (some ⟨b, 0, none⟩) n c) n vs) {k : Nat} {v : Value} (hk : vs[k]? = some v) : w.cell? ⟨b, k, none⟩ = some v := by
  have := h.cells (g := b) rfl k v hk
  rw [Addr.add_lit] at this
  simpa using this
theorem max_nat (z : Int) (k m : Nat) (h : max z k = m) (ats : Array TypeId) (ty : TypeId) : Builtin.max_ ats ty #[.int .i64 z, .int .i64 (k : Int)] = pure (.int .i64 (m : Int)) := by
  have e : (if z < (k : Int) then (k : Int) else z) = m := by split <;> omega
  rw [← e]
  simp [Builtin.max_, Builtin.max2]
theorem max_one (z : Int) (m : Nat) (h : max z 1 = m) (ats : Array TypeId) (ty : TypeId) : Builtin.max_ ats ty #[.int .i64 z, .int .i64 1] = pure (.int .i64 (m : Int)) := max_nat z 1 m h ats ty
end Go.Proofs.YtchledddgmbndaaGreat
namespace Go.Proofs.YtchledddgmbndaaGreat
open Go.RowKit Go.Mem Go.Aig
def bitsOf (x n : Nat) : List Bool := (List.range n).map fun i => x.testBit i
theorem constL_c (x n : Nat) : constL x n = crs (bitsOf x n) := by unfold constL crs bitsOf; rw [List.map_map]; rfl
theorem bitsOf_len (x n : Nat) : (bitsOf x n).length = n := by simp [bitsOf]
theorem bitsOf_val (x n : Nat) : bitsVal (bitsOf x n) = x &&& (2 ^ n - 1) := by rw [mask_eq]; exact bits_val x n
theorem Apply_at (k : Nat) (hk : k < 11) (W : World) (x y n : Nat) (hx : x < 4294967296) (hy : y < 4294967296) (h1 : 1 ≤ n) (h16 : n ≤ 16) :
    Calls Tryz.prog 14 #[.int .u8 (opsL.getD k 0 : Nat), .int .i64 n, .int .u32 x, .int .u32 y] W fun e w' => e = .returned (.tuple #[.int .u32 (applyV (opsL.getD k 0) n x y : Nat), .int .i64 0]) ∧ Ch [] W w' := by
  match k, hk with
  | 0, _ => exact bApply1_is x y n hx hy h1 h16
  | 1, _ => exact bApply2_is x y n hx hy h1 h16
  | 2, _ => exact bApply8_is x y n hx hy h1 h16
  | 3, _ => exact bApply9_is x y n hx hy h1 h16
  | 4, _ => exact bApply10_is x y n hx hy h1 h16
  | 5, _ => exact bApply3_is x y n hx hy h1 h16
  | 6, _ => exact bApply4_is x y n hx hy h1 h16
  | 7, _ => exact bApply13_is x y n hx hy h1 h16
  | 8, _ => exact bApply14_is x y n hx hy h1 h16
  | 9, _ => exact bApply15_is x y n hx hy h1 h16
  | 10, _ => exact bApply16_is x y n hx hy h1 h16
theorem opAt (k : Nat) (hk : k < 11) : ([1, 2, 8, 9, 10, 3, 4, 13, 14, 15, 16].map fun (z : Int) => Value.int .u8 z)[k]? = some (.int .u8 (opsL.getD k 0 : Nat)) := by
  match k, hk with
  | 0, _ => rfl
  | 1, _ => rfl
  | 2, _ => rfl
  | 3, _ => rfl
  | 4, _ => rfl
  | 5, _ => rfl
  | 6, _ => rfl
  | 7, _ => rfl
  | 8, _ => rfl
  | 9, _ => rfl
  | 10, _ => rfl
set_option maxRecDepth 100000 in
set_option maxHeartbeats 8000000 in
theorem SumsConsts_walk {w : World} {a b : Nat} (ha : a < 4294967296) (hb : b < 4294967296) (wd : Nat) (hw : wd ≤ 255) : Calls Tryz.prog 5 #[.int .u32 a, .int .u32 b, .int .u8 wd] w fun e w' => e = .returned (.bool true) ∧ Ch [] w w' := by
  obtain ⟨n, hn, hn16⟩ : ∃ n, wd % 16 + 1 = n ∧ n ≤ 16 := ⟨_, rfl, by omega⟩
  have hn1 : 1 ≤ n := by omega
  have hq : 1 + (wd : Int) % 16 = n := by omega
  have hrw : rightW (n : Int) = true := by unfold rightW; simp; omega
  have hG : Ok (newG 1) := newG_ok (by omega) (by omega)
  obtain ⟨X, hXe⟩ : ∃ X, X = bitsOf a n := ⟨_, rfl⟩
  obtain ⟨Y, hYe⟩ : ∃ Y, Y = bitsOf b n := ⟨_, rfl⟩
  have hXl : X.length = n := by rw [hXe, bitsOf_len]
  have hYl : Y.length = n := by rw [hYe, bitsOf_len]
  have hXv : bitsVal X = a &&& (2 ^ n - 1) := by rw [hXe, bitsOf_val]
  have hYv : bitsVal Y = b &&& (2 ^ n - 1) := by rw [hYe, bitsOf_val]
  have hXc : constL a n = crs X := by rw [hXe, constL_c]
  have hYc : constL b n = crs Y := by rw [hYe, constL_c]
  obtain ⟨Bs, hBs, hBl, hB⟩ := madeG_c hG hXl hYl hn1 hn16 11 (by omega)
  have hany : refG (newG 1) [natInts (crs X)] (sAny (newG 1, 0) (nats (natInts (crs X)))) = (newG 1, (X.any id).toNat, 0) := by
    rw [nats_crs]
    unfold sAny
    rw [rAny_c]
    exact refG_c (chk1_c hG hXl hn1 hn16) _
  have hAP := fun (k : Nat) (hk : k < 11) (W : World) (B : List Bool) (hk2 : Bs[k]? = some B) => by
    have h := Apply_at k hk W a b n ha hb hn1 hn16
    have hv := (hB k B hk2).val
    rw [hXv, hYv] at hv
    unfold applyV at h
    rw [← hv] at h
    exact h
  have hCU := fun W => bCut_is (w := W) a n ha hn1 hn16
  rw [← hXv] at hCU
  have hBlen := fun k B (h : Bs[k]? = some B) => (hB k B h).len
  generalize hr : (X.any id) = t at *
  have hv0 : t = decide (bitsVal X ≠ 0) := by rw [← hr, any_val]
  have hzz : (t = false ∧ bitsVal X = 0) ∨ (t = true ∧ ¬ bitsVal X = 0) := by
    by_cases hz : bitsVal X = 0
    · exact .inl ⟨by rw [hv0]; exact decide_eq_false (fun h => h hz), hz⟩
    · exact .inr ⟨by rw [hv0]; exact decide_eq_true hz, hz⟩
  generalize hxv : bitsVal X = xv at *
  clear hr hB hv0 hXe hYe hXv hYv
  have hHB := Lib.hid hBs; clear hBs
  have hHA := Lib.hid hany; clear hany
  have HAP := Lib.hid hAP; clear hAP
  have HBL := Lib.hid hBlen; clear hBlen
  have HA := fun W => awake23_is W
  go_enter Tryz.func5, Tryz.ntmps5
  go_wp2_with fail
  refine (HA _).mono ?_
  rintro e w1 ⟨rfl, hc1⟩
  have HC1 := Lib.hid hc1; clear hc1 HA
  go_wp2_with fail
  refine (New_h (w := w1) 1 (by omega) (by omega)).mono ?_
  rintro e w2 ⟨g, F2, rfl, ho⟩
  have HO := Lib.hid ho; clear ho
  go_wp2_with fail
  refine (sConst_h HO.out a ha n hrw).mono ?_
  rintro e w3 ⟨xa, xc, rfl, ho⟩
  rw [hXc] at ho
  clear HO
  have HO := Lib.hid ho; clear ho
  go_wp2_with fail
  refine (sConst_h HO.out b hb n hrw).mono ?_
  rintro e w4 ⟨ya, yc, rfl, ho⟩
  rw [hYc] at ho
  clear HO
  have HO := Lib.hid ho; clear ho
  have hM1 := made23_is HO.out (xa := xa) (xc := xc) (n := n) (xl := natInts (crs X)) (ya := ya) (yc := yc) (n2 := n) (yl := natInts (crs Y)) (by simp) (by rw [natInts_crs_len, hXl]) (by simp) (by rw [natInts_crs_len, hYl])
  rw [hHB.out] at hM1
  have HM1 := Lib.hid hM1; clear hM1
  go_wp2_with fail
  refine HM1.out.mono ?_
  rintro e w5 ⟨F5, L5, oa, oc, ba, vs, rfl, ho, hsub, hvl, hrow, hown, hops, hba, hbaF, hch, hFF⟩
  obtain ⟨ob, ocap, hoe⟩ := hrow.parts (by omega)
  cases hoe
  have hmx := hsub (.slice xa n xc, natInts (crs X)) (by simp)
  clear HO HM1 hba hch hFF hsub
  have HO := Lib.hid ho; clear ho
  have HVL := Lib.hid hvl; clear hvl
  have HROW := Lib.hid hrow; clear hrow
  have HOWN := Lib.hid hown; clear hown
  have HOPS := Lib.hid hops; clear hops
  have HBF := Lib.hid hbaF; clear hbaF
  have HMX := Lib.hid hmx; clear hmx
  go_wp2_with fail
  go_loopw [83] (fun i wr => ∃ k : Nat, k ≤ 11 ∧ i = .int .i64 k ∧ Ch [] w5 wr) (fun i _ => 11 - (intOf i).toNat)
  case atStart => exact ⟨0, by omega, rfl, Ch.refl _ _⟩
  case round =>
    obtain ⟨k, hk, rfl, hc⟩ := hrel
    by_cases hlt : k < 11
    · obtain ⟨B, hBk⟩ : ∃ B, Bs[k]? = some B := ⟨_, List.getElem?_eq_getElem (by rw [hBl]; exact hlt)⟩
      have hblen := HBL.out k B hBk
      have hcr : (Bs.map crs)[k]? = some (crs B) := by rw [List.getElem?_map, hBk]; rfl
      obtain ⟨a1, c1, hv1, hm1⟩ := HVL.out.at HO.out hcr
      rw [crs_len] at hv1 hm1
      have d1 := row_at (HROW.out.ch hc (by simp)) hv1
      have hd2 : ∀ W, Ch [] wr W → W.cell? ⟨ba, k, none⟩ = some (.int .u8 (opsL.getD k 0 : Nat)) := fun W hW => (HOPS.out.ch (hc.trans hW (by simp)) (by simp)).cell (opAt k hlt)
      have hsl : ∀ W, Ch [] wr W → Sl W a1 (natInts (crs B)) := fun W hW => (HO.out.same (hc.trans hW (by simp))).sl hm1 (natInts_crs_len B)
      have hR := Reads23_is (w := wr) (HO.out.same hc).own.gin (m := B.length) (c := c1) (natInts_crs_len B) (hsl _ (Ch.refl _ _)) ((HO.out.same hc).at hm1 (natInts_crs_len B)).ok.bd (bits_c (by omega) (by omega) B) rfl hblen.1 hblen.2
      have hAPk := HAP.out k hlt
      have hS := fun W (hW : Ch [] wr W) => small_is (w := W) (cap := c1) B rfl (hsl W hW)
      have HC := Lib.hid hc; clear hc
      have HR := Lib.hid hR; clear hR
      have HS := Lib.hid hS; clear hS
      have HK := Lib.hid hBk; clear hBk
      have HD2 := Lib.hid hd2; clear hd2
      generalize hop : opsL.getD k 0 = op at *
      clear hcr hv1 hm1 hsl hop
      have HAK := Lib.hid hAPk; clear hAPk
      go_wp2_with fail
      refine HR.out.mono ?_
      rintro e w6 ⟨rfl, hc6⟩
      have d2 := HD2.out w6 hc6
      have HC6 := Lib.hid hc6; clear hc6
      go_wp2_with fail
      refine (HAK.out w6 B HK.out).mono ?_
      rintro e w7 ⟨rfl, hc7⟩
      have HC7 := Lib.hid hc7; clear hc7 d2
      go_wp2_with fail
      refine (HS.out w7 (HC6.out.trans HC7.out (by simp))).mono ?_
      rintro e w8 ⟨rfl, rfl⟩
      go_wp2_with fail
      go_roundw
      case rel => exact ⟨k + 1, by omega, by go_num, (HC.out.trans HC6.out (by simp)).trans HC7.out (by simp)⟩
      case measure => simp [intOf] <;> omega
    · obtain ⟨w6, hw6⟩ : ∃ X : World, X = wr := ⟨_, rfl⟩
      rw [← hw6] at hc ⊢
      clear hw6
      have HO6 := Lib.hid (HO.out.same hc)
      have HC := Lib.hid hc
      clear HO HROW HOPS HVL hc
      have hAn := sAny_h HO6.out HMX.out (by rw [natInts_crs_len, hXl]) hHA.out
      have HAN := Lib.hid hAn; clear hAn
      go_wp2_with fail
      refine HAN.out.mono ?_
      rintro e w7 ⟨F7, rfl, ho⟩
      clear HO6 HAN
      have HO7 := Lib.hid ho; clear ho
      have hR := Reads23_is HO7.out.own.gin (m := n) (c := xc) (by rw [natInts_crs_len, hXl]) (HO7.out.sl HMX.out (by rw [natInts_crs_len, hXl])) (HO7.out.at HMX.out (by rw [natInts_crs_len, hXl])).ok.bd (bits_c (by omega) (by omega) X) hXl hn1 hn16
      rw [hxv] at hR
      have HR := Lib.hid hR; clear hR hxv
      go_wp2_with fail
      refine HR.out.mono ?_
      rintro e w8 ⟨rfl, hc8⟩
      have HO8 := Lib.hid (HO7.out.same hc8); clear hc8 HR HO7
      rcases hzz with ⟨rfl, rfl⟩ | ⟨rfl, hne⟩
      · clear hrw
        go_wp2_with fail
        refine (hCU w8).mono ?_
        rintro e w9 ⟨rfl, rfl⟩
        have hL := Len_g HO8.out.own.gin
        have HL := Lib.hid hL; clear hL
        go_wp2_with fail
        refine HL.out.mono ?_
        rintro e w9 ⟨rfl, rfl⟩
        go_wp2_with fail
        go_ret
        exact ⟨rfl, HC1.out.trans HO8.out.own.ch (by simp)⟩
      · have hne1 : ((xv : Int) == 0) = false := by rw [beq_eq_false_iff_ne]; omega
        have hne2 : ((xv : Int) != 0) = true := by rw [bne, hne1]; rfl
        have hne3 : ¬ ((xv : Int) = 0) := by omega
        go_wp2_with fail
        refine (hCU w8).mono ?_
        rintro e w9 ⟨rfl, rfl⟩
        have hL := Len_g HO8.out.own.gin
        have HL := Lib.hid hL; clear hL
        go_wp2_with fail
        refine HL.out.mono ?_
        rintro e w9 ⟨rfl, rfl⟩
        go_wp2_with fail
        go_ret
        exact ⟨rfl, HC1.out.trans HO8.out.own.ch (by simp)⟩
end Go.Proofs.YtchledddgmbndaaGreat
