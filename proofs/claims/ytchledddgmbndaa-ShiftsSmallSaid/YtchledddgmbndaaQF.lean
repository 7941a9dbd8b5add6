/-
  Walks over the reference's functions of shifts: Right, Power, Steps, Shifted, Turn, Check, Fixed. Conditions: numbers in range, words that can be read.
  Walks over the reference's Check and Fixed of shifts. Conditions: numbers in range, words that can be read.
  Walks over the reference's states: step, And, Or, Xor, Mux, Any. Conditions: a graph that can be read, references of it.
  Walk over the reference's By of shifts. Conditions: a graph that can be read, words of its references.
  Walks over Same and Begin of chapter 23's laws: two graphs that are the same, and such ones that are made. Conditions: none beyond the hypotheses.
  Walk over Begin of chapter 23's laws: a graph, and the same one of the reference. Conditions: numbers in range.
  Walk over makes of chapter 25's law: the program and the reference side by side. Conditions: acts that can be read.
  From a law's argument to what the walks say: a beginning (a struct by value), and acts of shifts. Conditions: those of the given row.
  Walk over ShiftsMakes: true, whatever comes in. Conditions: none.
-/
import Derived.Test.YtchledddgmbndaaQE
import Derived.Test.YtchledddgmbndaaQD
import Derived.Test.YtchledddgmbndaaQB
import Derived.Test.YtchledddgmbndaaQC
import Derived.Deep.DeepCutAuto
import Derived.Deep.CutBlock
import Derived.Lib.SmallJoins
namespace Go.Proofs.Ytchledddgmbndaa
open Go.RowKit Go.Mem Go.Aig
/-- a new slice of ints -/
def INew (w : World) (v : Value) (l : List Int) (w' : World) : Prop := row w' 3 1 v l.length (intCells l) ∧ (∀ q ∈ v.ownBlock.toList, w.heap.size ≤ q) ∧ Ch [] w w'
theorem INew.since {w w1 w2 : World} {v : Value} {l : List Int} (h : INew w1 v l w2) (hc : Ch [] w w1) : INew w v l w2 := ⟨h.1, fun q hq => Nat.le_trans hc.size (h.2.1 q hq), hc.trans h.2.2 (by simp)⟩
theorem INew.nil {w w' : World} (hc : Ch [] w w') : INew w (.slice none 0 0) [] w' := ⟨⟨rfl, .inl ⟨rfl, rfl⟩⟩, by simp, hc⟩
theorem INew.parts {w w' : World} {v : Value} {l : List Int} {n : Nat} (h : INew w v l w') (hn : l.length = n) : ∃ a c, v = .slice a n c ∧ row w' 3 1 (.slice a n c) n (intCells l) ∧ (∀ q ∈ (Value.slice a n c).ownBlock.toList, w.heap.size ≤ q) ∧ Ch [] w w' := by
  subst hn
  obtain ⟨h1, h2, h3⟩ := h
  obtain ⟨a, c, rfl⟩ := row.shape h1
  exact ⟨a, c, rfl, h1, h2, h3⟩
section
variable {w : World}
set_option maxRecDepth 100000 in
set_option maxHeartbeats 1000000 in
theorem r25Right_is (n : Int) : Calls Try.prog 117 #[.int .i64 n] w fun e w' => e = .returned (.bool (rightB n)) ∧ w = w' := by
  have e : rightB n = (decide (0 < n) && decide (n < 17)) := by
    unfold rightB
    rw [show decide (1 ≤ n) = decide (0 < n) from by congr 1, show decide (n ≤ 16) = decide (n < 17) from by congr 1; exact propext ⟨fun h => by omega, fun h => by omega⟩]
  rw [e]
  clear e
  by_cases h : 0 < n
  · have h1 : decide (0 < n) = true := decide_eq_true h
    go_enter Try.func117, Try.ntmps117
    go_wp2_with fail
    go_ret
    exact ⟨by rw [h1]; rfl, rfl⟩
  · have h1 : decide (0 < n) = false := decide_eq_false h
    go_enter Try.func117, Try.ntmps117
    go_wp2_with fail
    go_ret
    exact ⟨rfl, rfl⟩
set_option maxRecDepth 100000 in
set_option maxHeartbeats 1000000 in
theorem r25Power_is (n : Nat) (hn : n ≤ 30) : Calls Try.prog 118 #[.int .i64 n] w fun e w' => e = .returned (.int .i64 ((2 ^ n : Nat) : Int)) ∧ w = w' := by
  go_enter Try.func118, Try.ntmps118
  go_wp2_with fail
  go_loopw [3, 4] (fun o i wr => ∃ k : Nat, k ≤ n ∧ i = .int .i64 k ∧ o = .int .i64 ((2 ^ k : Nat) : Int) ∧ wr = w) (fun _ i _ => n - (intOf i).toNat)
  case atStart => exact ⟨0, by omega, rfl, rfl, rfl⟩
  case round =>
    obtain ⟨k, hk, rfl, rfl, hww⟩ := hrel
    subst wr
    have hp : 2 ^ k ≤ 2 ^ 30 := Nat.pow_le_pow_right (by omega) (by omega)
    have hs : 2 ^ (k + 1) = 2 * 2 ^ k := by rw [Nat.pow_succ, Nat.mul_comm]
    by_cases hlt : k < n
    · have HS := Lib.hid hs; clear hs
      generalize hP : 2 ^ k = P at *
      clear hP
      go_wp2_with fail
      go_roundw
      case rel => exact ⟨k + 1, by omega, by go_num, by rw [HS.out]; go_num, by trivial⟩
      case measure => simp [intOf]; omega
    · have hkn : k = n := by omega
      subst hkn
      clear hs hp
      go_wp2_with fail
      go_ret
      exact ⟨rfl, rfl⟩
set_option maxRecDepth 100000 in
set_option maxHeartbeats 1000000 in
theorem r25Steps_is (n m : Int) : Calls Try.prog 82 #[.int .i64 n, .int .i64 m] w fun e w' => e = .returned (.tuple #[.int .i64 (if rightB n && rightB m then stepsN n.toNat m.toNat else 0 : Nat), .int .i64 (if rightB n && rightB m then 0 else 250 : Nat)]) ∧ w = w' := by
  have hR1 := r25Right_is (w := w) n
  have hR2 := r25Right_is (w := w) m
  cases hn : rightB n
  · rw [hn] at hR1
    clear hR2
    go_enter Try.func82, Try.ntmps82
    go_wp2_with fail
    refine hR1.mono ?_
    rintro e w' ⟨rfl, rfl⟩
    go_wp2_with fail
    go_ret2
    exact ⟨rfl, rfl⟩
  · cases hm : rightB m
    · rw [hn] at hR1
      rw [hm] at hR2
      go_enter Try.func82, Try.ntmps82
      go_wp2_with fail
      refine hR1.mono ?_
      rintro e w' ⟨rfl, rfl⟩
      go_wp2_with fail
      refine hR2.mono ?_
      rintro e w' ⟨rfl, rfl⟩
      go_wp2_with fail
      go_ret2
      exact ⟨rfl, rfl⟩
    · rw [hn] at hR1
      rw [hm] at hR2
      unfold rightB at hn hm
      simp only [Bool.and_eq_true, decide_eq_true_eq] at hn hm
      obtain ⟨n, rfl⟩ : ∃ k : Nat, n = k := ⟨n.toNat, by omega⟩
      obtain ⟨m, rfl⟩ : ∃ k : Nat, m = k := ⟨m.toNat, by omega⟩
      go_enter Try.func82, Try.ntmps82
      go_wp2_with fail
      refine hR1.mono ?_
      rintro e w' ⟨rfl, rfl⟩
      go_wp2_with fail
      refine hR2.mono ?_
      rintro e w' ⟨rfl, rfl⟩
      clear hR1 hR2
      go_wp2_with fail
      go_loopw [6] (fun i wr => ∃ k : Nat, k ≤ m ∧ i = .int .i64 k ∧ wr = w ∧ ∀ j, j < k → 2 ^ j < n) (fun i _ => m - (intOf i).toNat)
      case atStart => exact ⟨0, by omega, rfl, rfl, by omega⟩
      case round =>
        obtain ⟨k, hk, rfl, hww, hj⟩ := hrel
        subst wr
        by_cases hkm : k < m
        · have hP := r25Power_is (w := w) k (by omega)
          have hs := stepsN_at (w := n) (bits := m) hj hk
          have HS := Lib.hid hs; clear hs
          have HJ := Lib.hid hj; clear hj
          obtain ⟨P, hPe⟩ : ∃ P, P = 2 ^ k := ⟨_, rfl⟩
          rw [← hPe] at hP
          by_cases hlt : P < n
          · have HPE := Lib.hid hPe; clear hPe
            have HLT := Lib.hid hlt
            go_wp2_with fail
            refine hP.mono ?_
            rintro e w' ⟨rfl, rfl⟩
            go_wp2_with fail
            go_roundw
            case rel => exact ⟨k + 1, by omega, by go_num, by trivial, fun j hj => (by omega : j < k ∨ j = k).elim (HJ.out j) (fun e => e ▸ HPE.out ▸ HLT.out)⟩
            case measure => simp [intOf]; omega
          · have hs2 := HS.out (.inr (by omega))
            have HS2 := Lib.hid hs2; clear hs2 hPe HS
            go_wp2_with fail
            refine hP.mono ?_
            rintro e w' ⟨rfl, rfl⟩
            go_wp2_with fail
            go_ret2
            exact ⟨by simp [HS2.out], rfl⟩
        · have hs2 := stepsN_at hj hk (.inl (by omega))
          have HS2 := Lib.hid hs2
          clear hs2 hj
          go_wp2_with fail
          go_ret2
          exact ⟨by simp [HS2.out], rfl⟩
theorem intCells_snoc {l : List Int} {k : Nat} {x : Int} (h : l[k]? = some x) : intCells (l.take (k + 1)) = intCells (l.take k) ++ [.int .i64 x] := by unfold intCells; rw [List.take_add_one, h]; simp
set_option maxRecDepth 100000 in
set_option maxHeartbeats 4000000 in
theorem r25Shifted_1 {xa : Option Addr} {xl : List Int} (m xc n : Nat) (hS : Sl w xa xl) (hm : xl.length = m) (hl : m ≤ 16) (hn : n ≤ 9223372036854775807) :
    Calls Try.prog 116 #[.int .i64 1, .slice xa m xc, .int .i64 n] w fun e w' => ∃ v, e = .returned v ∧ INew w v (shL 1 xl n) w' := by
  have hat := fun k (hk : k < m) => shL_at (side := 1) (x := xl) (n := n) (i := k) (by omega)
  obtain ⟨SH, hSH⟩ : ∃ SH, SH = shL 1 xl n := ⟨_, rfl⟩
  have hll : SH.length = m := by rw [hSH]; simpa using hm
  rw [← hSH] at hat ⊢
  clear hSH
  have HAT := Lib.hid hat; clear hat
  have HLL := Lib.hid hll
  have HM := Lib.hid hm; clear hm
  have HS := Lib.hid hS; clear hS
  go_enter Try.func116, Try.ntmps116
  go_wp2_with fail
  go_loopw [7, 8] (fun o i wr => ∃ k : Nat, k ≤ m ∧ i = .int .i64 k ∧ Ch [] w wr ∧ row wr 3 1 o k (intCells (SH.take k)) ∧ ∀ q ∈ o.ownBlock.toList, w.heap.size ≤ q) (fun _ i _ => m - (intOf i).toNat)
  case atStart => exact ⟨0, by omega, rfl, Ch.refl _ _, ⟨rfl, .inl ⟨rfl, rfl⟩⟩, by simp⟩
  case round =>
    obtain ⟨k, hk, rfl, hc, hrow, hlo⟩ := hrel
    obtain ⟨oa, oc, rfl⟩ := row.shape hrow
    by_cases hlt : k < m
    · have hsk := HAT.out k hlt
      rw [if_pos trivial] at hsk
      by_cases hbig : 16 < n
      · rw [if_neg (by omega)] at hsk
        have d1 : decide ((16 : Int) < n) = true := decide_eq_true (by omega)
        have HROW := Lib.hid hrow; clear hrow
        have HC := Lib.hid hc; clear hc
        have HLO := Lib.hid hlo; clear hlo
        have HSK := Lib.hid hsk; clear hsk
        clear hbig
        have hcA : Ch [] wr (wr.alloc (.cells #[.int .i64 0] 3)) := (Ch.refl _ _).alloc _
        have hrA := HROW.out.ch hcA (by simp)
        have hbA : blk (wr.alloc (.cells #[.int .i64 0] 3)) wr.heap.size [.int .i64 0] := blk.new' _ _ rfl
        have HRA := Lib.hid hrA; clear hrA HROW
        have HBA := Lib.hid hbA; clear hbA
        have HCA := Lib.hid hcA; clear hcA
        go_wp2_with (at_builtin; go_loud (refine wpList_append_row slInts rfl _ _ rfl (v := .slice oa k oc) (n := k) (xs := intCells (SH.take k)) rfl HRA.out (ad := ⟨wr.heap.size, 0, none⟩) (m := 1) (c := 1) (news := [.int .i64 0]) rfl rfl (news_blk HBA.out) (by simp [Value.oneCell']) (by omega) (by omega) ?_; intro v' w4 hown4 hC4 hf4; have HO4 := Lib.hid hown4; clear hown4; have HC4 := Lib.hid hC4; clear hC4; have HF4 := Lib.hid hf4; clear hf4))
        go_roundw
        case rel =>
          obtain ⟨q1, q2⟩ := app_step HC.out HCA.out HLO.out HC4.out HF4.out
          refine ⟨k + 1, by omega, by go_num, q1, ?_, by simpa using q2⟩
          rw [intCells_snoc HSK.out]; exact HO4.out
        case measure => simp [intOf]; omega
      · have d1 : decide ((16 : Int) < n) = false := decide_eq_false (by omega)
        by_cases hk2 : n ≤ k
        · rw [if_pos hk2] at hsk
          obtain ⟨p, rfl⟩ : ∃ p, k = n + p := ⟨k - n, by omega⟩
          have hz : ((n + p : Nat) : Int) - n = p := by omega
          have d2 : decide ((p : Int) < 0) = false := decide_eq_false (by omega)
          have d3 : decide ((m : Int) ≤ p) = false := decide_eq_false (by omega)
          obtain ⟨x, hx⟩ : ∃ x, xl[p]? = some x := ⟨_, List.getElem?_eq_getElem (by have := HM.out; omega)⟩
          rw [show n + p - n = p by omega, List.getD_eq_getElem?_getD, hx, Option.getD_some] at hsk
          obtain ⟨xb, xo, rfl, hcl⟩ := HS.out.cells p x hx
          have c0 := (hc.cell (cell_lt hcl) (by simp)).trans hcl
          have HROW := Lib.hid hrow; clear hrow
          have HC := Lib.hid hc; clear hc
          have HLO := Lib.hid hlo; clear hlo
          have HSK := Lib.hid hsk; clear hsk
          clear hcl hx
          generalize hk9 : n + p = k at *
          have hcA : Ch [] wr (wr.alloc (.cells #[.int .i64 x] 3)) := (Ch.refl _ _).alloc _
          have hrA := HROW.out.ch hcA (by simp)
          have hbA : blk (wr.alloc (.cells #[.int .i64 x] 3)) wr.heap.size [.int .i64 x] := blk.new' _ _ rfl
          have HRA := Lib.hid hrA; clear hrA HROW
          have HBA := Lib.hid hbA; clear hbA
          have HCA := Lib.hid hcA; clear hcA
          go_wp2_with (at_builtin; go_loud (refine wpList_append_row slInts rfl _ _ rfl (v := .slice oa k oc) (n := k) (xs := intCells (SH.take k)) rfl HRA.out (ad := ⟨wr.heap.size, 0, none⟩) (m := 1) (c := 1) (news := [.int .i64 x]) rfl rfl (news_blk HBA.out) (by simp [Value.oneCell']) (by omega) (by omega) ?_; intro v' w4 hown4 hC4 hf4; have HO4 := Lib.hid hown4; clear hown4; have HC4 := Lib.hid hC4; clear hC4; have HF4 := Lib.hid hf4; clear hf4))
          go_roundw
          case rel =>
            obtain ⟨q1, q2⟩ := app_step HC.out HCA.out HLO.out HC4.out HF4.out
            refine ⟨k + 1, by omega, by go_num, q1, ?_, by simpa using q2⟩
            rw [intCells_snoc HSK.out]; exact HO4.out
          case measure => simp [intOf]; omega
        · rw [if_neg hk2] at hsk
          have d2 : decide ((k : Int) - n < 0) = true := decide_eq_true (by omega)
          have HROW := Lib.hid hrow; clear hrow
          have HC := Lib.hid hc; clear hc
          have HLO := Lib.hid hlo; clear hlo
          have HSK := Lib.hid hsk; clear hsk
          clear hk2
          have hcA : Ch [] wr (wr.alloc (.cells #[.int .i64 0] 3)) := (Ch.refl _ _).alloc _
          have hrA := HROW.out.ch hcA (by simp)
          have hbA : blk (wr.alloc (.cells #[.int .i64 0] 3)) wr.heap.size [.int .i64 0] := blk.new' _ _ rfl
          have HRA := Lib.hid hrA; clear hrA HROW
          have HBA := Lib.hid hbA; clear hbA
          have HCA := Lib.hid hcA; clear hcA
          go_wp2_with (at_builtin; go_loud (refine wpList_append_row slInts rfl _ _ rfl (v := .slice oa k oc) (n := k) (xs := intCells (SH.take k)) rfl HRA.out (ad := ⟨wr.heap.size, 0, none⟩) (m := 1) (c := 1) (news := [.int .i64 0]) rfl rfl (news_blk HBA.out) (by simp [Value.oneCell']) (by omega) (by omega) ?_; intro v' w4 hown4 hC4 hf4; have HO4 := Lib.hid hown4; clear hown4; have HC4 := Lib.hid hC4; clear hC4; have HF4 := Lib.hid hf4; clear hf4))
          go_roundw
          case rel =>
            obtain ⟨q1, q2⟩ := app_step HC.out HCA.out HLO.out HC4.out HF4.out
            refine ⟨k + 1, by omega, by go_num, q1, ?_, by simpa using q2⟩
            rw [intCells_snoc HSK.out]; exact HO4.out
          case measure => simp [intOf]; omega
    · have hkn : k = m := by omega
      rw [hkn, List.take_of_length_le (by omega)] at hrow
      rw [hkn] at hlo
      rw [hkn]
      have HROW := Lib.hid hrow; clear hrow
      have HLO := Lib.hid hlo; clear hlo
      have HC := Lib.hid hc; clear hc hkn
      go_wp2_with fail
      go_ret
      exact ⟨.slice oa m oc, rfl, by rw [HLL.out]; exact HROW.out, HLO.out, HC.out⟩
set_option maxRecDepth 100000 in
set_option maxHeartbeats 4000000 in
theorem r25Shifted_2 {xa : Option Addr} {xl : List Int} (m xc n : Nat) (hS : Sl w xa xl) (hm : xl.length = m) (hl : m ≤ 16) (hn : n ≤ 9223372036854775807) :
    Calls Try.prog 116 #[.int .i64 2, .slice xa m xc, .int .i64 n] w fun e w' => ∃ v, e = .returned v ∧ INew w v (shL 2 xl n) w' := by
  have hat := fun k (hk : k < m) => shL_at (side := 2) (x := xl) (n := n) (i := k) (by omega)
  obtain ⟨SH, hSH⟩ : ∃ SH, SH = shL 2 xl n := ⟨_, rfl⟩
  have hll : SH.length = m := by rw [hSH]; simpa using hm
  rw [← hSH] at hat ⊢
  clear hSH
  have HAT := Lib.hid hat; clear hat
  have HLL := Lib.hid hll
  have HM := Lib.hid hm; clear hm
  have HS := Lib.hid hS; clear hS
  go_enter Try.func116, Try.ntmps116
  go_wp2_with fail
  go_loopw [7, 8] (fun o i wr => ∃ k : Nat, k ≤ m ∧ i = .int .i64 k ∧ Ch [] w wr ∧ row wr 3 1 o k (intCells (SH.take k)) ∧ ∀ q ∈ o.ownBlock.toList, w.heap.size ≤ q) (fun _ i _ => m - (intOf i).toNat)
  case atStart => exact ⟨0, by omega, rfl, Ch.refl _ _, ⟨rfl, .inl ⟨rfl, rfl⟩⟩, by simp⟩
  case round =>
    obtain ⟨k, hk, rfl, hc, hrow, hlo⟩ := hrel
    obtain ⟨oa, oc, rfl⟩ := row.shape hrow
    by_cases hlt : k < m
    · have hsk := HAT.out k hlt
      rw [if_neg (by omega)] at hsk
      by_cases hbig : 16 < n
      · rw [List.getD_eq_getElem?_getD, show xl[k + n]? = none from List.getElem?_eq_none (by have := HM.out; omega), Option.getD_none] at hsk
        have d1 : decide ((16 : Int) < n) = true := decide_eq_true (by omega)
        have HROW := Lib.hid hrow; clear hrow
        have HC := Lib.hid hc; clear hc
        have HLO := Lib.hid hlo; clear hlo
        have HSK := Lib.hid hsk; clear hsk
        clear hbig
        have hcA : Ch [] wr (wr.alloc (.cells #[.int .i64 0] 3)) := (Ch.refl _ _).alloc _
        have hrA := HROW.out.ch hcA (by simp)
        have hbA : blk (wr.alloc (.cells #[.int .i64 0] 3)) wr.heap.size [.int .i64 0] := blk.new' _ _ rfl
        have HRA := Lib.hid hrA; clear hrA HROW
        have HBA := Lib.hid hbA; clear hbA
        have HCA := Lib.hid hcA; clear hcA
        go_wp2_with (at_builtin; go_loud (refine wpList_append_row slInts rfl _ _ rfl (v := .slice oa k oc) (n := k) (xs := intCells (SH.take k)) rfl HRA.out (ad := ⟨wr.heap.size, 0, none⟩) (m := 1) (c := 1) (news := [.int .i64 0]) rfl rfl (news_blk HBA.out) (by simp [Value.oneCell']) (by omega) (by omega) ?_; intro v' w4 hown4 hC4 hf4; have HO4 := Lib.hid hown4; clear hown4; have HC4 := Lib.hid hC4; clear hC4; have HF4 := Lib.hid hf4; clear hf4))
        go_roundw
        case rel =>
          obtain ⟨q1, q2⟩ := app_step HC.out HCA.out HLO.out HC4.out HF4.out
          refine ⟨k + 1, by omega, by go_num, q1, ?_, by simpa using q2⟩
          rw [intCells_snoc HSK.out]; exact HO4.out
        case measure => simp [intOf]; omega
      · have d1 : decide ((16 : Int) < n) = false := decide_eq_false (by omega)
        have d2 : decide ((k : Int) + n < 0) = false := decide_eq_false (by omega)
        by_cases hk2 : k + n < m
        · have d3 : decide ((m : Int) ≤ (k : Int) + n) = false := decide_eq_false (by omega)
          obtain ⟨x, hx⟩ : ∃ x, xl[k + n]? = some x := ⟨_, List.getElem?_eq_getElem (by have := HM.out; omega)⟩
          rw [List.getD_eq_getElem?_getD, hx, Option.getD_some] at hsk
          obtain ⟨xb, xo, rfl, hcl⟩ := HS.out.cells (k + n) x hx
          have c0 := (hc.cell (cell_lt hcl) (by simp)).trans hcl
          have HROW := Lib.hid hrow; clear hrow
          have HC := Lib.hid hc; clear hc
          have HLO := Lib.hid hlo; clear hlo
          have HSK := Lib.hid hsk; clear hsk
          clear hcl hx
          have hcA : Ch [] wr (wr.alloc (.cells #[.int .i64 x] 3)) := (Ch.refl _ _).alloc _
          have hrA := HROW.out.ch hcA (by simp)
          have hbA : blk (wr.alloc (.cells #[.int .i64 x] 3)) wr.heap.size [.int .i64 x] := blk.new' _ _ rfl
          have HRA := Lib.hid hrA; clear hrA HROW
          have HBA := Lib.hid hbA; clear hbA
          have HCA := Lib.hid hcA; clear hcA
          go_wp2_with (at_builtin; go_loud (refine wpList_append_row slInts rfl _ _ rfl (v := .slice oa k oc) (n := k) (xs := intCells (SH.take k)) rfl HRA.out (ad := ⟨wr.heap.size, 0, none⟩) (m := 1) (c := 1) (news := [.int .i64 x]) rfl rfl (news_blk HBA.out) (by simp [Value.oneCell']) (by omega) (by omega) ?_; intro v' w4 hown4 hC4 hf4; have HO4 := Lib.hid hown4; clear hown4; have HC4 := Lib.hid hC4; clear hC4; have HF4 := Lib.hid hf4; clear hf4))
          go_roundw
          case rel =>
            obtain ⟨q1, q2⟩ := app_step HC.out HCA.out HLO.out HC4.out HF4.out
            refine ⟨k + 1, by omega, by go_num, q1, ?_, by simpa using q2⟩
            rw [intCells_snoc HSK.out]; exact HO4.out
          case measure => simp [intOf]; omega
        · have d3 : decide ((m : Int) ≤ (k : Int) + n) = true := decide_eq_true (by omega)
          rw [List.getD_eq_getElem?_getD, show xl[k + n]? = none from List.getElem?_eq_none (by have := HM.out; omega), Option.getD_none] at hsk
          have HROW := Lib.hid hrow; clear hrow
          have HC := Lib.hid hc; clear hc
          have HLO := Lib.hid hlo; clear hlo
          have HSK := Lib.hid hsk; clear hsk
          clear hk2
          have hcA : Ch [] wr (wr.alloc (.cells #[.int .i64 0] 3)) := (Ch.refl _ _).alloc _
          have hrA := HROW.out.ch hcA (by simp)
          have hbA : blk (wr.alloc (.cells #[.int .i64 0] 3)) wr.heap.size [.int .i64 0] := blk.new' _ _ rfl
          have HRA := Lib.hid hrA; clear hrA HROW
          have HBA := Lib.hid hbA; clear hbA
          have HCA := Lib.hid hcA; clear hcA
          go_wp2_with (at_builtin; go_loud (refine wpList_append_row slInts rfl _ _ rfl (v := .slice oa k oc) (n := k) (xs := intCells (SH.take k)) rfl HRA.out (ad := ⟨wr.heap.size, 0, none⟩) (m := 1) (c := 1) (news := [.int .i64 0]) rfl rfl (news_blk HBA.out) (by simp [Value.oneCell']) (by omega) (by omega) ?_; intro v' w4 hown4 hC4 hf4; have HO4 := Lib.hid hown4; clear hown4; have HC4 := Lib.hid hC4; clear hC4; have HF4 := Lib.hid hf4; clear hf4))
          go_roundw
          case rel =>
            obtain ⟨q1, q2⟩ := app_step HC.out HCA.out HLO.out HC4.out HF4.out
            refine ⟨k + 1, by omega, by go_num, q1, ?_, by simpa using q2⟩
            rw [intCells_snoc HSK.out]; exact HO4.out
          case measure => simp [intOf]; omega
    · have hkn : k = m := by omega
      rw [hkn, List.take_of_length_le (by omega)] at hrow
      rw [hkn] at hlo
      rw [hkn]
      have HROW := Lib.hid hrow; clear hrow
      have HLO := Lib.hid hlo; clear hlo
      have HC := Lib.hid hc; clear hc hkn
      go_wp2_with fail
      go_ret
      exact ⟨.slice oa m oc, rfl, by rw [HLL.out]; exact HROW.out, HLO.out, HC.out⟩
theorem r25Shifted_is {side : Nat} (hs : side = 1 ∨ side = 2) {xa : Option Addr} {xl : List Int} (m xc n : Nat) (hS : Sl w xa xl) (hm : xl.length = m) (hl : m ≤ 16) (hn : n ≤ 9223372036854775807) :
    Calls Try.prog 116 #[.int .i64 side, .slice xa m xc, .int .i64 n] w fun e w' => ∃ v, e = .returned v ∧ INew w v (shL side xl n) w' := by
  rcases hs with rfl | rfl
  · exact r25Shifted_1 m xc n hS hm hl hn
  · exact r25Shifted_2 m xc n hS hm hl hn
set_option maxRecDepth 100000 in
set_option maxHeartbeats 4000000 in
theorem r25Turn_is {xa : Option Addr} {xl : List Int} (m xc : Nat) (n : Int) (hS : Sl w xa xl) (hm : xl.length = m) (h1 : 1 ≤ m) (hl : m ≤ 16) :
    Calls Try.prog 83 #[.slice xa m xc, .int .i64 n] w fun e w' => ∃ v, e = .returned v ∧ INew w v (turnL xl n) w' := by
  have hat := fun k (hk : k < m) => turnL_at (x := xl) (n := n) (i := k) (by omega)
  rw [hm] at hat
  obtain ⟨SH, hSH⟩ : ∃ SH, SH = turnL xl n := ⟨_, rfl⟩
  have hll : SH.length = m := by rw [hSH]; simpa using hm
  rw [← hSH] at hat ⊢
  clear hSH
  obtain ⟨q, hq⟩ : ∃ q, n.tmod m = q := ⟨_, rfl⟩
  have hqb : -(m : Int) < q ∧ q < m := by
    have h1 := Int.tmod_lt_of_pos n (show (0 : Int) < m by omega)
    have h2 := Int.lt_tmod_of_pos n (show (0 : Int) < m by omega)
    omega
  have hqm : q % m = n % m := by rw [← hq, Int.tmod_eq_emod]; split <;> simp
  have HQM := Lib.hid hqm; clear hqm
  have HAT := Lib.hid hat; clear hat
  have HLL := Lib.hid hll
  have HM := Lib.hid hm; clear hm
  have HS := Lib.hid hS; clear hS
  go_enter Try.func83, Try.ntmps83
  go_wp2_with fail
  go_loopw [5, 6] (fun o i wr => ∃ k : Nat, k ≤ m ∧ i = .int .i64 k ∧ Ch [] w wr ∧ row wr 3 1 o k (intCells (SH.take k)) ∧ ∀ q ∈ o.ownBlock.toList, w.heap.size ≤ q) (fun _ i _ => m - (intOf i).toNat)
  case atStart => exact ⟨0, by omega, rfl, Ch.refl _ _, ⟨rfl, .inl ⟨rfl, rfl⟩⟩, by simp⟩
  case round =>
    obtain ⟨k, hk, rfl, hc, hrow, hlo⟩ := hrel
    obtain ⟨oa, oc, rfl⟩ := row.shape hrow
    by_cases hlt : k < m
    · have hsk := HAT.out k hlt
      have hkq : ((k : Int) + n) % m = ((k : Int) + q) % m := by rw [← Int.add_emod_emod, ← HQM.out, Int.add_emod_emod]
      rw [hkq] at hsk
      clear hkq
      by_cases hneg : (k : Int) + q < 0
      · obtain ⟨p, hp⟩ : ∃ p : Nat, (k : Int) + q + m = p := ⟨((k : Int) + q + m).toNat, by omega⟩
        have hr : ((k : Int) + q).tmod m = (p : Int) - m := by
          have h2 : (-((k : Int) + q)).tmod m = -((k : Int) + q) := Int.tmod_eq_of_lt (by omega) (by omega)
          rw [Int.neg_tmod] at h2
          omega
        have he : ((k : Int) + q) % m = p := by
          rw [← Int.add_emod_right, hp]
          exact Int.emod_eq_of_lt (by omega) (by omega)
        rw [he, Int.toNat_natCast] at hsk
        obtain ⟨x, hx⟩ : ∃ x, xl[p]? = some x := ⟨_, List.getElem?_eq_getElem (by have := HM.out; omega)⟩
        rw [hx] at hsk
        obtain ⟨xb, xo, rfl, hcl⟩ := HS.out.cells p x hx
        have c0 := (hc.cell (cell_lt hcl) (by simp)).trans hcl
        have d1 : decide ((p : Int) - m < 0) = true := decide_eq_true (by omega)
        have d2 : (p : Int) - m + m = p := by omega
        have d3 : p < m := by omega
        have HROW := Lib.hid hrow; clear hrow
        have HC := Lib.hid hc; clear hc
        have HLO := Lib.hid hlo; clear hlo
        have HSK := Lib.hid hsk; clear hsk
        clear hcl hx he hp hneg
        have hcA : Ch [] wr (wr.alloc (.cells #[.int .i64 x] 3)) := (Ch.refl _ _).alloc _
        have hrA := HROW.out.ch hcA (by simp)
        have hbA : blk (wr.alloc (.cells #[.int .i64 x] 3)) wr.heap.size [.int .i64 x] := blk.new' _ _ rfl
        have HRA := Lib.hid hrA; clear hrA HROW
        have HBA := Lib.hid hbA; clear hbA
        have HCA := Lib.hid hcA; clear hcA
        go_wp2_with (at_builtin; go_loud (refine wpList_append_row slInts rfl _ _ rfl (v := .slice oa k oc) (n := k) (xs := intCells (SH.take k)) rfl HRA.out (ad := ⟨wr.heap.size, 0, none⟩) (m := 1) (c := 1) (news := [.int .i64 x]) rfl rfl (news_blk HBA.out) (by simp [Value.oneCell']) (by omega) (by omega) ?_; intro v' w4 hown4 hC4 hf4; have HO4 := Lib.hid hown4; clear hown4; have HC4 := Lib.hid hC4; clear hC4; have HF4 := Lib.hid hf4; clear hf4))
        go_roundw
        case rel =>
          obtain ⟨q1, q2⟩ := app_step HC.out HCA.out HLO.out HC4.out HF4.out
          refine ⟨k + 1, by omega, by go_num, q1, ?_, by simpa using q2⟩
          rw [intCells_snoc HSK.out]; exact HO4.out
        case measure => simp [intOf]; omega
      · obtain ⟨p, hp⟩ : ∃ p : Nat, ((k : Int) + q) % m = p := ⟨(((k : Int) + q) % m).toNat, by have := Int.emod_nonneg ((k : Int) + q) (show (m : Int) ≠ 0 by omega); omega⟩
        have hpm : p < m := by have := Int.emod_lt_of_pos ((k : Int) + q) (show (0 : Int) < m by omega); omega
        have hr : ((k : Int) + q).tmod m = p := by rw [Int.tmod_eq_emod_of_nonneg (by omega), hp]
        rw [hp, Int.toNat_natCast] at hsk
        obtain ⟨x, hx⟩ : ∃ x, xl[p]? = some x := ⟨_, List.getElem?_eq_getElem (by have := HM.out; omega)⟩
        rw [hx] at hsk
        obtain ⟨xb, xo, rfl, hcl⟩ := HS.out.cells p x hx
        have c0 := (hc.cell (cell_lt hcl) (by simp)).trans hcl
        have d1 : decide ((p : Int) < 0) = false := decide_eq_false (by omega)
        have HROW := Lib.hid hrow; clear hrow
        have HC := Lib.hid hc; clear hc
        have HLO := Lib.hid hlo; clear hlo
        have HSK := Lib.hid hsk; clear hsk
        clear hcl hx hp hneg
        have hcA : Ch [] wr (wr.alloc (.cells #[.int .i64 x] 3)) := (Ch.refl _ _).alloc _
        have hrA := HROW.out.ch hcA (by simp)
        have hbA : blk (wr.alloc (.cells #[.int .i64 x] 3)) wr.heap.size [.int .i64 x] := blk.new' _ _ rfl
        have HRA := Lib.hid hrA; clear hrA HROW
        have HBA := Lib.hid hbA; clear hbA
        have HCA := Lib.hid hcA; clear hcA
        go_wp2_with (at_builtin; go_loud (refine wpList_append_row slInts rfl _ _ rfl (v := .slice oa k oc) (n := k) (xs := intCells (SH.take k)) rfl HRA.out (ad := ⟨wr.heap.size, 0, none⟩) (m := 1) (c := 1) (news := [.int .i64 x]) rfl rfl (news_blk HBA.out) (by simp [Value.oneCell']) (by omega) (by omega) ?_; intro v' w4 hown4 hC4 hf4; have HO4 := Lib.hid hown4; clear hown4; have HC4 := Lib.hid hC4; clear hC4; have HF4 := Lib.hid hf4; clear hf4))
        go_roundw
        case rel =>
          obtain ⟨q1, q2⟩ := app_step HC.out HCA.out HLO.out HC4.out HF4.out
          refine ⟨k + 1, by omega, by go_num, q1, ?_, by simpa using q2⟩
          rw [intCells_snoc HSK.out]; exact HO4.out
        case measure => simp [intOf]; omega
    · have hkn : k = m := by omega
      rw [hkn, List.take_of_length_le (by omega)] at hrow
      rw [hkn] at hlo
      rw [hkn]
      have HROW := Lib.hid hrow; clear hrow
      have HLO := Lib.hid hlo; clear hlo
      have HC := Lib.hid hc; clear hc hkn
      go_wp2_with fail
      go_ret
      exact ⟨.slice oa m oc, rfl, by rw [HLL.out]; exact HROW.out, HLO.out, HC.out⟩
end
end Go.Proofs.Ytchledddgmbndaa
namespace Go.Proofs.Ytchledddgmbndaa
open Go.RowKit Go.Mem Go.Aig
section
variable {w : World}
def chk25 (q : Int → Bool) (side : Nat) (x y : List Int) : Nat := if side ≠ 1 ∧ side ≠ 2 then 251 else if rightB x.length = false ∨ rightB y.length = false then 250 else if (x ++ y).any (fun r => !q r) then 200 else 0
theorem Sl.some {w : World} {a : Option Addr} {l : List Int} (h : Sl w a l) (h0 : 0 < l.length) : ∃ p, a = some p ∧ ∀ j u, (intCells l)[j]? = some u → w.cell? (p.add j) = some u := by
  obtain ⟨b, o, rfl, _⟩ := h.cells 0 _ (List.getElem?_eq_getElem h0)
  refine ⟨_, rfl, fun j u hu => ?_⟩
  simp only [intCells, List.getElem?_map, Option.map_eq_some_iff] at hu
  obtain ⟨x, hx, rfl⟩ := hu
  obtain ⟨b', o', e, hc⟩ := h.cells j x hx
  cases e
  rw [Addr.add_lit]
  exact hc
theorem one_ints (l : List Int) : ∀ u ∈ intCells l, u.oneCell' = true := fun u hu => by
  obtain ⟨r, _, rfl⟩ := List.mem_map.1 hu
  rfl
set_option maxRecDepth 100000 in
set_option maxHeartbeats 4000000 in
theorem r25Check_loop1 {mo : Int} {ga : Option Addr} {gn gc : Nat} (q : Int → Bool) (hq : ∀ W r, Ch [] w W → Calls Try.prog 128 #[.agg #[.int .i64 mo, .slice ga gn gc], .int .i64 r] W fun e w' => e = .returned (.bool (q r)) ∧ Ch [] W w')
    {xa ya : Option Addr} {xl yl : List Int} (m xc k yc : Nat) (hX : Sl w xa xl) (hY : Sl w ya yl) (hm : xl.length = m) (hk : yl.length = k) (hr1 : rightB m = true) (hr2 : rightB k = true) :
    Calls Try.prog 95 #[.agg #[.int .i64 mo, .slice ga gn gc], .int .i64 1, .slice xa m xc, .slice ya k yc] w fun e w' => e = .returned (.int .i64 (if (xl ++ yl).any (fun r => !q r) then 200 else 0 : Nat)) ∧ Ch [] w w' := by
  have hR1 := fun W => r25Right_is (w := W) m
  have hR2 := fun W => r25Right_is (w := W) k
  rw [hr1] at hR1
  rw [hr2] at hR2
  unfold rightB at hr1 hr2
  simp only [Bool.and_eq_true, decide_eq_true_eq] at hr1 hr2
  obtain ⟨px, rfl, hxc⟩ := hX.some (by omega)
  obtain ⟨py, rfl, hyc⟩ := hY.some (by omega)
  obtain ⟨AL, hAL⟩ : ∃ AL, AL = xl ++ yl := ⟨_, rfl⟩
  have hALn : AL.length = m + k := by rw [hAL, List.length_append, hm, hk]
  have hALc : intCells AL = intCells xl ++ intCells yl := by rw [hAL]; simp [intCells]
  rw [← hAL]
  obtain ⟨RES, hRES⟩ : ∃ RES : Nat, RES = if AL.any (fun r => !q r) then 200 else 0 := ⟨_, rfl⟩
  rw [← hRES]
  have HRES := Lib.hid hRES; clear hRES
  have HQ := Lib.hid hq; clear hq
  have HXC := Lib.hid hxc; clear hxc hX
  have HYC := Lib.hid hyc; clear hyc hY
  have h0 : Ch [] w ((w.alloc (.cells #[.int .i64 mo, .slice ga gn gc] 132)).alloc (.cells #[] 3)) := ((Ch.refl _ _).alloc _).alloc _
  have hO : row ((w.alloc (.cells #[.int .i64 mo, .slice ga gn gc] 132)).alloc (.cells #[] 3)) 3 1 (.slice (some ⟨w.heap.size + 1, 0, none⟩) 0 0) 0 [] := by
    have := row_new0 (w := w.alloc (.cells #[.int .i64 mo, .slice ga gn gc] 132)) (W := (w.alloc (.cells #[.int .i64 mo, .slice ga gn gc] 132)).alloc (.cells #[] 3)) (e := 3) (size := 1) rfl
    simpa using this
  have hb : blk ((w.alloc (.cells #[.int .i64 mo, .slice ga gn gc] 132)).alloc (.cells #[] 3)) w.heap.size [.int .i64 mo, .slice ga gn gc] := (blk.new' _ _ rfl).alloc _
  have HO := Lib.hid hO; clear hO
  have H0 := Lib.hid h0; clear h0
  have HB := Lib.hid hb; clear hb
  have HALN := Lib.hid hALn; clear hALn
  have HALC := Lib.hid hALc; clear hALc hAL
  go_enter Try.func95, Try.ntmps95
  go_wp2_with fail
  refine (hR1 _).mono ?_
  rintro e w' ⟨rfl, rfl⟩
  go_wp2_with fail
  refine (hR2 _).mono ?_
  rintro e w' ⟨rfl, rfl⟩
  clear hR1 hR2
  go_wp2_with (at_builtin; first
    | go_loud (refine wpList_append_row slInts rfl _ _ rfl (v := .slice (some ⟨w.heap.size + 1, 0, none⟩) 0 0) (n := 0) (xs := []) rfl HO.out (ad := px) (m := m) (c := xc) (news := intCells xl) rfl (by simp [intCells, hm]) (fun j u hu => (H0.out.cell (cell_lt (HXC.out j u hu)) (by simp)).trans (HXC.out j u hu)) (one_ints xl) (by omega) (by omega) ?_; intro v1 w1 hown1 hC1 hf1; have HO1 := Lib.hid hown1; clear hown1; have HC1 := Lib.hid hC1; clear hC1; have HF1 := Lib.hid hf1; clear hf1)
    | go_loud (refine wpList_append_row slInts rfl _ _ rfl (v := v1) (n := 0 + m) (xs := [] ++ intCells xl) rfl HO1.out (ad := py) (m := k) (c := yc) (news := intCells yl) rfl (by simp [intCells, hk]) (fun j u hu => ((H0.out.trans HC1.out (fun q hq => .inr (by simp at hq; omega))).cell (cell_lt (HYC.out j u hu)) (by simp)).trans (HYC.out j u hu)) (one_ints yl) (by omega) (by omega) ?_; intro v2 w2 hown2 hC2 hf2; have HO2 := Lib.hid hown2; clear hown2; have HC2 := Lib.hid hC2; clear hC2; have HF2 := Lib.hid hf2; clear hf2))
  have hrow : row w2 3 1 v2 (m + k) (intCells AL) := by
    have := HO2.out
    rw [List.nil_append, ← HALC.out, Nat.zero_add] at this
    exact this
  obtain ⟨ab, ac, rfl⟩ := row.parts hrow (by omega)
  have hch : Ch [] w w2 := (H0.out.trans HC1.out (fun q hq => .inr (by simp at hq; omega))).trans HC2.out (fun q hq => .inr (by
    rcases HF1.out q (by simpa using hq) with e | e
    · simp at e; omega
    · have := H0.out.size; omega))
  have hb2 : blk w2 w.heap.size [.int .i64 mo, .slice ga gn gc] := (HB.out.ch HC1.out (by simp)).ch HC2.out (fun hk => by
    rcases HF1.out _ (by simpa using hk) with e | e
    · simp at e
    · simp at e; omega)
  have hsl := Sl.of_ints hrow (by omega)
  have HB2 := Lib.hid hb2; clear hb2
  have HCH := Lib.hid hch; clear hch
  have HSL := Lib.hid hsl; clear hsl hrow HO2 HC2 HF2 HO1 HC1 HF1 HB HO H0 HALC
  go_loopw [10] (fun i wr => ∃ j : Nat, j ≤ m + k ∧ i = .int .i64 j ∧ Ch [] w2 wr ∧ ∀ r ∈ AL.take j, q r = true) (fun i _ => m + k - (intOf i).toNat)
  case atStart => exact ⟨0, by omega, rfl, Ch.refl _ _, by simp⟩
  case round =>
    obtain ⟨j, hj, rfl, hc, hall⟩ := hrel
    by_cases hlt : j < m + k
    · obtain ⟨r, hr⟩ : ∃ r, AL[j]? = some r := ⟨_, List.getElem?_eq_getElem (by rw [HALN.out]; exact hlt)⟩
      obtain ⟨b9, o9, e9, hcl⟩ := HSL.out.cells j r hr
      cases e9
      rw [Nat.zero_add] at hcl
      have c0 := (hc.cell (cell_lt hcl) (by simp)).trans hcl
      have hb2 := HB2.out.ch hc (by simp)
      have y0 := hb2.cell (i := 0) rfl
      have y1 := hb2.cell (i := 1) rfl
      have hqq := HQ.out wr.drew r ((HCH.out.trans hc (by simp)).drew)
      have hsn : AL.take (j + 1) = AL.take j ++ [r] := by rw [List.take_add_one, hr]; rfl
      have hany : q r = false → AL.any (fun r => !q r) = true := fun e => List.any_eq_true.2 ⟨r, List.mem_of_getElem? hr, by rw [e]; rfl⟩
      have HC := Lib.hid hc; clear hc
      have HALL := Lib.hid hall; clear hall
      have HSN := Lib.hid hsn; clear hsn
      have HANY := Lib.hid hany; clear hany hcl hr hb2
      cases hqr : q r
      · rw [hqr] at hqq
        have HQQ := Lib.hid hqq; clear hqq
        have HQR := Lib.hid hqr; clear hqr
        go_wp2_with fail
        refine Ord.St.door (fun _ => True) [.rd, .fl, .fl, .fl, .rd, .ef, .fl] [0, 0, 0, 6, 14, 31, 63] [0, 1, 2, 3, 4, 5, 6] mixed (by kernel_rfl) rfl ?_
        refine Ord.St.rd2 (T' := ?_) 0 [1, 2, 3, 4, 5, 6] _ _ rfl (by kernel_rfl) rfl rfl rfl rfl (fun K hk => ?_) ?_
        rotate_left
        · go_step; exact hk
        refine Ord.St.fl2 (T' := ?_) 1 [2, 3, 4, 5, 6] _ _ rfl (by kernel_rfl) rfl rfl rfl rfl (fun K w' hk => ?_) ?_
        rotate_left
        · go_step; exact hk
        refine Ord.St.fl2 (T' := ?_) 2 [3, 4, 5, 6] _ _ rfl (by kernel_rfl) rfl rfl rfl rfl (fun K w' hk => ?_) ?_
        rotate_left
        · go_step; exact hk
        refine Ord.St.fl2 (T' := ?_) 3 [4, 5, 6] _ _ rfl (by kernel_rfl) rfl rfl rfl rfl (fun K w' hk => ?_) ?_
        rotate_left
        · go_step; exact hk
        refine Ord.St.rd2 (T' := ?_) 4 [5, 6] _ _ rfl (by kernel_rfl) rfl rfl rfl rfl (fun K hk => ?_) ?_
        rotate_left
        · go_step; exact hk
        refine Ord.St.ef 5 [6] _ rfl (by kernel_rfl) (fun K hK => ?_)
        go_wp2_with fail
        refine HQQ.out.mono ?_
        rintro e w5 ⟨rfl, hc5⟩
        have HC5 := Lib.hid hc5; clear hc5
        go_wp2_with fail
        refine ⟨rfl, hK _ _ ?_⟩; clear hK K
        refine Ord.St.fl2 (T' := ?_) 6 [] _ _ rfl (by kernel_rfl) rfl rfl rfl rfl (fun K w' hk => ?_) ?_
        rotate_left
        · go_step; exact hk
        refine Ord.St.nil ?_
        go_wp2_with fail
        go_ret
        exact ⟨by rw [show RES = 200 from by rw [HRES.out, HANY.out HQR.out]; rfl]; rfl, (HCH.out.trans HC.out (by simp)).trans (((Ch.refl [] wr).drew).trans HC5.out (by simp)) (by simp)⟩
      · rw [hqr] at hqq
        have HQQ := Lib.hid hqq; clear hqq
        have HQR := Lib.hid hqr; clear hqr
        go_wp2_with fail
        refine Ord.St.door (fun _ => True) [.rd, .fl, .fl, .fl, .rd, .ef, .fl] [0, 0, 0, 6, 14, 31, 63] [0, 1, 2, 3, 4, 5, 6] mixed (by kernel_rfl) rfl ?_
        refine Ord.St.rd2 (T' := ?_) 0 [1, 2, 3, 4, 5, 6] _ _ rfl (by kernel_rfl) rfl rfl rfl rfl (fun K hk => ?_) ?_
        rotate_left
        · go_step; exact hk
        refine Ord.St.fl2 (T' := ?_) 1 [2, 3, 4, 5, 6] _ _ rfl (by kernel_rfl) rfl rfl rfl rfl (fun K w' hk => ?_) ?_
        rotate_left
        · go_step; exact hk
        refine Ord.St.fl2 (T' := ?_) 2 [3, 4, 5, 6] _ _ rfl (by kernel_rfl) rfl rfl rfl rfl (fun K w' hk => ?_) ?_
        rotate_left
        · go_step; exact hk
        refine Ord.St.fl2 (T' := ?_) 3 [4, 5, 6] _ _ rfl (by kernel_rfl) rfl rfl rfl rfl (fun K w' hk => ?_) ?_
        rotate_left
        · go_step; exact hk
        refine Ord.St.rd2 (T' := ?_) 4 [5, 6] _ _ rfl (by kernel_rfl) rfl rfl rfl rfl (fun K hk => ?_) ?_
        rotate_left
        · go_step; exact hk
        refine Ord.St.ef 5 [6] _ rfl (by kernel_rfl) (fun K hK => ?_)
        go_wp2_with fail
        refine HQQ.out.mono ?_
        rintro e w5 ⟨rfl, hc5⟩
        have HC5 := Lib.hid hc5; clear hc5
        go_wp2_with fail
        refine ⟨rfl, hK _ _ ?_⟩; clear hK K
        refine Ord.St.fl2 (T' := ?_) 6 [] _ _ rfl (by kernel_rfl) rfl rfl rfl rfl (fun K w' hk => ?_) ?_
        rotate_left
        · go_step; exact hk
        refine Ord.St.nil ?_
        go_wp2_with fail
        go_roundw
        case rel => exact ⟨j + 1, by omega, by go_num, HC.out.trans (((Ch.refl [] wr).drew).trans HC5.out (by simp)) (by simp), fun x hx => by
          rw [HSN.out] at hx
          rcases List.mem_append.1 hx with hx | hx
          · exact HALL.out x hx
          · rw [List.mem_singleton.1 hx]; exact HQR.out⟩
        case measure => simp [intOf]; omega
    · have hany : AL.any (fun r => !q r) = false := by
        rw [List.take_of_length_le (by rw [HALN.out]; omega)] at hall
        rw [List.any_eq_false]
        intro x hx
        rw [hall x hx]
        simp
      have HANY := Lib.hid hany; clear hany
      have HC := Lib.hid hc; clear hc
      clear hall
      go_wp2_with fail
      go_ret
      exact ⟨by rw [show RES = 0 from by rw [HRES.out, HANY.out]; rfl]; rfl, HCH.out.trans HC.out (by simp)⟩
set_option maxRecDepth 100000 in
set_option maxHeartbeats 4000000 in
theorem r25Check_loop2 {mo : Int} {ga : Option Addr} {gn gc : Nat} (q : Int → Bool) (hq : ∀ W r, Ch [] w W → Calls Try.prog 128 #[.agg #[.int .i64 mo, .slice ga gn gc], .int .i64 r] W fun e w' => e = .returned (.bool (q r)) ∧ Ch [] W w')
    {xa ya : Option Addr} {xl yl : List Int} (m xc k yc : Nat) (hX : Sl w xa xl) (hY : Sl w ya yl) (hm : xl.length = m) (hk : yl.length = k) (hr1 : rightB m = true) (hr2 : rightB k = true) :
    Calls Try.prog 95 #[.agg #[.int .i64 mo, .slice ga gn gc], .int .i64 2, .slice xa m xc, .slice ya k yc] w fun e w' => e = .returned (.int .i64 (if (xl ++ yl).any (fun r => !q r) then 200 else 0 : Nat)) ∧ Ch [] w w' := by
  have hR1 := fun W => r25Right_is (w := W) m
  have hR2 := fun W => r25Right_is (w := W) k
  rw [hr1] at hR1
  rw [hr2] at hR2
  unfold rightB at hr1 hr2
  simp only [Bool.and_eq_true, decide_eq_true_eq] at hr1 hr2
  obtain ⟨px, rfl, hxc⟩ := hX.some (by omega)
  obtain ⟨py, rfl, hyc⟩ := hY.some (by omega)
  obtain ⟨AL, hAL⟩ : ∃ AL, AL = xl ++ yl := ⟨_, rfl⟩
  have hALn : AL.length = m + k := by rw [hAL, List.length_append, hm, hk]
  have hALc : intCells AL = intCells xl ++ intCells yl := by rw [hAL]; simp [intCells]
  rw [← hAL]
  obtain ⟨RES, hRES⟩ : ∃ RES : Nat, RES = if AL.any (fun r => !q r) then 200 else 0 := ⟨_, rfl⟩
  rw [← hRES]
  have HRES := Lib.hid hRES; clear hRES
  have HQ := Lib.hid hq; clear hq
  have HXC := Lib.hid hxc; clear hxc hX
  have HYC := Lib.hid hyc; clear hyc hY
  have h0 : Ch [] w ((w.alloc (.cells #[.int .i64 mo, .slice ga gn gc] 132)).alloc (.cells #[] 3)) := ((Ch.refl _ _).alloc _).alloc _
  have hO : row ((w.alloc (.cells #[.int .i64 mo, .slice ga gn gc] 132)).alloc (.cells #[] 3)) 3 1 (.slice (some ⟨w.heap.size + 1, 0, none⟩) 0 0) 0 [] := by
    have := row_new0 (w := w.alloc (.cells #[.int .i64 mo, .slice ga gn gc] 132)) (W := (w.alloc (.cells #[.int .i64 mo, .slice ga gn gc] 132)).alloc (.cells #[] 3)) (e := 3) (size := 1) rfl
    simpa using this
  have hb : blk ((w.alloc (.cells #[.int .i64 mo, .slice ga gn gc] 132)).alloc (.cells #[] 3)) w.heap.size [.int .i64 mo, .slice ga gn gc] := (blk.new' _ _ rfl).alloc _
  have HO := Lib.hid hO; clear hO
  have H0 := Lib.hid h0; clear h0
  have HB := Lib.hid hb; clear hb
  have HALN := Lib.hid hALn; clear hALn
  have HALC := Lib.hid hALc; clear hALc hAL
  go_enter Try.func95, Try.ntmps95
  go_wp2_with fail
  refine (hR1 _).mono ?_
  rintro e w' ⟨rfl, rfl⟩
  go_wp2_with fail
  refine (hR2 _).mono ?_
  rintro e w' ⟨rfl, rfl⟩
  clear hR1 hR2
  go_wp2_with (at_builtin; first
    | go_loud (refine wpList_append_row slInts rfl _ _ rfl (v := .slice (some ⟨w.heap.size + 1, 0, none⟩) 0 0) (n := 0) (xs := []) rfl HO.out (ad := px) (m := m) (c := xc) (news := intCells xl) rfl (by simp [intCells, hm]) (fun j u hu => (H0.out.cell (cell_lt (HXC.out j u hu)) (by simp)).trans (HXC.out j u hu)) (one_ints xl) (by omega) (by omega) ?_; intro v1 w1 hown1 hC1 hf1; have HO1 := Lib.hid hown1; clear hown1; have HC1 := Lib.hid hC1; clear hC1; have HF1 := Lib.hid hf1; clear hf1)
    | go_loud (refine wpList_append_row slInts rfl _ _ rfl (v := v1) (n := 0 + m) (xs := [] ++ intCells xl) rfl HO1.out (ad := py) (m := k) (c := yc) (news := intCells yl) rfl (by simp [intCells, hk]) (fun j u hu => ((H0.out.trans HC1.out (fun q hq => .inr (by simp at hq; omega))).cell (cell_lt (HYC.out j u hu)) (by simp)).trans (HYC.out j u hu)) (one_ints yl) (by omega) (by omega) ?_; intro v2 w2 hown2 hC2 hf2; have HO2 := Lib.hid hown2; clear hown2; have HC2 := Lib.hid hC2; clear hC2; have HF2 := Lib.hid hf2; clear hf2))
  have hrow : row w2 3 1 v2 (m + k) (intCells AL) := by
    have := HO2.out
    rw [List.nil_append, ← HALC.out, Nat.zero_add] at this
    exact this
  obtain ⟨ab, ac, rfl⟩ := row.parts hrow (by omega)
  have hch : Ch [] w w2 := (H0.out.trans HC1.out (fun q hq => .inr (by simp at hq; omega))).trans HC2.out (fun q hq => .inr (by
    rcases HF1.out q (by simpa using hq) with e | e
    · simp at e; omega
    · have := H0.out.size; omega))
  have hb2 : blk w2 w.heap.size [.int .i64 mo, .slice ga gn gc] := (HB.out.ch HC1.out (by simp)).ch HC2.out (fun hk => by
    rcases HF1.out _ (by simpa using hk) with e | e
    · simp at e
    · simp at e; omega)
  have hsl := Sl.of_ints hrow (by omega)
  have HB2 := Lib.hid hb2; clear hb2
  have HCH := Lib.hid hch; clear hch
  have HSL := Lib.hid hsl; clear hsl hrow HO2 HC2 HF2 HO1 HC1 HF1 HB HO H0 HALC
  go_loopw [10] (fun i wr => ∃ j : Nat, j ≤ m + k ∧ i = .int .i64 j ∧ Ch [] w2 wr ∧ ∀ r ∈ AL.take j, q r = true) (fun i _ => m + k - (intOf i).toNat)
  case atStart => exact ⟨0, by omega, rfl, Ch.refl _ _, by simp⟩
  case round =>
    obtain ⟨j, hj, rfl, hc, hall⟩ := hrel
    by_cases hlt : j < m + k
    · obtain ⟨r, hr⟩ : ∃ r, AL[j]? = some r := ⟨_, List.getElem?_eq_getElem (by rw [HALN.out]; exact hlt)⟩
      obtain ⟨b9, o9, e9, hcl⟩ := HSL.out.cells j r hr
      cases e9
      rw [Nat.zero_add] at hcl
      have c0 := (hc.cell (cell_lt hcl) (by simp)).trans hcl
      have hb2 := HB2.out.ch hc (by simp)
      have y0 := hb2.cell (i := 0) rfl
      have y1 := hb2.cell (i := 1) rfl
      have hqq := HQ.out wr.drew r ((HCH.out.trans hc (by simp)).drew)
      have hsn : AL.take (j + 1) = AL.take j ++ [r] := by rw [List.take_add_one, hr]; rfl
      have hany : q r = false → AL.any (fun r => !q r) = true := fun e => List.any_eq_true.2 ⟨r, List.mem_of_getElem? hr, by rw [e]; rfl⟩
      have HC := Lib.hid hc; clear hc
      have HALL := Lib.hid hall; clear hall
      have HSN := Lib.hid hsn; clear hsn
      have HANY := Lib.hid hany; clear hany hcl hr hb2
      cases hqr : q r
      · rw [hqr] at hqq
        have HQQ := Lib.hid hqq; clear hqq
        have HQR := Lib.hid hqr; clear hqr
        go_wp2_with fail
        refine Ord.St.door (fun _ => True) [.rd, .fl, .fl, .fl, .rd, .ef, .fl] [0, 0, 0, 6, 14, 31, 63] [0, 1, 2, 3, 4, 5, 6] mixed (by kernel_rfl) rfl ?_
        refine Ord.St.rd2 (T' := ?_) 0 [1, 2, 3, 4, 5, 6] _ _ rfl (by kernel_rfl) rfl rfl rfl rfl (fun K hk => ?_) ?_
        rotate_left
        · go_step; exact hk
        refine Ord.St.fl2 (T' := ?_) 1 [2, 3, 4, 5, 6] _ _ rfl (by kernel_rfl) rfl rfl rfl rfl (fun K w' hk => ?_) ?_
        rotate_left
        · go_step; exact hk
        refine Ord.St.fl2 (T' := ?_) 2 [3, 4, 5, 6] _ _ rfl (by kernel_rfl) rfl rfl rfl rfl (fun K w' hk => ?_) ?_
        rotate_left
        · go_step; exact hk
        refine Ord.St.fl2 (T' := ?_) 3 [4, 5, 6] _ _ rfl (by kernel_rfl) rfl rfl rfl rfl (fun K w' hk => ?_) ?_
        rotate_left
        · go_step; exact hk
        refine Ord.St.rd2 (T' := ?_) 4 [5, 6] _ _ rfl (by kernel_rfl) rfl rfl rfl rfl (fun K hk => ?_) ?_
        rotate_left
        · go_step; exact hk
        refine Ord.St.ef 5 [6] _ rfl (by kernel_rfl) (fun K hK => ?_)
        go_wp2_with fail
        refine HQQ.out.mono ?_
        rintro e w5 ⟨rfl, hc5⟩
        have HC5 := Lib.hid hc5; clear hc5
        go_wp2_with fail
        refine ⟨rfl, hK _ _ ?_⟩; clear hK K
        refine Ord.St.fl2 (T' := ?_) 6 [] _ _ rfl (by kernel_rfl) rfl rfl rfl rfl (fun K w' hk => ?_) ?_
        rotate_left
        · go_step; exact hk
        refine Ord.St.nil ?_
        go_wp2_with fail
        go_ret
        exact ⟨by rw [show RES = 200 from by rw [HRES.out, HANY.out HQR.out]; rfl]; rfl, (HCH.out.trans HC.out (by simp)).trans (((Ch.refl [] wr).drew).trans HC5.out (by simp)) (by simp)⟩
      · rw [hqr] at hqq
        have HQQ := Lib.hid hqq; clear hqq
        have HQR := Lib.hid hqr; clear hqr
        go_wp2_with fail
        refine Ord.St.door (fun _ => True) [.rd, .fl, .fl, .fl, .rd, .ef, .fl] [0, 0, 0, 6, 14, 31, 63] [0, 1, 2, 3, 4, 5, 6] mixed (by kernel_rfl) rfl ?_
        refine Ord.St.rd2 (T' := ?_) 0 [1, 2, 3, 4, 5, 6] _ _ rfl (by kernel_rfl) rfl rfl rfl rfl (fun K hk => ?_) ?_
        rotate_left
        · go_step; exact hk
        refine Ord.St.fl2 (T' := ?_) 1 [2, 3, 4, 5, 6] _ _ rfl (by kernel_rfl) rfl rfl rfl rfl (fun K w' hk => ?_) ?_
        rotate_left
        · go_step; exact hk
        refine Ord.St.fl2 (T' := ?_) 2 [3, 4, 5, 6] _ _ rfl (by kernel_rfl) rfl rfl rfl rfl (fun K w' hk => ?_) ?_
        rotate_left
        · go_step; exact hk
        refine Ord.St.fl2 (T' := ?_) 3 [4, 5, 6] _ _ rfl (by kernel_rfl) rfl rfl rfl rfl (fun K w' hk => ?_) ?_
        rotate_left
        · go_step; exact hk
        refine Ord.St.rd2 (T' := ?_) 4 [5, 6] _ _ rfl (by kernel_rfl) rfl rfl rfl rfl (fun K hk => ?_) ?_
        rotate_left
        · go_step; exact hk
        refine Ord.St.ef 5 [6] _ rfl (by kernel_rfl) (fun K hK => ?_)
        go_wp2_with fail
        refine HQQ.out.mono ?_
        rintro e w5 ⟨rfl, hc5⟩
        have HC5 := Lib.hid hc5; clear hc5
        go_wp2_with fail
        refine ⟨rfl, hK _ _ ?_⟩; clear hK K
        refine Ord.St.fl2 (T' := ?_) 6 [] _ _ rfl (by kernel_rfl) rfl rfl rfl rfl (fun K w' hk => ?_) ?_
        rotate_left
        · go_step; exact hk
        refine Ord.St.nil ?_
        go_wp2_with fail
        go_roundw
        case rel => exact ⟨j + 1, by omega, by go_num, HC.out.trans (((Ch.refl [] wr).drew).trans HC5.out (by simp)) (by simp), fun x hx => by
          rw [HSN.out] at hx
          rcases List.mem_append.1 hx with hx | hx
          · exact HALL.out x hx
          · rw [List.mem_singleton.1 hx]; exact HQR.out⟩
        case measure => simp [intOf]; omega
    · have hany : AL.any (fun r => !q r) = false := by
        rw [List.take_of_length_le (by rw [HALN.out]; omega)] at hall
        rw [List.any_eq_false]
        intro x hx
        rw [hall x hx]
        simp
      have HANY := Lib.hid hany; clear hany
      have HC := Lib.hid hc; clear hc
      clear hall
      go_wp2_with fail
      go_ret
      exact ⟨by rw [show RES = 0 from by rw [HRES.out, HANY.out]; rfl]; rfl, HCH.out.trans HC.out (by simp)⟩
theorem r25Check_loop {mo : Int} {ga : Option Addr} {gn gc : Nat} (q : Int → Bool) (hq : ∀ W r, Ch [] w W → Calls Try.prog 128 #[.agg #[.int .i64 mo, .slice ga gn gc], .int .i64 r] W fun e w' => e = .returned (.bool (q r)) ∧ Ch [] W w')
    {side : Nat} (hs : side = 1 ∨ side = 2) {xa ya : Option Addr} {xl yl : List Int} (m xc k yc : Nat) (hX : Sl w xa xl) (hY : Sl w ya yl) (hm : xl.length = m) (hk : yl.length = k) (hr1 : rightB m = true) (hr2 : rightB k = true) :
    Calls Try.prog 95 #[.agg #[.int .i64 mo, .slice ga gn gc], .int .i64 side, .slice xa m xc, .slice ya k yc] w fun e w' => e = .returned (.int .i64 (if (xl ++ yl).any (fun r => !q r) then 200 else 0 : Nat)) ∧ Ch [] w w' := by
  rcases hs with rfl | rfl
  · exact r25Check_loop1 q hq m xc k yc hX hY hm hk hr1 hr2
  · exact r25Check_loop2 q hq m xc k yc hX hY hm hk hr1 hr2
set_option maxRecDepth 100000 in
set_option maxHeartbeats 4000000 in
theorem r25Check_is {mo : Int} {ga : Option Addr} {gn gc : Nat} (q : Int → Bool) (hq : ∀ W r, Ch [] w W → Calls Try.prog 128 #[.agg #[.int .i64 mo, .slice ga gn gc], .int .i64 r] W fun e w' => e = .returned (.bool (q r)) ∧ Ch [] W w')
    (side : Nat) {xa ya : Option Addr} {xl yl : List Int} (m xc k yc : Nat) (hX : Sl w xa xl) (hY : Sl w ya yl) (hm : xl.length = m) (hk : yl.length = k) :
    Calls Try.prog 95 #[.agg #[.int .i64 mo, .slice ga gn gc], .int .i64 side, .slice xa m xc, .slice ya k yc] w fun e w' => e = .returned (.int .i64 (chk25 q side xl yl)) ∧ Ch [] w w' := by
  have hR1 := fun W => r25Right_is (w := W) m
  have hR2 := fun W => r25Right_is (w := W) k
  have hck : chk25 q side xl yl = if side ≠ 1 ∧ side ≠ 2 then 251 else if rightB m = false ∨ rightB k = false then 250 else if (xl ++ yl).any (fun r => !q r) then 200 else 0 := by unfold chk25; rw [hm, hk]
  rw [hck]
  clear hck
  by_cases hs : side ≠ 1 ∧ side ≠ 2
  · rw [if_pos hs]
    have d1 : ((side : Int) != 1) = true := by simp; omega
    have d2 : ((side : Int) != 2) = true := by simp; omega
    clear hR1 hR2 hs hX hY hm hk hq
    go_enter Try.func95, Try.ntmps95
    go_wp2_with fail
    go_ret
    exact ⟨rfl, (Ch.refl _ _).alloc _⟩
  · rw [if_neg hs]
    have hs : side = 1 ∨ side = 2 := by omega
    cases hr1 : rightB m
    · rw [if_pos (.inl rfl)]
      rw [hr1] at hR1
      rcases hs with rfl | rfl
      · show Calls Try.prog 95 #[.agg #[.int .i64 mo, .slice ga gn gc], .int .i64 1, .slice xa m xc, .slice ya k yc] w _
        clear hR2 hX hY hm hk hq
        go_enter Try.func95, Try.ntmps95
        go_wp2_with fail
        refine (hR1 _).mono ?_
        rintro e w' ⟨rfl, rfl⟩
        go_wp2_with fail
        go_ret
        exact ⟨rfl, (Ch.refl _ _).alloc _⟩
      · show Calls Try.prog 95 #[.agg #[.int .i64 mo, .slice ga gn gc], .int .i64 2, .slice xa m xc, .slice ya k yc] w _
        clear hR2 hX hY hm hk hq
        go_enter Try.func95, Try.ntmps95
        go_wp2_with fail
        refine (hR1 _).mono ?_
        rintro e w' ⟨rfl, rfl⟩
        go_wp2_with fail
        go_ret
        exact ⟨rfl, (Ch.refl _ _).alloc _⟩
    · cases hr2 : rightB k
      · rw [if_pos (.inr rfl)]
        rw [hr1] at hR1
        rw [hr2] at hR2
        rcases hs with rfl | rfl
        · show Calls Try.prog 95 #[.agg #[.int .i64 mo, .slice ga gn gc], .int .i64 1, .slice xa m xc, .slice ya k yc] w _
          clear hX hY hm hk hq
          go_enter Try.func95, Try.ntmps95
          go_wp2_with fail
          refine (hR1 _).mono ?_
          rintro e w' ⟨rfl, rfl⟩
          go_wp2_with fail
          refine (hR2 _).mono ?_
          rintro e w' ⟨rfl, rfl⟩
          go_wp2_with fail
          go_ret
          exact ⟨rfl, (Ch.refl _ _).alloc _⟩
        · show Calls Try.prog 95 #[.agg #[.int .i64 mo, .slice ga gn gc], .int .i64 2, .slice xa m xc, .slice ya k yc] w _
          clear hX hY hm hk hq
          go_enter Try.func95, Try.ntmps95
          go_wp2_with fail
          refine (hR1 _).mono ?_
          rintro e w' ⟨rfl, rfl⟩
          go_wp2_with fail
          refine (hR2 _).mono ?_
          rintro e w' ⟨rfl, rfl⟩
          go_wp2_with fail
          go_ret
          exact ⟨rfl, (Ch.refl _ _).alloc _⟩
      · rw [if_neg (by simp)]
        have hz := r25Check_loop q hq hs m xc k yc hX hY hm hk hr1 hr2
        exact hz
set_option maxRecDepth 100000 in
set_option maxHeartbeats 400000 in
theorem rRight_zero (w : World) (r : Int) : Calls Try.prog 128 #[.agg #[.int .i64 0, .slice none 0 0], .int .i64 r] w fun e w' => e = .returned (.bool false) ∧ Ch [] w w' := by
  by_cases h0 : 0 ≤ r
  · have h1 : ¬ r < 0 := by omega
    go_enter Try.func128, Try.ntmps128
    go_wp2_with fail
    go_ret
    exact ⟨by simp [*], (Ch.refl _ _).alloc _⟩
  · go_enter Try.func128, Try.ntmps128
    go_wp2_with fail
    go_ret
    exact ⟨by simp [*], (Ch.refl _ _).alloc _⟩
set_option maxRecDepth 100000 in
set_option maxHeartbeats 4000000 in
theorem r25Fixed_is (side : Nat) {xa : Option Addr} {xl : List Int} (m xc : Nat) (n : Int) (hX : Sl w xa xl) (hm : xl.length = m) (hn : n ≤ 9223372036854775807) :
    Calls Try.prog 81 #[.int .i64 side, .slice xa m xc, .int .i64 n] w fun e w' => ∃ v, e = .returned (.tuple #[v, .int .i64 (fixE side xl n)]) ∧ INew w v (if fixE side xl n = 0 then shL side xl n.toNat else []) w' := by
  have hb : Sl (w.alloc (.cells #[.int .i64 0] 3)) (some ⟨w.heap.size, 0, none⟩) [0] := ⟨fun i x hx => ⟨w.heap.size, 0, rfl, by rw [Nat.zero_add]; exact (blk.new' (w := w) [.int .i64 0] 3 rfl).cell (by match i, hx with | 0, hx => simpa using hx)⟩, by simp⟩
  have hch : Ch [] w (w.alloc (.cells #[.int .i64 0] 3)) := (Ch.refl _ _).alloc _
  have hC := r25Check_is (w := w.alloc (.cells #[.int .i64 0] 3)) (mo := 0) (ga := none) (gn := 0) (gc := 0) (fun _ => false) (fun W r _ => rRight_zero W r) side m xc 1 1 (hX.ch hch (by simp)) hb hm rfl
  have hfe : fixE side xl n = if side ≠ 1 ∧ side ≠ 2 then 251 else if rightB m = false then 250 else if n < 0 then 2 else 0 := by unfold fixE; rw [hm]
  have hck : chk25 (fun _ => false) side xl [0] = if side ≠ 1 ∧ side ≠ 2 then 251 else if rightB m = false then 250 else 200 := by
    have h1 : rightB ((([0] : List Int).length : Nat) : Int) = true := rfl
    unfold chk25
    rw [h1, hm]
    simp
  rw [hck] at hC
  clear hck hb
  have HCH := Lib.hid hch; clear hch
  by_cases hs : side ≠ 1 ∧ side ≠ 2
  · rw [if_pos hs] at hfe hC
    rw [hfe, if_neg (by omega)]
    clear hfe hs hX hm
    go_enter Try.func81, Try.ntmps81
    go_wp2_with fail
    refine hC.mono ?_
    rintro e w1 ⟨rfl, hc⟩
    have HC := Lib.hid hc; clear hc hC
    go_wp2_with fail
    go_ret2
    exact ⟨_, rfl, INew.nil (HCH.out.trans HC.out (by simp))⟩
  · rw [if_neg hs] at hfe hC
    have hs : side = 1 ∨ side = 2 := by omega
    cases hr : rightB m
    · rw [hr] at hfe hC
      rw [if_pos rfl] at hfe hC
      rw [hfe, if_neg (by omega)]
      clear hfe hs hX hm hr
      go_enter Try.func81, Try.ntmps81
      go_wp2_with fail
      refine hC.mono ?_
      rintro e w1 ⟨rfl, hc⟩
      have HC := Lib.hid hc; clear hc hC
      go_wp2_with fail
      go_ret2
      exact ⟨_, rfl, INew.nil (HCH.out.trans HC.out (by simp))⟩
    · rw [hr] at hfe hC
      rw [if_neg (by simp)] at hfe hC
      by_cases hn0 : n < 0
      · rw [if_pos hn0] at hfe
        rw [hfe, if_neg (by omega)]
        have d : decide (n < 0) = true := decide_eq_true hn0
        clear hfe hs hX hm hr
        go_enter Try.func81, Try.ntmps81
        go_wp2_with fail
        refine hC.mono ?_
        rintro e w1 ⟨rfl, hc⟩
        have HC := Lib.hid hc; clear hc hC
        go_wp2_with fail
        go_ret2
        exact ⟨_, rfl, INew.nil (HCH.out.trans HC.out (by simp))⟩
      · rw [if_neg hn0] at hfe
        rw [hfe, if_pos rfl]
        obtain ⟨k, rfl⟩ : ∃ k : Nat, n = k := ⟨n.toNat, by omega⟩
        unfold rightB at hr
        simp only [Bool.and_eq_true, decide_eq_true_eq] at hr
        have hsh := fun W (hc : Ch [] w W) => r25Shifted_is (w := W) hs m xc k (hX.ch hc (by simp)) hm (by omega) (by omega)
        have HSH := Lib.hid hsh; clear hsh
        simp only [Int.toNat_natCast]
        have d : decide ((k : Int) < 0) = false := decide_eq_false hn0
        clear hfe hs hX hm hr
        go_enter Try.func81, Try.ntmps81
        go_wp2_with fail
        refine hC.mono ?_
        rintro e w1 ⟨rfl, hc⟩
        have HC := Lib.hid (HCH.out.trans hc (by simp)); clear hc hC
        go_wp2_with fail
        refine (HSH.out _ HC.out).mono ?_
        rintro e w2 ⟨v, rfl, hv⟩
        obtain ⟨va, vc, rfl, _⟩ := hv.parts (n := xl.length) (by simp)
        have HV := Lib.hid (hv.since HC.out); clear hv
        go_wp2_with fail
        go_ret2
        exact ⟨_, rfl, HV.out⟩
end
end Go.Proofs.Ytchledddgmbndaa
namespace Go.Proofs.Ytchledddgmbndaa
open Go.RowKit Go.Mem Go.Aig
/-- what a function of the reference's states leaves: a state, and a reference -/
def STo (w : World) (rb : Nat) (R : Mk × Nat) (e : Ending) (w' : World) : Prop := ∃ rb' cap', e = .returned (.tuple #[.agg #[.int .i64 R.1.1.most, .slice (some ⟨rb', 0, none⟩) R.1.1.nodes.length cap', .int .i64 R.1.2], .int .i64 R.2]) ∧ RG w' rb' cap' R.1.1 ∧ Ch [] w w' ∧ (rb' = rb ∨ w.heap.size ≤ rb')
theorem set3_ch {w W : World} {b : Nat} {u v x : Value} (h : W = ((w.setCell ⟨b, 0, none⟩ u).setCell ⟨b, 1, none⟩ v).setCell ⟨b, 2, none⟩ x) : Ch [b] w W := by rw [h]; exact (((Ch.refl [b] _).setCell (by simp) _).setCell (by simp) _).setCell (by simp) _
section
set_option maxRecDepth 100000 in
set_option maxHeartbeats 2000000 in
theorem r23step_is {w : World} {rb cap q : Nat} {G : Gra} (h : RG w rb cap G) {rb2 cap2 : Nat} {G2 : Gra} (h2 : RG w rb2 cap2 G2) (r e : Nat) :
    Calls Try.prog 152 #[.agg #[.int .i64 G.most, .slice (some ⟨rb, 0, none⟩) G.nodes.length cap, .int .i64 q], .agg #[.int .i64 G2.most, .slice (some ⟨rb2, 0, none⟩) G2.nodes.length cap2], .int .i64 r, .int .i64 e] w fun en w' => ∃ rb' cap', en = .returned (.tuple #[.agg #[.int .i64 (rstep (G, q) (G2, r, e)).1.1.most, .slice (some ⟨rb', 0, none⟩) (rstep (G, q) (G2, r, e)).1.1.nodes.length cap', .int .i64 (rstep (G, q) (G2, r, e)).1.2], .int .i64 (rstep (G, q) (G2, r, e)).2]) ∧ RG w' rb' cap' (rstep (G, q) (G2, r, e)).1.1 ∧ Ch [] w w' ∧ (rb' = rb ∨ rb' = rb2) := by
  have HH := Lib.hid h
  have HH2 := Lib.hid h2
  by_cases hq : q = 0
  · subst hq
    by_cases he : e = 0
    · subst he
      rw [rstep_ok (s := (G, 0)) (R := (G2, r, 0)) rfl rfl]
      clear h h2
      go_enter Try.func152, Try.ntmps152
      go_wp2_with fail
      refine bodyPost_ret (v := .tuple #[.agg #[.int .i64 G2.most, .slice (some ⟨rb2, 0, none⟩) G2.nodes.length cap2, .int .i64 0], .int .i64 r]) (by simp [results, Try.results152, go_sem]) rfl ?_
      refine (fun hc : Ch [] w _ => ⟨rb2, cap2, rfl, HH2.out.ch hc (by simp), hc, .inr rfl⟩) ?_
      repeat (first | exact Ch.refl _ _ | refine Ch.alloc ?_ _ | refine Ch.setCell ?_ (.inr (by simp <;> omega)) _)
    · have d : ((e : Int) != 0) = true := by simp [he]
      rw [rstep_no (s := (G, 0)) (R := (G2, r, e)) rfl he]
      clear h h2 he
      go_enter Try.func152, Try.ntmps152
      go_wp2_with fail
      refine bodyPost_ret (v := .tuple #[.agg #[.int .i64 G.most, .slice (some ⟨rb, 0, none⟩) G.nodes.length cap, .int .i64 e], .int .i64 0]) (by simp [results, Try.results152, go_sem]) rfl ?_
      refine (fun hc : Ch [] w _ => ⟨rb, cap, rfl, HH.out.ch hc (by simp), hc, .inl rfl⟩) ?_
      repeat (first | exact Ch.refl _ _ | refine Ch.alloc ?_ _ | refine Ch.setCell ?_ (.inr (by simp <;> omega)) _)
  · have d : ((q : Int) != 0) = true := by simp [hq]
    have d2 : ((q : Int) == 0) = false := by simp [hq]
    rw [rstep_bad (s := (G, q)) hq]
    clear h h2 hq
    go_enter Try.func152, Try.ntmps152
    go_wp2_with fail
    refine bodyPost_ret (v := .tuple #[.agg #[.int .i64 G.most, .slice (some ⟨rb, 0, none⟩) G.nodes.length cap, .int .i64 q], .int .i64 0]) (by simp [results, Try.results152, go_sem]) rfl ?_
    refine (fun hc : Ch [] w _ => ⟨rb, cap, rfl, HH.out.ch hc (by simp), hc, .inl rfl⟩) ?_
    repeat (first | exact Ch.refl _ _ | refine Ch.alloc ?_ _ | refine Ch.setCell ?_ (.inr (by simp <;> omega)) _)
set_option maxRecDepth 100000 in
set_option maxHeartbeats 2000000 in
theorem r23And_is {w : World} {rb cap q : Nat} {G : Gra} (h : RG w rb cap G) {a b : Nat} (ha : a < 2 * G.nodes.length) (hb : b < 2 * G.nodes.length) :
    Calls Try.prog 132 #[.agg #[.int .i64 G.most, .slice (some ⟨rb, 0, none⟩) G.nodes.length cap, .int .i64 q], .int .i64 a, .int .i64 b] w (STo w rb (rstep (G, q) (and G a b))) := by
  have hrb := h.lt
  have hA := fun (W : World) (hc : Ch [] w W) => rAnd_is (h.ch hc (by simp)) ha hb
  generalize and G a b = X at *
  obtain ⟨G1, r1, e1⟩ := X
  have HA := Lib.hid hA; clear hA
  have H := Lib.hid h; clear h ha hb
  go_enter Try.func132, Try.ntmps132
  go_wp2_with fail
  refine calls_named fun W hW => ?_
  have b3 : blk W w.heap.size [.int .i64 G.most, .slice (some ⟨rb, 0, none⟩) G.nodes.length cap, .int .i64 q] := by rw [hW]; exact (blk.new' _ _ (by simp)).alloc _
  have b6 : blk W (w.heap.size + 1) [.int .i64 0, .slice none 0 0, .int .i64 0] := by rw [hW]; exact blk.new' _ _ (by simp)
  have hc : Ch [] w W := by rw [hW]; exact ((Ch.refl _ _).alloc _).alloc _
  clear hW
  refine (HA.out W hc).mono ?_
  rintro e w1 ⟨rb1, cap1, rfl, hrg1, hch1, hfr1⟩
  have hz := b6.lt
  have b3 := b3.ch hch1 (by simp)
  have b6 := b6.ch hch1 (by simp)
  have hz1 := b6.lt
  have hz0 := b3.lt
  have x0 := b3.cell (i := 0) rfl
  have x1 := b3.cell (i := 1) rfl
  have x2 := b3.cell (i := 2) rfl
  have hc1 := hc.trans hch1 (by simp)
  have B6 := Lib.hid b6; clear b6 b3
  have HC1 := Lib.hid hc1; clear hc1
  have HRG1 := Lib.hid hrg1; clear hrg1
  have hne : rb1 ≠ w.heap.size + 1 := by rcases hfr1 with e | e <;> omega
  have hfr2 : rb1 = rb ∨ w.heap.size ≤ rb1 := by have := hc.size; rcases hfr1 with e | e <;> omega
  clear hch1 hc HA hfr1
  go_wp2_with fail
  refine calls_named fun W2 hW2 => ?_
  have hc2 : Ch [] w1 W2 := by rw [hW2]; exact (Ch.refl _ _).alloc _
  clear hW2
  have hS := r23step_is (q := q) (H.out.ch (HC1.out.trans hc2 (by simp)) (by simp)) (HRG1.out.ch hc2 (by simp)) r1 e1
  refine hS.mono ?_
  rintro e w2 ⟨rb', cap', rfl, hrg', hch', hfr'⟩
  generalize rstep (G, q) (G1, r1, e1) = R at *
  have b6 := (B6.out.ch hc2 (by simp)).ch hch' (by simp)
  have z0 := b6.cell (i := 0) rfl
  have z1 := b6.cell (i := 1) rfl
  have z2 := b6.cell (i := 2) rfl
  have f0 := b6.frozen (i := 0)
  have f1 := b6.frozen (i := 1)
  have f2 := b6.frozen (i := 2)
  have HC2 := Lib.hid ((HC1.out.trans hc2 (by simp)).trans hch' (by simp))
  have HRG' := Lib.hid hrg'; clear hrg' hch' hc2 hS b6 B6 HC1 HRG1 x0 x1 x2
  go_wp2_with fail
  have hcc := set3_ch (w := w2) (b := w.heap.size + 1) (u := .int .i64 R.1.1.most) (v := .slice (some ⟨rb', 0, none⟩) R.1.1.nodes.length cap') (x := .int .i64 R.1.2) rfl
  refine bodyPost_ret (v := .tuple #[.agg #[.int .i64 R.1.1.most, .slice (some ⟨rb', 0, none⟩) R.1.1.nodes.length cap', .int .i64 R.1.2], .int .i64 R.2]) (by simp [results, Try.results132, go_sem, z0, z1, z2]) rfl ?_
  exact ⟨rb', cap', rfl, HRG'.out.ch hcc (by simp; rcases hfr' with e | e <;> omega), HC2.out.trans hcc (fun k hk => .inr (by simp at hk; omega)), by rcases hfr' with e | e <;> omega⟩
set_option maxRecDepth 100000 in
set_option maxHeartbeats 2000000 in
theorem r23Mux_is {w : World} {rb cap q : Nat} {G : Gra} (h : RG w rb cap G) {c a b : Nat} (hc : c < 2 * G.nodes.length) (ha : a < 2 * G.nodes.length) (hb : b < 2 * G.nodes.length) :
    Calls Try.prog 130 #[.agg #[.int .i64 G.most, .slice (some ⟨rb, 0, none⟩) G.nodes.length cap, .int .i64 q], .int .i64 c, .int .i64 a, .int .i64 b] w (STo w rb (rstep (G, q) (rMux G c a b))) := by
  have hrb := h.lt
  have hA := fun (W : World) (h0 : Ch [] w W) => rMux_is (h.ch h0 (by simp)) hc ha hb
  generalize rMux G c a b = X at *
  obtain ⟨G1, r1, e1⟩ := X
  have HA := Lib.hid hA; clear hA
  have H := Lib.hid h; clear h hc ha hb
  go_enter Try.func130, Try.ntmps130
  go_wp2_with fail
  refine calls_named fun W hW => ?_
  have b3 : blk W w.heap.size [.int .i64 G.most, .slice (some ⟨rb, 0, none⟩) G.nodes.length cap, .int .i64 q] := by rw [hW]; exact (blk.new' _ _ (by simp)).alloc _
  have b6 : blk W (w.heap.size + 1) [.int .i64 0, .slice none 0 0, .int .i64 0] := by rw [hW]; exact blk.new' _ _ (by simp)
  have hc : Ch [] w W := by rw [hW]; exact ((Ch.refl _ _).alloc _).alloc _
  clear hW
  refine (HA.out W hc).mono ?_
  rintro e w1 ⟨rb1, cap1, rfl, hrg1, hch1, hfr1⟩
  have hz := b6.lt
  have b3 := b3.ch hch1 (by simp)
  have b6 := b6.ch hch1 (by simp)
  have hz1 := b6.lt
  have hz0 := b3.lt
  have x0 := b3.cell (i := 0) rfl
  have x1 := b3.cell (i := 1) rfl
  have x2 := b3.cell (i := 2) rfl
  have hc1 := hc.trans hch1 (by simp)
  have B6 := Lib.hid b6; clear b6 b3
  have HC1 := Lib.hid hc1; clear hc1
  have HRG1 := Lib.hid hrg1; clear hrg1
  have hne : rb1 ≠ w.heap.size + 1 := by rcases hfr1 with e | e <;> omega
  have hfr2 : rb1 = rb ∨ w.heap.size ≤ rb1 := by have := hc.size; rcases hfr1 with e | e <;> omega
  clear hch1 hc HA hfr1
  go_wp2_with fail
  refine calls_named fun W2 hW2 => ?_
  have hc2 : Ch [] w1 W2 := by rw [hW2]; exact (Ch.refl _ _).alloc _
  clear hW2
  have hS := r23step_is (q := q) (H.out.ch (HC1.out.trans hc2 (by simp)) (by simp)) (HRG1.out.ch hc2 (by simp)) r1 e1
  refine hS.mono ?_
  rintro e w2 ⟨rb', cap', rfl, hrg', hch', hfr'⟩
  generalize rstep (G, q) (G1, r1, e1) = R at *
  have b6 := (B6.out.ch hc2 (by simp)).ch hch' (by simp)
  have z0 := b6.cell (i := 0) rfl
  have z1 := b6.cell (i := 1) rfl
  have z2 := b6.cell (i := 2) rfl
  have f0 := b6.frozen (i := 0)
  have f1 := b6.frozen (i := 1)
  have f2 := b6.frozen (i := 2)
  have HC2 := Lib.hid ((HC1.out.trans hc2 (by simp)).trans hch' (by simp))
  have HRG' := Lib.hid hrg'; clear hrg' hch' hc2 hS b6 B6 HC1 HRG1 x0 x1 x2
  go_wp2_with fail
  have hcc := set3_ch (w := w2) (b := w.heap.size + 1) (u := .int .i64 R.1.1.most) (v := .slice (some ⟨rb', 0, none⟩) R.1.1.nodes.length cap') (x := .int .i64 R.1.2) rfl
  refine bodyPost_ret (v := .tuple #[.agg #[.int .i64 R.1.1.most, .slice (some ⟨rb', 0, none⟩) R.1.1.nodes.length cap', .int .i64 R.1.2], .int .i64 R.2]) (by simp [results, Try.results130, go_sem, z0, z1, z2]) rfl ?_
  exact ⟨rb', cap', rfl, HRG'.out.ch hcc (by simp; rcases hfr' with e | e <;> omega), HC2.out.trans hcc (fun k hk => .inr (by simp at hk; omega)), by rcases hfr' with e | e <;> omega⟩
set_option maxRecDepth 100000 in
set_option maxHeartbeats 2000000 in
theorem r23Any_is {w : World} {rb cap q : Nat} {G : Gra} (h : RG w rb cap G) {x : Option Addr} {l : List Nat} (n acap : Nat) (hn : l.length = n) (hs : Sl w x (l.map fun (r : Nat) => (r : Int))) (hr : ∀ r ∈ l, r < 2 * G.nodes.length) (hm : n ≤ 1000000) :
    Calls Try.prog 131 #[.agg #[.int .i64 G.most, .slice (some ⟨rb, 0, none⟩) G.nodes.length cap, .int .i64 q], .slice x n acap] w (STo w rb (rstep (G, q) (rAny G l))) := by
  have hrb := h.lt
  have hA := fun (W : World) (h0 : Ch [] w W) => rAny_is (h.ch h0 (by simp)) n acap hn (hs.ch h0 (by simp)) hr hm
  generalize rAny G l = X at *
  obtain ⟨G1, r1, e1⟩ := X
  have HA := Lib.hid hA; clear hA
  have H := Lib.hid h; clear h hs hr hn
  go_enter Try.func131, Try.ntmps131
  go_wp2_with fail
  refine calls_named fun W hW => ?_
  have b3 : blk W w.heap.size [.int .i64 G.most, .slice (some ⟨rb, 0, none⟩) G.nodes.length cap, .int .i64 q] := by rw [hW]; exact (blk.new' _ _ (by simp)).alloc _
  have b6 : blk W (w.heap.size + 1) [.int .i64 0, .slice none 0 0, .int .i64 0] := by rw [hW]; exact blk.new' _ _ (by simp)
  have hc : Ch [] w W := by rw [hW]; exact ((Ch.refl _ _).alloc _).alloc _
  clear hW
  refine (HA.out W hc).mono ?_
  rintro e w1 ⟨rb1, cap1, rfl, hrg1, hch1, hfr1⟩
  have hz := b6.lt
  have b3 := b3.ch hch1 (by simp)
  have b6 := b6.ch hch1 (by simp)
  have hz1 := b6.lt
  have hz0 := b3.lt
  have x0 := b3.cell (i := 0) rfl
  have x1 := b3.cell (i := 1) rfl
  have x2 := b3.cell (i := 2) rfl
  have hc1 := hc.trans hch1 (by simp)
  have B6 := Lib.hid b6; clear b6 b3
  have HC1 := Lib.hid hc1; clear hc1
  have HRG1 := Lib.hid hrg1; clear hrg1
  have hne : rb1 ≠ w.heap.size + 1 := by rcases hfr1 with e | e <;> omega
  have hfr2 : rb1 = rb ∨ w.heap.size ≤ rb1 := by have := hc.size; rcases hfr1 with e | e <;> omega
  clear hch1 hc HA hfr1
  go_wp2_with fail
  refine calls_named fun W2 hW2 => ?_
  have hc2 : Ch [] w1 W2 := by rw [hW2]; exact (Ch.refl _ _).alloc _
  clear hW2
  have hS := r23step_is (q := q) (H.out.ch (HC1.out.trans hc2 (by simp)) (by simp)) (HRG1.out.ch hc2 (by simp)) r1 e1
  refine hS.mono ?_
  rintro e w2 ⟨rb', cap', rfl, hrg', hch', hfr'⟩
  generalize rstep (G, q) (G1, r1, e1) = R at *
  have b6 := (B6.out.ch hc2 (by simp)).ch hch' (by simp)
  have z0 := b6.cell (i := 0) rfl
  have z1 := b6.cell (i := 1) rfl
  have z2 := b6.cell (i := 2) rfl
  have f0 := b6.frozen (i := 0)
  have f1 := b6.frozen (i := 1)
  have f2 := b6.frozen (i := 2)
  have HC2 := Lib.hid ((HC1.out.trans hc2 (by simp)).trans hch' (by simp))
  have HRG' := Lib.hid hrg'; clear hrg' hch' hc2 hS b6 B6 HC1 HRG1 x0 x1 x2
  go_wp2_with fail
  have hcc := set3_ch (w := w2) (b := w.heap.size + 1) (u := .int .i64 R.1.1.most) (v := .slice (some ⟨rb', 0, none⟩) R.1.1.nodes.length cap') (x := .int .i64 R.1.2) rfl
  refine bodyPost_ret (v := .tuple #[.agg #[.int .i64 R.1.1.most, .slice (some ⟨rb', 0, none⟩) R.1.1.nodes.length cap', .int .i64 R.1.2], .int .i64 R.2]) (by simp [results, Try.results131, go_sem, z0, z1, z2]) rfl ?_
  exact ⟨rb', cap', rfl, HRG'.out.ch hcc (by simp; rcases hfr' with e | e <;> omega), HC2.out.trans hcc (fun k hk => .inr (by simp at hk; omega)), by rcases hfr' with e | e <;> omega⟩
end
end Go.Proofs.Ytchledddgmbndaa
namespace Go.Aig
theorem stepsN_ex (w : Nat) : ∀ bits, ∃ k, k ≤ bits ∧ (∀ j, j < k → 2 ^ j < w) ∧ (k = bits ∨ w ≤ 2 ^ k)
  | 0 => ⟨0, by omega, by omega, .inl rfl⟩
  | n + 1 => by
    obtain ⟨k, h1, h2, h3⟩ := stepsN_ex w n
    by_cases hk : k = n
    · by_cases h : 2 ^ k < w
      · exact ⟨k + 1, by omega, fun j hj => (by omega : j < k ∨ j = k).elim (h2 j) (fun e => e ▸ h), .inl (by omega)⟩
      · exact ⟨k, by omega, h2, .inr (by omega)⟩
    · exact ⟨k, by omega, h2, .inr (h3.resolve_left hk)⟩
theorem stepsN_iff {w bits k : Nat} (hk : k < bits) : 2 ^ k < w ↔ k < stepsN w bits := by
  obtain ⟨m, h1, h2, h3⟩ := stepsN_ex w bits
  rw [stepsN_at h2 h1 h3]
  constructor
  · intro h
    by_cases hm : k < m
    · exact hm
    · rcases h3 with e | e
      · omega
      · have : 2 ^ m ≤ 2 ^ k := Nat.pow_le_pow_right (by omega) (by omega)
        omega
  · exact h2 k
theorem eachF_sok {G : Gra} {s : Mk} (hs : SOk G s) {f : Gra → Nat → Nat → Res} (hf : Full2 f) (l : List (Nat × Nat)) (hl : ∀ p ∈ l, p.1 < 2 * s.1.nodes.length ∧ p.2 < 2 * s.1.nodes.length) : LOk s.1 (eachF (rop f) s l) := by
  have : ∀ (l : List (Nat × Nat)) (q : Mk × List Nat), LOk s.1 q → (∀ p ∈ l, p.1 < 2 * s.1.nodes.length ∧ p.2 < 2 * s.1.nodes.length) → LOk s.1 (l.foldl (eachS (rop f)) q) := by
    intro l
    induction l with
    | nil => intro q h _; exact h
    | cons p l ih =>
      intro q h hl
      obtain ⟨h1, h2⟩ := hl p (List.mem_cons_self ..)
      obtain ⟨k1, k2, k3⟩ := rstep_sok h.s (Y := f q.1.1 p.1 p.2) (fun _ => hf q.1.1 h.s.ok p.1 p.2 (h.s.ext.lt h1) (h.s.ext.lt h2))
      exact ih _ (LOk.snoc h k1 k3 k2) (fun p hp => hl p (List.mem_cons_of_mem _ hp))
  exact this l _ ⟨⟨hs.ok, .refl _, hs.err⟩, by simp⟩ hl
end Go.Aig
namespace Go.Proofs.Ytchledddgmbndaa
open Go.RowKit Go.Mem Go.Aig
/-- what By of the reference leaves: a state, and a word -/
def BTo (w : World) (rb : Nat) (xa : Option Addr) (R : Mk × List Nat) (e : Ending) (w' : World) : Prop := ∃ rb' cap' a c, e = .returned (.tuple #[.agg #[.int .i64 R.1.1.most, .slice (some ⟨rb', 0, none⟩) R.1.1.nodes.length cap', .int .i64 R.1.2], .slice a R.2.length c]) ∧ RG w' rb' cap' R.1.1 ∧ Ch [] w w' ∧ (rb' = rb ∨ w.heap.size ≤ rb') ∧ Sl w' a (natInts R.2) ∧ ∀ p, a = some p → xa = some p ∨ w.heap.size ≤ p.block
theorem sl_lt {w : World} {a : Option Addr} {l : List Int} (h : Sl w a l) (h0 : 0 < l.length) : ∀ p, a = some p → p.block < w.heap.size := fun p hp => by
  obtain ⟨b, o, e, hc⟩ := h.cells 0 _ (List.getElem?_eq_getElem h0)
  rw [hp] at e; cases e
  exact cell_lt hc
theorem natInts_snoc (l : List Nat) (r : Nat) : intCells (natInts (l ++ [r])) = intCells (natInts l) ++ [.int .i64 r] := by simp [intCells, natInts]
section
variable {w : World}
set_option maxRecDepth 100000 in
set_option maxHeartbeats 8000000 in
theorem r25By_is {rb cap : Nat} {G : Gra} (h : RG w rb cap G) {side : Nat} (hs : side = 1 ∨ side = 2) {xa ya : Option Addr} {X Y : List Nat} (n m xc yc : Nat) (hX : Sl w xa (natInts X)) (hY : Sl w ya (natInts Y)) (hn : X.length = n) (hm : Y.length = m) (hn1 : 1 ≤ n) (hn16 : n ≤ 16) (hm1 : 1 ≤ m) (hm16 : m ≤ 16) (hxr : ∀ r ∈ X, r < 2 * G.nodes.length) (hyr : ∀ r ∈ Y, r < 2 * G.nodes.length) :
    Calls Try.prog 96 #[.agg #[.int .i64 G.most, .slice (some ⟨rb, 0, none⟩) G.nodes.length cap, .int .i64 0], .int .i64 side, .slice xa n xc, .slice ya m yc] w (BTo w rb xa (moveF side (G, 0) X Y)) := by
  have hok := h.ok
  have hpos := hok.wf.pos
  have hrb := h.lt
  have hxlt := sl_lt hX (by simp [natInts, hn]; omega)
  obtain ⟨K, hK⟩ : ∃ K, K = stepsN n m := ⟨_, rfl⟩
  have hKm : K ≤ m := by rw [hK]; exact stepsN_le n m
  have hiff := fun k (hk : k < m) => stepsN_iff (w := n) hk
  rw [← hK] at hiff
  have hmf := @moveF_full side (G, 0) X Y
  have hmh := @moveF_high side (G, 0) X Y
  rw [hn, hm, ← hK] at hmf hmh
  have hlok := fun cs => movF_lok hok (side := side) (x := X) (cs := cs) hxr
  have hlen := fun cs => movF_len side (G, 0) X cs
  rw [hn] at hlen
  have hsnoc := fun cs c => movF_snoc side (G, 0) X cs c
  have hst0 : movF side (G, 0) X [] = ((G, 0), X) := rfl
  obtain ⟨MV, hMV⟩ : ∃ MV : List Nat → Mk × List Nat, MV = movF side (G, 0) X := ⟨_, rfl⟩
  rw [← hMV] at hmf hmh hlok hlen hsnoc hst0
  obtain ⟨RR, hRR⟩ : ∃ RR, RR = moveF side (G, 0) X Y := ⟨_, rfl⟩
  rw [← hRR] at hmf hmh ⊢
  have hshift := fun (W : World) (a : Option Addr) (c k : Nat) (l : List Nat) (hl : l.length = n) (hk : k ≤ 16) (hsl : Sl W a (natInts l)) => r25Shifted_is (w := W) hs (xl := natInts l) n c (2 ^ k) hsl (by simp [hl]) hn16 (Nat.le_trans (Nat.pow_le_pow_right (by omega) hk) (by decide))
  simp only [shL_nat] at hshift
  clear hMV hRR hK
  have H := Lib.hid h; clear h
  have HX := Lib.hid hX; clear hX
  have HY := Lib.hid hY; clear hY
  have HN := Lib.hid hn; clear hn
  have HM := Lib.hid hm; clear hm
  have HXR := Lib.hid hxr; clear hxr
  have HYR := Lib.hid hyr; clear hyr
  have HXLT := Lib.hid hxlt; clear hxlt
  have HIFF := Lib.hid hiff; clear hiff
  have HMF := Lib.hid hmf; clear hmf
  have HMH := Lib.hid hmh; clear hmh
  have HLOK := Lib.hid hlok; clear hlok
  have HLEN := Lib.hid hlen; clear hlen
  have HSNOC := Lib.hid hsnoc; clear hsnoc
  have HST0 := Lib.hid hst0; clear hst0
  have HSHIFT := Lib.hid hshift; clear hshift
  have HS := Lib.hid hs; clear hs
  have HOK := Lib.hid hok; clear hok
  go_enter Try.func96, Try.ntmps96
  go_wp2_with fail
  refine wp_alw ?_
  intro W0 hW0
  have b4 : blk W0 w.heap.size [.int .i64 G.most, .slice (some ⟨rb, 0, none⟩) G.nodes.length cap, .int .i64 0] := by rw [hW0]; exact (blk.new' _ _ (by simp)).alloc _
  have b8 : blk W0 (w.heap.size + 1) [.int .i64 0, .slice none 0 0, .int .i64 0] := by rw [hW0]; exact blk.new' _ _ (by simp)
  have hc0 : Ch [] w W0 := by rw [hW0]; exact ((Ch.refl _ _).alloc _).alloc _
  have hz0 : W0.heap.size = w.heap.size + 2 := by rw [hW0]; simp
  clear hW0
  have B4 := Lib.hid b4; clear b4
  have B8 := Lib.hid b8; clear b8
  have HC0 := Lib.hid hc0; clear hc0
  go_loopw [2, 10, 11] (fun x hi i wr => ∃ (k : Nat) (xk : Option Addr) (xck rbk capk B : Nat), k ≤ m ∧ i = .int .i64 k ∧ x = .slice xk n xck ∧
    row wr 3 1 hi ((Y.take k).drop K).length (intCells (natInts ((Y.take k).drop K))) ∧ (k ≤ K → hi = .slice none 0 0) ∧ Sl wr xk (natInts (MV (Y.take (min k K))).2) ∧ RG wr rbk capk (MV (Y.take (min k K))).1.1 ∧ (rbk = rb ∨ w.heap.size + 2 ≤ rbk) ∧
    blk wr w.heap.size [.int .i64 (MV (Y.take (min k K))).1.1.most, .slice (some ⟨rbk, 0, none⟩) (MV (Y.take (min k K))).1.1.nodes.length capk, .int .i64 (MV (Y.take (min k K))).1.2] ∧ blk wr (w.heap.size + 1) [.int .i64 0, .slice none 0 0, .int .i64 0] ∧ Ch [] w wr ∧
    w.heap.size + 2 ≤ B ∧ B ≤ wr.heap.size ∧ (∀ q ∈ hi.ownBlock.toList, B ≤ q) ∧ (∀ p, xk = some p → p.block < B ∧ (xa = some p ∨ w.heap.size + 2 ≤ p.block)) ∧ rbk < B) (fun _ _ i _ => m - (intOf i).toNat)
  case atStart => exact ⟨0, xa, xc, rb, cap, w.heap.size + 2, by omega, rfl, rfl, by simpa [natInts, intCells, row] using World.ownsRow_nil W0 0 3 1, fun _ => rfl, by rw [Nat.zero_min, List.take_zero, HST0.out]; exact HX.out.ch HC0.out (by simp), by rw [Nat.zero_min, List.take_zero, HST0.out]; exact H.out.ch HC0.out (by simp), .inl rfl, by rw [Nat.zero_min, List.take_zero, HST0.out]; exact B4.out, B8.out, HC0.out, by omega, by omega, by simp, fun p hp => ⟨by have := HXLT.out p hp; omega, .inl hp⟩, by omega⟩
  case round =>
    obtain ⟨k, xk, xck, rbk, capk, B, hk, rfl, rfl, hrow, hnil, hxk, hrg, hfr, b4, b8, hc, hB1, hB2, hBh, hBx, hBr⟩ := hrel
    obtain ⟨ha, hcap, rfl⟩ := row.shape hrow
    clear B4 B8 HC0
    obtain ⟨L, hL⟩ : ∃ L, L = (Y.take k).drop K := ⟨_, rfl⟩
    have hLl : L.length = k - K := by rw [hL, List.length_drop, List.length_take, HM.out]; omega
    rw [← hL]
    rw [← hL] at hrow hnil hBh
    have hmi : min k K ≤ K := Nat.min_le_right _ _
    by_cases hlt : k < m
    · obtain ⟨c, hcx⟩ : ∃ c, Y[k]? = some c := ⟨_, List.getElem?_eq_getElem (by rw [HM.out]; exact hlt)⟩
      have hcm := HYR.out c (List.mem_of_getElem? hcx)
      obtain ⟨yb, yo, hya, hyc⟩ := HY.out.cells k (c : Int) (by simp [natInts, hcx])
      have c0 : wr.cell? ⟨yb, yo + k, none⟩ = some (.int .i64 c) := (hc.cell (cell_lt hyc) (by simp)).trans hyc
      have hyl := cell_lt hyc
      simp only at hyl
      subst hya
      have hpw := fun (W : World) => r25Power_is (w := W) k (by omega)
      have hif := HIFF.out k hlt
      have htk : Y.take (k + 1) = Y.take k ++ [c] := by rw [List.take_add_one, hcx]; rfl
      have hsh := fun W a c l hl hsl => HSHIFT.out W a c k l hl (by omega) hsl
      obtain ⟨P, hP⟩ : ∃ P, P = 2 ^ k := ⟨_, rfl⟩
      rw [← hP] at hif
      simp only [← hP] at hpw hsh
      by_cases hkK : k < K
      · have hPn : P < n := hif.2 hkK
        have d : decide ((n : Int) ≤ P) = false := decide_eq_false (by omega)
        have hn0 := hnil (by omega)
        obtain ⟨hn1', hn2', hn3'⟩ : ha = none ∧ L.length = 0 ∧ hcap = 0 := by simpa using hn0
        subst hn1' hn3'
        obtain rfl : L = [] := List.eq_nil_of_length_eq_zero hn2'
        simp only [List.length_nil]
        rw [show min k K = k by omega] at hxk hrg b4
        have hnext := HSNOC.out (Y.take k) c
        rw [← htk, List.length_take, HM.out, show min k m = k by omega] at hnext
        have hlokS := HLOK.out (Y.take k)
        have hlenS := HLEN.out (Y.take k)
        generalize MV (Y.take k) = ST at hxk hrg b4 hnext hlokS hlenS
        obtain ⟨⟨G1, q1⟩, l⟩ := ST
        simp only at hxk hrg b4 hlenS
        unfold movS at hnext
        simp only [← hP] at hnext
        have hshc := hsh wr xk xck l hlenS hxk
        have hG1 := hrg.ok
        have hcm1 : c < 2 * G1.nodes.length := hlokS.s.ext.lt hcm
        have hll : ∀ r ∈ l, r < 2 * G1.nodes.length := hlokS.lt
        have hmvl : ∀ r ∈ shN side l P, r < 2 * G1.nodes.length := shN_lt hll (by have := hG1.wf.pos; omega)
        obtain ⟨Z, hZ⟩ : ∃ Z, Z = l.zip (shN side l P) := ⟨_, rfl⟩
        have hZl : Z.length = n := by rw [hZ, List.length_zip, shN_len, hlenS]; omega
        have hZlt : ∀ p ∈ Z, p.1 < 2 * G1.nodes.length ∧ p.2 < 2 * G1.nodes.length := by rw [hZ]; exact zip_lt hll hmvl
        have hElok := fun z (hz : ∀ p ∈ z, p ∈ Z) => eachF_sok (G := G) (s := (G1, q1)) hlokS.s (full_mux c) z (fun p hp => hZlt p (hz p hp))
        have hEsn := fun z a b => eachF_snoc (rop (muxOf c)) (G1, q1) z (a, b)
        have hE0 : eachF (rop (muxOf c)) (G1, q1) [] = ((G1, q1), []) := rfl
        have hElen := fun z => eachF_len (rop (muxOf c)) (G1, q1) z
        have hZG : ∀ (j a b : Nat), Z[j]? = some (a, b) → l[j]? = some a ∧ (shN side l P)[j]? = some b := fun j a b h => by rw [hZ] at h; exact List.getElem?_zip_eq_some.1 h
        rw [← hZ] at hnext
        obtain ⟨E, hE⟩ : ∃ E : List (Nat × Nat) → Mk × List Nat, E = eachF (rop (muxOf c)) (G1, q1) := ⟨_, rfl⟩
        rw [← hE] at hElok hEsn hE0 hElen hnext
        have hext1 := hlokS.s.ext
        clear hE hZ hP hrow hL hnil hlokS htk hif hsh
        have HPW := Lib.hid hpw; clear hpw
        have HSHC := Lib.hid hshc; clear hshc
        have HNEXT := Lib.hid hnext; clear hnext
        have HELOK := Lib.hid hElok; clear hElok
        have HESN := Lib.hid hEsn; clear hEsn
        have HE0 := Lib.hid hE0; clear hE0
        have HELEN := Lib.hid hElen; clear hElen
        have HZL := Lib.hid hZl; clear hZl
        have HZG := Lib.hid hZG; clear hZG
        have HLL := Lib.hid hlenS; clear hlenS
        have HCX := Lib.hid hcx; clear hcx
        have HXK := Lib.hid hxk; clear hxk
        have HRG := Lib.hid hrg; clear hrg
        have B4 := Lib.hid b4; clear b4
        have B8 := Lib.hid b8; clear b8
        have HC := Lib.hid hc; clear hc
        go_wp2_with fail
        refine (HPW.out _).mono ?_
        rintro e w' ⟨rfl, rfl⟩
        go_wp2_with fail
        refine (HPW.out _).mono ?_
        rintro e w' ⟨rfl, rfl⟩
        go_wp2_with fail
        refine HSHC.out.mono ?_
        rintro e w1 ⟨v, rfl, hv⟩
        obtain ⟨ma, mc, rfl, hmr, hmlo, hmch⟩ := hv.parts (n := n) (by simp [HLL.out])
        have hmsl := Sl.of_ints hmr (by omega)
        have hxk1 := HXK.out.ch hmch (by simp)
        have hrg1 := HRG.out.ch hmch (by simp)
        have b41 := B4.out.ch hmch (by simp)
        have b81 := B8.out.ch hmch (by simp)
        have hc1 := HC.out.trans hmch (by simp)
        have c01 := (hmch.cell (cell_lt c0) (by simp)).trans c0
        have hz1 := hmch.size
        have hmne : ∀ p, ma = some p → p.block ≠ w.heap.size := fun p hp => by subst hp; have := hmlo p.block (by simp); omega
        have HMNE := Lib.hid hmne; clear hmne
        have HBX := Lib.hid hBx; clear hBx
        clear B4 B8 HC HXK HRG c0 hv hmr hmlo hmch HSHC HPW
        have HMSL := Lib.hid hmsl; clear hmsl
        have HXK1 := Lib.hid hxk1; clear hxk1
        have HRG1 := Lib.hid hrg1; clear hrg1
        have B41 := Lib.hid b41; clear b41
        have B81 := Lib.hid b81; clear b81
        have HC1 := Lib.hid hc1; clear hc1
        have C01 := Lib.hid c01; clear c01
        go_wp2_with fail
        go_loopw [13, 14] (fun nx i wq => ∃ (j rbi capi : Nat), j ≤ n ∧ i = .int .i64 j ∧ row wq 3 1 nx j (intCells (natInts (E (Z.take j)).2)) ∧ RG wq rbi capi (E (Z.take j)).1.1 ∧ (rbi = rb ∨ w.heap.size + 2 ≤ rbi) ∧
          blk wq w.heap.size [.int .i64 (E (Z.take j)).1.1.most, .slice (some ⟨rbi, 0, none⟩) (E (Z.take j)).1.1.nodes.length capi, .int .i64 (E (Z.take j)).1.2] ∧ blk wq (w.heap.size + 1) [.int .i64 0, .slice none 0 0, .int .i64 0] ∧ Ch [] w wq ∧ Ch [w.heap.size] w1 wq ∧ (∀ q ∈ nx.ownBlock.toList, w1.heap.size ≤ q ∧ q ≠ rbi)) (fun _ i _ => n - (intOf i).toNat)
        case atStart => exact ⟨0, rbk, capk, by omega, rfl, by rw [List.take_zero, HE0.out]; exact ⟨rfl, .inl ⟨rfl, rfl⟩⟩, by rw [List.take_zero, HE0.out]; exact HRG1.out, hfr, by rw [List.take_zero, HE0.out]; exact B41.out, B81.out, HC1.out, Ch.refl _ _, by simp⟩
        case round =>
          obtain ⟨j, rbi, capi, hj, rfl, hrow, hrg, hfr2, b4, b8, hc, hc1, hown⟩ := hrel
          clear HRG1 B41 B81
          by_cases hjn : j < n
          · obtain ⟨na, nc, rfl⟩ := row.shape hrow
            obtain ⟨⟨a, b⟩, hab⟩ : ∃ p, Z[j]? = some p := ⟨_, List.getElem?_eq_getElem (by rw [HZL.out]; exact hjn)⟩
            obtain ⟨hla, hlb⟩ := HZG.out j a b hab
            have hsn : Z.take (j + 1) = Z.take j ++ [(a, b)] := by rw [List.take_add_one, hab]; rfl
            have hEs := HESN.out (Z.take j) a b
            rw [← hsn] at hEs
            have hlk := HELOK.out (Z.take j) (fun p hp => List.mem_of_mem_take hp)
            generalize hEE : E (Z.take (j + 1)) = EN at hEs
            generalize E (Z.take j) = ES at hEs hlk hrow hrg b4
            obtain ⟨⟨G2, q2⟩, l2⟩ := ES
            simp only at hrow hrg b4
            have hcv : c < 2 * G2.nodes.length := hlk.s.ext.lt hcm1
            have hav : a < 2 * G2.nodes.length := hlk.s.ext.lt (hll a (List.mem_of_getElem? hla))
            have hbv : b < 2 * G2.nodes.length := hlk.s.ext.lt (hmvl b (List.mem_of_getElem? hlb))
            have hmx : muxOf c G2 a b = rMux G2 c b a := by unfold muxOf; rw [if_pos hcv]
            unfold eachS rop at hEs
            simp only [hmx] at hEs
            have hM := fun (W : World) (hW : Ch [] wr W) => r23Mux_is (q := q2) (hrg.ch hW (by simp)) hcv hbv hav
            obtain ⟨R, hR⟩ : ∃ R, R = rstep (G2, q2) (rMux G2 c b a) := ⟨_, rfl⟩
            simp only [← hR] at hEs hM
            subst hEs
            clear hR hmx hlk hsn
            have HEN := Lib.hid hEE; clear hEE
            have HM := Lib.hid hM; clear hM
            obtain ⟨xb, xo, hxe, hxc⟩ := HXK1.out.cells j (a : Int) (by simp [natInts, hla])
            have ca : wr.cell? ⟨xb, xo + j, none⟩ = some (.int .i64 a) := (hc1.cell (cell_lt hxc) (by have h9 := (HBX.out _ hxe).2; simp only [List.mem_singleton]; intro h7; rcases h9 with e | e; (have h8 : xb < w.heap.size := HXLT.out _ e; omega); (have h8 : w.heap.size + 2 ≤ xb := e; omega))).trans hxc
            obtain ⟨mb, mo, hme, hmc⟩ := HMSL.out.cells j (b : Int) (by simp [natInts, hlb])
            have cb : wr.cell? ⟨mb, mo + j, none⟩ = some (.int .i64 b) := (hc1.cell (cell_lt hmc) (by have := HMNE.out _ hme; simpa using this)).trans hmc
            have cc := (hc1.cell (cell_lt C01.out) (by simp; omega)).trans C01.out
            subst hxe
            subst hme
            clear hxc hmc hla hlb hab hav hbv hcv
            have CA := Lib.hid ca; clear ca
            have CB := Lib.hid cb; clear cb
            have CC := Lib.hid cc; clear cc
            have HROW := Lib.hid hrow; clear hrow
            have HRGI := Lib.hid hrg; clear hrg
            have B4 := Lib.hid b4; clear b4
            have B8 := Lib.hid b8; clear b8
            have HCI := Lib.hid hc; clear hc
            have HC1I := Lib.hid hc1; clear hc1
            have HOWN := Lib.hid hown; clear hown
            go_wp2_with fail
            refine Ord.St.door (fun w' => Ch [] wr w') [.ho, .fl, .fl, .fl, .ho, .fl, .fl, .fl, .ho, .fl, .fl, .fl, .ho, .ef, .fl, .fl, .fl, .ef, .ef, .fl] [0, 0, 0, 6, 14, 0, 0, 96, 224, 0, 0, 1536, 3584, 8191, 16383, 32767, 32767, 0, 196607, 524287] [0, 1, 2, 3, 4, 5, 6, 7, 8, 9, 10, 11, 12, 13, 14, 15, 16, 17, 18, 19] mixed (by kernel_rfl) rfl ?_
            obtain ⟨Wc, hWc⟩ : ∃ Wc, Wc = wr.drew := ⟨_, rfl⟩
            rw [← hWc]
            have hcur : Ch [] wr Wc := by rw [hWc]; exact (Ch.refl _ _).drew
            clear hWc
            refine Ord.St.ho2 (T' := ?_) 0 [1, 2, 3, 4, 5, 6, 7, 8, 9, 10, 11, 12, 13, 14, 15, 16, 17, 18, 19] _ _ rfl (by kernel_rfl) rfl rfl rfl rfl ?_ (fun K w' hw' hk => ?_) ?_
            rotate_left
            · trivial
            · have y0 := (B4.out.ch hw' (by simp)).cell (i := 0) rfl; have y1 := (B4.out.ch hw' (by simp)).cell (i := 1) rfl; have y2 := (B4.out.ch hw' (by simp)).cell (i := 2) rfl; have a0 := (hw'.cell (cell_lt CA.out) (by simp)).trans CA.out; have a1 := (hw'.cell (cell_lt CB.out) (by simp)).trans CB.out; have a2 := (hw'.cell (cell_lt CC.out) (by simp)).trans CC.out; go_step; exact hk
            refine Ord.St.fl2 (T' := ?_) 1 [2, 3, 4, 5, 6, 7, 8, 9, 10, 11, 12, 13, 14, 15, 16, 17, 18, 19] _ _ rfl (by kernel_rfl) rfl rfl rfl rfl (fun K w' hk => ?_) ?_
            rotate_left
            · go_step; exact hk
            refine Ord.St.fl2 (T' := ?_) 2 [3, 4, 5, 6, 7, 8, 9, 10, 11, 12, 13, 14, 15, 16, 17, 18, 19] _ _ rfl (by kernel_rfl) rfl rfl rfl rfl (fun K w' hk => ?_) ?_
            rotate_left
            · go_step; exact hk
            refine Ord.St.fl2 (T' := ?_) 3 [4, 5, 6, 7, 8, 9, 10, 11, 12, 13, 14, 15, 16, 17, 18, 19] _ _ rfl (by kernel_rfl) rfl rfl rfl rfl (fun K w' hk => ?_) ?_
            rotate_left
            · go_step; exact hk
            refine Ord.St.ho2 (T' := ?_) 4 [5, 6, 7, 8, 9, 10, 11, 12, 13, 14, 15, 16, 17, 18, 19] _ _ rfl (by kernel_rfl) rfl rfl rfl rfl ?_ (fun K w' hw' hk => ?_) ?_
            rotate_left
            · trivial
            · have y0 := (B4.out.ch hw' (by simp)).cell (i := 0) rfl; have y1 := (B4.out.ch hw' (by simp)).cell (i := 1) rfl; have y2 := (B4.out.ch hw' (by simp)).cell (i := 2) rfl; have a0 := (hw'.cell (cell_lt CA.out) (by simp)).trans CA.out; have a1 := (hw'.cell (cell_lt CB.out) (by simp)).trans CB.out; have a2 := (hw'.cell (cell_lt CC.out) (by simp)).trans CC.out; go_step; exact hk
            refine Ord.St.fl2 (T' := ?_) 5 [6, 7, 8, 9, 10, 11, 12, 13, 14, 15, 16, 17, 18, 19] _ _ rfl (by kernel_rfl) rfl rfl rfl rfl (fun K w' hk => ?_) ?_
            rotate_left
            · go_step; exact hk
            refine Ord.St.fl2 (T' := ?_) 6 [7, 8, 9, 10, 11, 12, 13, 14, 15, 16, 17, 18, 19] _ _ rfl (by kernel_rfl) rfl rfl rfl rfl (fun K w' hk => ?_) ?_
            rotate_left
            · go_step; exact hk
            refine Ord.St.fl2 (T' := ?_) 7 [8, 9, 10, 11, 12, 13, 14, 15, 16, 17, 18, 19] _ _ rfl (by kernel_rfl) rfl rfl rfl rfl (fun K w' hk => ?_) ?_
            rotate_left
            · go_step; exact hk
            refine Ord.St.ho2 (T' := ?_) 8 [9, 10, 11, 12, 13, 14, 15, 16, 17, 18, 19] _ _ rfl (by kernel_rfl) rfl rfl rfl rfl ?_ (fun K w' hw' hk => ?_) ?_
            rotate_left
            · trivial
            · have y0 := (B4.out.ch hw' (by simp)).cell (i := 0) rfl; have y1 := (B4.out.ch hw' (by simp)).cell (i := 1) rfl; have y2 := (B4.out.ch hw' (by simp)).cell (i := 2) rfl; have a0 := (hw'.cell (cell_lt CA.out) (by simp)).trans CA.out; have a1 := (hw'.cell (cell_lt CB.out) (by simp)).trans CB.out; have a2 := (hw'.cell (cell_lt CC.out) (by simp)).trans CC.out; go_step; exact hk
            refine Ord.St.fl2 (T' := ?_) 9 [10, 11, 12, 13, 14, 15, 16, 17, 18, 19] _ _ rfl (by kernel_rfl) rfl rfl rfl rfl (fun K w' hk => ?_) ?_
            rotate_left
            · go_step; exact hk
            refine Ord.St.fl2 (T' := ?_) 10 [11, 12, 13, 14, 15, 16, 17, 18, 19] _ _ rfl (by kernel_rfl) rfl rfl rfl rfl (fun K w' hk => ?_) ?_
            rotate_left
            · go_step; exact hk
            refine Ord.St.fl2 (T' := ?_) 11 [12, 13, 14, 15, 16, 17, 18, 19] _ _ rfl (by kernel_rfl) rfl rfl rfl rfl (fun K w' hk => ?_) ?_
            rotate_left
            · go_step; exact hk
            refine Ord.St.ho2 (T' := ?_) 12 [13, 14, 15, 16, 17, 18, 19] _ _ rfl (by kernel_rfl) rfl rfl rfl rfl ?_ (fun K w' hw' hk => ?_) ?_
            rotate_left
            · trivial
            · have y0 := (B4.out.ch hw' (by simp)).cell (i := 0) rfl; have y1 := (B4.out.ch hw' (by simp)).cell (i := 1) rfl; have y2 := (B4.out.ch hw' (by simp)).cell (i := 2) rfl; have a0 := (hw'.cell (cell_lt CA.out) (by simp)).trans CA.out; have a1 := (hw'.cell (cell_lt CB.out) (by simp)).trans CB.out; have a2 := (hw'.cell (cell_lt CC.out) (by simp)).trans CC.out; go_step; exact hk
            refine Ord.St.two 13 17 [14, 15, 16, 17, 18, 19] [13, 14, 15, 16, 18, 19] _ _ (by kernel_rfl) rfl rfl (by kernel_rfl) (by kernel_rfl) (fun K hK => ?_) (fun K hK => ?_)
            · have HA := Lib.hid (HM.out _ hcur)
              go_wp2_with fail
              refine HA.out.mono ?_
              rintro e w7 ⟨rb2, cap2, rfl, hrg2, hch, hfr3⟩
              go_wp2_with fail
              refine ⟨rfl, hK _ _ ?_ ?_⟩
              · exact hcur.trans hch (by simp)
              clear hK K
              try have hne := rto_ne hb9 (by have := hs9; have := HRGI.out.lt; omega) hfr3
              try replace hb9 := hb9.ch hch (by simp)
              have hfr4 : rb2 = rb ∨ w.heap.size + 2 ≤ rb2 := by have := hcur.size; have := HCI.out.size; have := B8.out.lt; rcases hfr3 with e | e <;> omega
              have hfr5 : rb2 = rbi ∨ wr.heap.size ≤ rb2 := by have := hcur.size; rcases hfr3 with e | e <;> omega
              replace hcur := hcur.trans hch (by simp)
              clear hch hfr3 HA
              refine Ord.St.fl2 (T' := ?_) 14 [15, 16, 17, 18, 19] _ _ rfl (by kernel_rfl) rfl rfl rfl rfl (fun K w' hk => ?_) ?_
              rotate_left
              · go_step; exact hk
              refine Ord.St.fl2 (T' := ?_) 15 [16, 17, 18, 19] _ _ rfl (by kernel_rfl) rfl rfl rfl rfl (fun K w' hk => ?_) ?_
              rotate_left
              · go_step; exact hk
              refine Ord.St.fl2 (T' := ?_) 16 [17, 18, 19] _ _ rfl (by kernel_rfl) rfl rfl rfl rfl (fun K w' hk => ?_) ?_
              rotate_left
              · go_step; exact hk
              refine Ord.St.efC 17 [18, 19] _ rfl (by kernel_rfl) (fun K hK => ?_)
              go_wp2_with fail
              refine ⟨rfl, hK _ _ ?_ ?_⟩
              · exact hcur.alloc _
              clear hK K
              refine Ord.St.alw ?_; intro Wn hWn
              have hb9 := alw_blk (xs := [.int .i64 0, .slice none 0 0, .int .i64 0]) hWn
              have hs9 := hcur.size
              try have hne := rg_ne hrg2
              try replace hrg2 := hrg2.ch (alw_ch hWn) (by simp)
              replace hcur := hcur.trans (alw_ch hWn) (by simp)
              clear hWn
              first | (have _t := hrg2; clear _t; generalize w7.heap.size = b9 at *) | generalize Wc.heap.size = b9 at *
              refine Ord.St.ef 18 [19] _ rfl (by kernel_rfl) (fun K hK => ?_)
              have z0 := hb9.cell (i := 0) rfl
              have z1 := hb9.cell (i := 1) rfl
              have z2 := hb9.cell (i := 2) rfl
              have g0 := hb9.frozen (i := 0)
              have g1 := hb9.frozen (i := 1)
              have g2 := hb9.frozen (i := 2)
              have HRG2 := Lib.hid hrg2; clear hrg2
              have HB9 := Lib.hid hb9; clear hb9
              go_wp2_with fail
              refine ⟨rfl, hK _ _ ?_⟩; clear hK K
              refine Ord.St.fl2 (T' := ?_) 19 [] _ _ rfl (by kernel_rfl) rfl rfl rfl rfl (fun K w' hk => ?_) ?_
              rotate_left
              · go_step; exact hk
              refine Ord.St.nil ?_
              go_upto_region 13 with fail
              refine wp_alw ?_
              intro W8 hW8
              have hbY : blk W8 b9 [.int .i64 R.1.1.most, .slice (some ⟨rb2, 0, none⟩) R.1.1.nodes.length cap2, .int .i64 R.1.2] := by rw [hW8]; exact ((HB9.out.set (i := 0) _).set (i := 1) _).set (i := 2) _
              have hc9 := set3_ch hW8
              have hs99 := hs9
              have hc68 : Ch [] wr W8 := hcur.trans hc9 (fun k hk => .inr (by simp at hk; omega))
              have hrY := HRG2.out.ch hc9 (by simpa using hne)
              have b4 := B4.out.ch hc68 (by simp)
              have b8 := B8.out.ch hc68 (by simp)
              have x0 := hbY.cell (i := 0) rfl
              have x1 := hbY.cell (i := 1) rfl
              have x2 := hbY.cell (i := 2) rfl
              have y0 := b4.cell (i := 0) rfl
              have y1 := b4.cell (i := 1) rfl
              have y2 := b4.cell (i := 2) rfl
              have f0 := b4.frozen (i := 0)
              have f1 := b4.frozen (i := 1)
              have f2 := b4.frozen (i := 2)
              have HRY := Lib.hid hrY; clear hrY
              have HC68 := Lib.hid hc68; clear hc68
              have BB4 := Lib.hid b4; clear b4
              have BB8 := Lib.hid b8; clear b8
              clear hW8 HRG2 HB9 hbY hc9 z0 z1 z2 g0 g1 g2 hcur hs9 hs99
              go_upto_region 14 with fail
              refine wp_alw ?_
              intro W9 hW9
              have b4 : blk W9 w.heap.size [.int .i64 R.1.1.most, .slice (some ⟨rb2, 0, none⟩) R.1.1.nodes.length cap2, .int .i64 R.1.2] := by rw [hW9]; exact ((BB4.out.set (i := 0) _).set (i := 1) _).set (i := 2) _
              have hc89 := set3_ch hW9
              clear hW9
              have b8 := BB8.out.ch hc89 (by simp)
              have hrY := HRY.out.ch hc89 (by rcases hfr4 with e | e <;> simp <;> omega)
              have hcw : Ch [] w W9 := (HCI.out.trans HC68.out (by simp)).trans hc89 (fun k hk => .inr (by simp at hk; omega))
              have hc1w : Ch [w.heap.size] w1 W9 := (HC1I.out.trans (HC68.out.mono (by simp)) (fun k hk => .inl hk)).trans hc89 (fun k hk => .inl hk)
              have hrow := (HROW.out.ch HC68.out (by simp)).ch hc89 (fun k hk hk2 => by have := (HOWN.out k (by simpa using hk)).1; simp at hk2; omega)
              have hcA : Ch [] W9 (W9.alloc (.cells #[.int .i64 R.2] 3)) := (Ch.refl _ _).alloc _
              have hrA := hrow.ch hcA (by simp)
              have hbA : blk (W9.alloc (.cells #[.int .i64 R.2] 3)) W9.heap.size [.int .i64 R.2] := blk.new' _ _ rfl
              have hz9 : wr.heap.size ≤ W9.heap.size := Nat.le_trans HC68.out.size hc89.size
              have HRA := Lib.hid hrA; clear hrA hrow
              have HBA := Lib.hid hbA; clear hbA
              have HCA := Lib.hid hcA; clear hcA
              have BF4 := Lib.hid b4; clear b4
              have BF8 := Lib.hid b8; clear b8
              have HRZ := Lib.hid hrY; clear hrY
              have HCW := Lib.hid hcw; clear hcw
              have HC1W := Lib.hid hc1w; clear hc1w hc89
              clear BB4 BB8 HRY x0 x1 x2 y0 y1 y2 f0 f1 f2 HC68 B4 B8
              go_wp2_with (at_builtin; go_loud (refine wpList_append_row slInts rfl _ _ rfl (v := .slice na j nc) (n := j) (xs := intCells (natInts l2)) rfl HRA.out (ad := ⟨W9.heap.size, 0, none⟩) (m := 1) (c := 1) (news := [.int .i64 R.2]) rfl rfl (news_blk HBA.out) (by simp [Value.oneCell']) (by omega) (by omega) ?_; intro v' wz hown4 hC4 hf4; have HO4 := Lib.hid hown4; clear hown4; have HC4 := Lib.hid hC4; clear hC4; have HF4 := Lib.hid hf4; clear hf4))
              go_roundw
              case rel =>
                have hown9 : ∀ q ∈ (Value.slice na j nc).ownBlock.toList, w1.heap.size ≤ q ∧ q < wr.heap.size := fun q hq => ⟨(HOWN.out q hq).1, (HROW.out.lt q (by simpa using hq)).2⟩
                have hrb2 : rb2 < W9.heap.size := HRZ.out.lt
                have hz4 : W9.heap.size ≤ wz.heap.size := Nat.le_trans HCA.out.size HC4.out.size
                have hno : ∀ q ∈ (Value.slice na j nc).ownBlock.toList, q ≠ rb2 := fun q hq => by have h1 := HOWN.out q hq; have h2 := hown9 q hq; rcases hfr5 with e | e <;> omega
                refine ⟨j + 1, rb2, cap2, by omega, by go_num, ?_, ?_, hfr4, ?_, ?_, ?_, ?_, fun q hq => ?_⟩
                · rw [HEN.out, natInts_snoc]; exact HO4.out
                · rw [HEN.out]; exact (HRZ.out.ch HCA.out (by simp)).ch HC4.out (fun hin => hno _ hin rfl)
                · rw [HEN.out]; exact (BF4.out.ch HCA.out (by simp)).ch HC4.out (fun hin => by have := hown9 _ hin; omega)
                · exact (BF8.out.ch HCA.out (by simp)).ch HC4.out (fun hin => by have := hown9 _ hin; omega)
                · exact (HCW.out.trans HCA.out (by simp)).trans HC4.out (fun q hq => .inr (by have := hown9 q hq; omega))
                · exact (HC1W.out.trans (HCA.out.mono (by simp)) (fun k hk => .inl hk)).trans HC4.out (fun q hq => .inr (by have := hown9 q hq; omega))
                · rcases HF4.out q (by simpa using hq) with e | e
                  · have hq2 : q ∈ (Value.slice na j nc).ownBlock.toList := by simpa using e
                    exact ⟨(hown9 q hq2).1, hno q hq2⟩
                  · have := HCA.out.size; have := HC1W.out.size; exact ⟨by omega, by omega⟩
              case measure => simp [intOf]; omega
            · go_wp2_with fail
              refine ⟨rfl, hK _ _ ?_ ?_⟩
              · exact hcur.alloc _
              clear hK K
              refine Ord.St.alw ?_; intro Wn hWn
              have hb9 := alw_blk (xs := [.int .i64 0, .slice none 0 0, .int .i64 0]) hWn
              have hs9 := hcur.size
              try have hne := rg_ne hrg2
              try replace hrg2 := hrg2.ch (alw_ch hWn) (by simp)
              replace hcur := hcur.trans (alw_ch hWn) (by simp)
              clear hWn
              first | (have _t := hrg2; clear _t; generalize w7.heap.size = b9 at *) | generalize Wc.heap.size = b9 at *
              refine Ord.St.ef 13 [14, 15, 16, 18, 19] _ rfl (by kernel_rfl) (fun K hK => ?_)
              have HA := Lib.hid (HM.out _ hcur)
              go_wp2_with fail
              refine HA.out.mono ?_
              rintro e w7 ⟨rb2, cap2, rfl, hrg2, hch, hfr3⟩
              go_wp2_with fail
              refine ⟨rfl, hK _ _ ?_⟩; clear hK K
              try have hne := rto_ne hb9 (by have := hs9; have := HRGI.out.lt; omega) hfr3
              try replace hb9 := hb9.ch hch (by simp)
              have hfr4 : rb2 = rb ∨ w.heap.size + 2 ≤ rb2 := by have := hcur.size; have := HCI.out.size; have := B8.out.lt; rcases hfr3 with e | e <;> omega
              have hfr5 : rb2 = rbi ∨ wr.heap.size ≤ rb2 := by have := hcur.size; rcases hfr3 with e | e <;> omega
              replace hcur := hcur.trans hch (by simp)
              clear hch hfr3 HA
              refine Ord.St.fl2 (T' := ?_) 14 [15, 16, 18, 19] _ _ rfl (by kernel_rfl) rfl rfl rfl rfl (fun K w' hk => ?_) ?_
              rotate_left
              · go_step; exact hk
              refine Ord.St.fl2 (T' := ?_) 15 [16, 18, 19] _ _ rfl (by kernel_rfl) rfl rfl rfl rfl (fun K w' hk => ?_) ?_
              rotate_left
              · go_step; exact hk
              refine Ord.St.fl2 (T' := ?_) 16 [18, 19] _ _ rfl (by kernel_rfl) rfl rfl rfl rfl (fun K w' hk => ?_) ?_
              rotate_left
              · go_step; exact hk
              refine Ord.St.ef 18 [19] _ rfl (by kernel_rfl) (fun K hK => ?_)
              have z0 := hb9.cell (i := 0) rfl
              have z1 := hb9.cell (i := 1) rfl
              have z2 := hb9.cell (i := 2) rfl
              have g0 := hb9.frozen (i := 0)
              have g1 := hb9.frozen (i := 1)
              have g2 := hb9.frozen (i := 2)
              have HRG2 := Lib.hid hrg2; clear hrg2
              have HB9 := Lib.hid hb9; clear hb9
              go_wp2_with fail
              refine ⟨rfl, hK _ _ ?_⟩; clear hK K
              refine Ord.St.fl2 (T' := ?_) 19 [] _ _ rfl (by kernel_rfl) rfl rfl rfl rfl (fun K w' hk => ?_) ?_
              rotate_left
              · go_step; exact hk
              refine Ord.St.nil ?_
              go_upto_region 13 with fail
              refine wp_alw ?_
              intro W8 hW8
              have hbY : blk W8 b9 [.int .i64 R.1.1.most, .slice (some ⟨rb2, 0, none⟩) R.1.1.nodes.length cap2, .int .i64 R.1.2] := by rw [hW8]; exact ((HB9.out.set (i := 0) _).set (i := 1) _).set (i := 2) _
              have hc9 := set3_ch hW8
              have hs99 := hs9
              have hc68 : Ch [] wr W8 := hcur.trans hc9 (fun k hk => .inr (by simp at hk; omega))
              have hrY := HRG2.out.ch hc9 (by simpa using hne)
              have b4 := B4.out.ch hc68 (by simp)
              have b8 := B8.out.ch hc68 (by simp)
              have x0 := hbY.cell (i := 0) rfl
              have x1 := hbY.cell (i := 1) rfl
              have x2 := hbY.cell (i := 2) rfl
              have y0 := b4.cell (i := 0) rfl
              have y1 := b4.cell (i := 1) rfl
              have y2 := b4.cell (i := 2) rfl
              have f0 := b4.frozen (i := 0)
              have f1 := b4.frozen (i := 1)
              have f2 := b4.frozen (i := 2)
              have HRY := Lib.hid hrY; clear hrY
              have HC68 := Lib.hid hc68; clear hc68
              have BB4 := Lib.hid b4; clear b4
              have BB8 := Lib.hid b8; clear b8
              clear hW8 HRG2 HB9 hbY hc9 z0 z1 z2 g0 g1 g2 hcur hs9 hs99
              go_upto_region 14 with fail
              refine wp_alw ?_
              intro W9 hW9
              have b4 : blk W9 w.heap.size [.int .i64 R.1.1.most, .slice (some ⟨rb2, 0, none⟩) R.1.1.nodes.length cap2, .int .i64 R.1.2] := by rw [hW9]; exact ((BB4.out.set (i := 0) _).set (i := 1) _).set (i := 2) _
              have hc89 := set3_ch hW9
              clear hW9
              have b8 := BB8.out.ch hc89 (by simp)
              have hrY := HRY.out.ch hc89 (by rcases hfr4 with e | e <;> simp <;> omega)
              have hcw : Ch [] w W9 := (HCI.out.trans HC68.out (by simp)).trans hc89 (fun k hk => .inr (by simp at hk; omega))
              have hc1w : Ch [w.heap.size] w1 W9 := (HC1I.out.trans (HC68.out.mono (by simp)) (fun k hk => .inl hk)).trans hc89 (fun k hk => .inl hk)
              have hrow := (HROW.out.ch HC68.out (by simp)).ch hc89 (fun k hk hk2 => by have := (HOWN.out k (by simpa using hk)).1; simp at hk2; omega)
              have hcA : Ch [] W9 (W9.alloc (.cells #[.int .i64 R.2] 3)) := (Ch.refl _ _).alloc _
              have hrA := hrow.ch hcA (by simp)
              have hbA : blk (W9.alloc (.cells #[.int .i64 R.2] 3)) W9.heap.size [.int .i64 R.2] := blk.new' _ _ rfl
              have hz9 : wr.heap.size ≤ W9.heap.size := Nat.le_trans HC68.out.size hc89.size
              have HRA := Lib.hid hrA; clear hrA hrow
              have HBA := Lib.hid hbA; clear hbA
              have HCA := Lib.hid hcA; clear hcA
              have BF4 := Lib.hid b4; clear b4
              have BF8 := Lib.hid b8; clear b8
              have HRZ := Lib.hid hrY; clear hrY
              have HCW := Lib.hid hcw; clear hcw
              have HC1W := Lib.hid hc1w; clear hc1w hc89
              clear BB4 BB8 HRY x0 x1 x2 y0 y1 y2 f0 f1 f2 HC68 B4 B8
              go_wp2_with (at_builtin; go_loud (refine wpList_append_row slInts rfl _ _ rfl (v := .slice na j nc) (n := j) (xs := intCells (natInts l2)) rfl HRA.out (ad := ⟨W9.heap.size, 0, none⟩) (m := 1) (c := 1) (news := [.int .i64 R.2]) rfl rfl (news_blk HBA.out) (by simp [Value.oneCell']) (by omega) (by omega) ?_; intro v' wz hown4 hC4 hf4; have HO4 := Lib.hid hown4; clear hown4; have HC4 := Lib.hid hC4; clear hC4; have HF4 := Lib.hid hf4; clear hf4))
              go_roundw
              case rel =>
                have hown9 : ∀ q ∈ (Value.slice na j nc).ownBlock.toList, w1.heap.size ≤ q ∧ q < wr.heap.size := fun q hq => ⟨(HOWN.out q hq).1, (HROW.out.lt q (by simpa using hq)).2⟩
                have hrb2 : rb2 < W9.heap.size := HRZ.out.lt
                have hz4 : W9.heap.size ≤ wz.heap.size := Nat.le_trans HCA.out.size HC4.out.size
                have hno : ∀ q ∈ (Value.slice na j nc).ownBlock.toList, q ≠ rb2 := fun q hq => by have h1 := HOWN.out q hq; have h2 := hown9 q hq; rcases hfr5 with e | e <;> omega
                refine ⟨j + 1, rb2, cap2, by omega, by go_num, ?_, ?_, hfr4, ?_, ?_, ?_, ?_, fun q hq => ?_⟩
                · rw [HEN.out, natInts_snoc]; exact HO4.out
                · rw [HEN.out]; exact (HRZ.out.ch HCA.out (by simp)).ch HC4.out (fun hin => hno _ hin rfl)
                · rw [HEN.out]; exact (BF4.out.ch HCA.out (by simp)).ch HC4.out (fun hin => by have := hown9 _ hin; omega)
                · exact (BF8.out.ch HCA.out (by simp)).ch HC4.out (fun hin => by have := hown9 _ hin; omega)
                · exact (HCW.out.trans HCA.out (by simp)).trans HC4.out (fun q hq => .inr (by have := hown9 q hq; omega))
                · exact (HC1W.out.trans (HCA.out.mono (by simp)) (fun k hk => .inl hk)).trans HC4.out (fun q hq => .inr (by have := hown9 q hq; omega))
                · rcases HF4.out q (by simpa using hq) with e | e
                  · have hq2 : q ∈ (Value.slice na j nc).ownBlock.toList := by simpa using e
                    exact ⟨(hown9 q hq2).1, hno q hq2⟩
                  · have := HCA.out.size; have := HC1W.out.size; exact ⟨by omega, by omega⟩
              case measure => simp [intOf]; omega
          · have hjn2 : j = n := by omega
            have hall : Z.take j = Z := List.take_of_length_le (by rw [HZL.out]; omega)
            rw [hall, ← HNEXT.out] at hrow hrg b4
            obtain ⟨na, nc, rfl⟩ := row.shape hrow
            have hmk : min (k + 1) K = k + 1 := by omega
            have hd0 : (Y.take (k + 1)).drop K = [] := List.drop_eq_nil_of_le (by rw [List.length_take]; omega)
            rw [hjn2] at hrow hown
            have hsl := Sl.of_ints hrow (by omega)
            have hnlt := hrow.lt
            have HHR := Lib.hid hrow; clear hrow
            have HRG := Lib.hid hrg; clear hrg
            have B4 := Lib.hid b4; clear b4
            have B8 := Lib.hid b8; clear b8
            have HC := Lib.hid hc; clear hc
            have HSL := Lib.hid hsl; clear hsl
            have HNL := Lib.hid hnlt; clear hnlt
            have HOWN := Lib.hid hown; clear hown hall
            have hz2 := hc1.size
            clear hc1
            go_wp2_with fail
            go_roundw
            case rel =>
              refine ⟨k + 1, na, nc, rbi, capi, wr.heap.size, by omega, by go_num, by rw [hjn2], by rw [hd0]; exact ⟨rfl, .inl ⟨rfl, rfl⟩⟩, fun _ => rfl, by rw [hmk]; exact HSL.out, by rw [hmk]; exact HRG.out, hfr2, by rw [hmk]; exact B4.out, B8.out, HC.out, by have := B8.out.lt; omega, Nat.le_refl _, by simp, fun p hp => ?_, HRG.out.lt⟩
              subst hp
              exact ⟨(HNL.out p.block rfl).2, .inr (by have := (HOWN.out p.block (by simp)).1; omega)⟩
            case measure => simp [intOf]; omega
      · have hPn : n ≤ P := by have := fun h => hkK (hif.1 h); omega
        have d : decide ((n : Int) ≤ P) = true := decide_eq_true (by omega)
        have hdr : (Y.take (k + 1)).drop K = L ++ [c] := by rw [htk, List.drop_append_of_le_length (by rw [List.length_take, HM.out]; omega), ← hL]
        have hmk : min (k + 1) K = min k K := by omega
        have hcA : Ch [] wr (wr.alloc (.cells #[.int .i64 c] 3)) := (Ch.refl _ _).alloc _
        have hrA := hrow.ch hcA (by simp)
        have hbA : blk (wr.alloc (.cells #[.int .i64 c] 3)) wr.heap.size [.int .i64 c] := blk.new' _ _ rfl
        have hpw := hpw wr
        have hLle : L.length ≤ 16 := by omega
        have HLL2 := Lib.hid hLl; clear hLl
        have HRA := Lib.hid hrA; clear hrA hrow
        have HBA := Lib.hid hbA; clear hbA
        have HCA := Lib.hid hcA; clear hcA
        have HDR := Lib.hid hdr; clear hdr
        have HXK := Lib.hid hxk; clear hxk
        have HRG := Lib.hid hrg; clear hrg
        have B4 := Lib.hid b4; clear b4
        have B8 := Lib.hid b8; clear b8
        have HC := Lib.hid hc; clear hc
        have HBH := Lib.hid hBh; clear hBh
        have HBX := Lib.hid hBx; clear hBx
        have HPW := Lib.hid hpw; clear hpw
        clear hnil hif htk hsh hcx hcm hP hL
        go_wp2_with fail
        refine HPW.out.mono ?_
        rintro e w' ⟨rfl, rfl⟩
        go_wp2_with (at_builtin; go_loud (refine wpList_append_row slInts rfl _ _ rfl (v := .slice ha L.length hcap) (n := L.length) (xs := intCells (natInts L)) rfl HRA.out (ad := ⟨wr.heap.size, 0, none⟩) (m := 1) (c := 1) (news := [.int .i64 c]) rfl rfl (news_blk HBA.out) (by simp [Value.oneCell']) (by omega) (by omega) ?_; intro v' w4 hown4 hC4 hf4; have HO4 := Lib.hid hown4; clear hown4; have HC4 := Lib.hid hC4; clear hC4; have HF4 := Lib.hid hf4; clear hf4))
        go_roundw
        case rel =>
          have hz4 : wr.heap.size ≤ w4.heap.size := Nat.le_trans HCA.out.size HC4.out.size
          refine ⟨k + 1, xk, xck, rbk, capk, B, by omega, by go_num, rfl, ?_, fun h => absurd h (by omega), ?_, ?_, hfr, ?_, ?_, ?_, hB1, by omega, fun q hq => ?_, HBX.out, hBr⟩
          · rw [HDR.out, natInts_snoc, List.length_append]; exact HO4.out
          · rw [hmk]; exact (HXK.out.ch HCA.out (by simp)).ch HC4.out (fun p hp hin => by have := HBX.out p hp; have := HBH.out _ hin; omega)
          · rw [hmk]; exact (HRG.out.ch HCA.out (by simp)).ch HC4.out (fun hin => by have := HBH.out _ hin; omega)
          · rw [hmk]; exact (B4.out.ch HCA.out (by simp)).ch HC4.out (fun hin => by have := HBH.out _ hin; omega)
          · exact (B8.out.ch HCA.out (by simp)).ch HC4.out (fun hin => by have := HBH.out _ hin; omega)
          · exact (HC.out.trans HCA.out (by simp)).trans HC4.out (fun q hq => .inr (by have := HBH.out q hq; omega))
          · rcases HF4.out q (by simpa using hq) with e | e
            · exact HBH.out q (by simpa using e)
            · have := HCA.out.size; omega
        case measure => simp [intOf]; omega
    · have hkm : k = m := by omega
      have hmk : min k K = K := by omega
      rw [hmk] at hxk hrg b4
      have hL2 : L = Y.drop K := by rw [hL, hkm, List.take_of_length_le (by rw [HM.out]; omega)]
      have hlokS := HLOK.out (Y.take K)
      have hlenS := HLEN.out (Y.take K)
      have hmf := HMF.out
      have hmh : K ≠ m → _ := fun h => HMH.out h (q := MV (Y.take K)) rfl
      generalize MV (Y.take K) = ST at hxk hrg b4 hlokS hlenS hmf hmh
      obtain ⟨⟨G1, q1⟩, l⟩ := ST
      simp only at hxk hrg b4 hlenS hmh
      have v0 := b8.cell (i := 0) rfl
      have v1 := b8.cell (i := 1) rfl
      have v2 := b8.cell (i := 2) rfl
      have g0 := b8.frozen (i := 0)
      have g1 := b8.frozen (i := 1)
      have g2 := b8.frozen (i := 2)
      have y0 := b4.cell (i := 0) rfl
      have y1 := b4.cell (i := 1) rfl
      have y2 := b4.cell (i := 2) rfl
      have hz8 := b8.lt
      clear hnil hmi
      by_cases hKm2 : K = m
      · have hres := hmf hKm2
        have hl0 : L.length = 0 := by omega
        have hb : ((L.length : Int) == 0) = true := by rw [hl0]; rfl
        have HLL3 := Lib.hid hLl; clear hLl
        have HRES := Lib.hid hres; clear hres hmf hmh
        have HXK := Lib.hid hxk; clear hxk
        have HRG := Lib.hid hrg; clear hrg
        have HC := Lib.hid hc; clear hc
        have HBX := Lib.hid hBx; clear hBx
        have HLS := Lib.hid hlenS; clear hlenS hlokS hL2 hL hrow b4 b8 hBh hKm2 hmk hkm hl0
        go_wp2_with fail
        have hcc := set3_ch (w := wr) (b := w.heap.size + 1) (u := .int .i64 G1.most) (v := .slice (some ⟨rbk, 0, none⟩) G1.nodes.length capk) (x := .int .i64 q1) rfl
        refine bodyPost_ret (v := .tuple #[.agg #[.int .i64 G1.most, .slice (some ⟨rbk, 0, none⟩) G1.nodes.length capk, .int .i64 q1], .slice xk n xck]) (by simp [results, Try.results96, go_sem, v0, v1, v2]) rfl ?_
        rw [HRES.out]
        exact ⟨rbk, capk, xk, xck, by simp only [HLS.out], HRG.out.ch hcc (by simp; omega), HC.out.trans hcc (fun q hq => .inr (by simp at hq; omega)), by omega, HXK.out.ch hcc (fun p hp => by have h9 := (HBX.out p hp).2; simp only [List.mem_singleton]; intro h7; rcases h9 with e | e; (have h8 := HXLT.out p e; omega); omega), fun p hp => (HBX.out p hp).2.imp id (fun e => by omega)⟩
      · have hres := hmh hKm2
        rw [← hL2] at hres
        have hLr : ∀ r ∈ L, r < 2 * G1.nodes.length := fun r hr => hlokS.s.ext.lt (HYR.out r (by rw [hL2] at hr; exact List.mem_of_mem_drop hr))
        have hl0 : 0 < L.length := by omega
        have hb : ((L.length : Int) == 0) = false := by rw [beq_eq_false_iff_ne]; omega
        have hLle : L.length ≤ 16 := by omega
        have HLL3 := Lib.hid hLl; clear hLl
        have hhs := Sl.of_ints hrow (by omega)
        have hA := r23Any_is (q := q1) hrg (x := ha) (l := L) L.length hcap rfl hhs hLr (by omega)
        obtain ⟨hA1, hA2, hA3⟩ := rstep_sok hlokS.s (Y := rAny G1 L) (fun _ => rAny_full hlokS.s.ok hLr)
        generalize rstep (G1, q1) (rAny G1 L) = A at hA hA1 hA2 hA3 hres
        obtain ⟨⟨GA, qA⟩, zA⟩ := A
        simp only at hA2 hA3 hres
        obtain ⟨Z, hZ⟩ : ∃ Z, Z = l.map fun r => (r, neg zA) := ⟨_, rfl⟩
        have hZl : Z.length = n := by rw [hZ, List.length_map, hlenS]
        have hll : ∀ r ∈ l, r < 2 * GA.nodes.length := fun r hr => hA3.lt (hlokS.lt r hr)
        have hzlt : neg zA < 2 * GA.nodes.length := neg_lt hA2
        have hZlt : ∀ p ∈ Z, p.1 < 2 * GA.nodes.length ∧ p.2 < 2 * GA.nodes.length := fun p hp => by
          rw [hZ] at hp
          obtain ⟨r, hr, rfl⟩ := List.mem_map.1 hp
          exact ⟨hll r hr, hzlt⟩
        have hZG : ∀ (j a b : Nat), Z[j]? = some (a, b) → l[j]? = some a ∧ b = neg zA := fun j a b hx => by
          rw [hZ, List.getElem?_map] at hx
          cases hlj : l[j]? with
          | none => rw [hlj] at hx; cases hx
          | some r => rw [hlj] at hx; cases hx; exact ⟨rfl, rfl⟩
        have hElok := fun z (hz : ∀ p ∈ z, p ∈ Z) => eachF_sok (G := G) (s := (GA, qA)) hA1 full_and2 z (fun p hp => hZlt p (hz p hp))
        have hEsn := fun z a b => eachF_snoc (rop and) (GA, qA) z (a, b)
        have hE0 : eachF (rop and) (GA, qA) [] = ((GA, qA), []) := rfl
        have hElen := fun z => eachF_len (rop and) (GA, qA) z
        rw [← hZ] at hres
        obtain ⟨E, hE⟩ : ∃ E : List (Nat × Nat) → Mk × List Nat, E = eachF (rop and) (GA, qA) := ⟨_, rfl⟩
        rw [← hE] at hElok hEsn hE0 hElen hres
        have hnot := fun W => rNot_is W zA (by have := hA1.ok.small; simp only at this; omega)
        have HNOT := Lib.hid hnot; clear hnot
        have HRES := Lib.hid hres; clear hres hmf hmh
        have HELOK := Lib.hid hElok; clear hElok
        have HESN := Lib.hid hEsn; clear hEsn
        have HE0 := Lib.hid hE0; clear hE0
        have HELEN := Lib.hid hElen; clear hElen
        have HZL := Lib.hid hZl; clear hZl
        have HZG := Lib.hid hZG; clear hZG
        have HLL := Lib.hid hlenS; clear hlenS
        have HXK := Lib.hid hxk; clear hxk
        have HC := Lib.hid hc; clear hc
        have HBX := Lib.hid hBx; clear hBx
        have HA := Lib.hid hA; clear hA
        have HRG := Lib.hid hrg; clear hrg
        clear hE hZ hlokS hL2 hL hrow hBh hKm2 hmk hkm hhs v0 v1 v2 g0 g1 g2
        have B4 := Lib.hid b4; clear b4
        have B8 := Lib.hid b8; clear b8
        go_wp2_with fail
        refine HA.out.mono ?_
        rintro e w4 ⟨rb4, cap4, rfl, hrg4, hch4, hfr4⟩
        have b4 := B4.out.ch hch4 (by simp)
        have b8 := B8.out.ch hch4 (by simp)
        have hxk := HXK.out.ch hch4 (by simp)
        have hc := HC.out.trans hch4 (by simp)
        have hrb4 : rb4 = rb ∨ w.heap.size + 2 ≤ rb4 := by rcases hfr4 with e | e <;> omega
        clear hch4 hfr4 B4 B8 HXK HC HA HRG y0 y1 y2
        have B4 := Lib.hid b4; clear b4
        have B8 := Lib.hid b8; clear b8
        go_upto_region 19 with fail
        refine wp_alw ?_
        intro W5 hW5
        have hb17 := alw_blk (xs := [.int .i64 GA.most, .slice (some ⟨rb4, 0, none⟩) GA.nodes.length cap4, .int .i64 qA]) hW5
        have hc45 := alw_ch hW5
        have hrg5 := hrg4.ch hc45 (by simp)
        have hxk := hxk.ch hc45 (by simp)
        have hc := hc.trans hc45 (by simp)
        have b4 := B4.out.ch hc45 (by simp)
        have b8 := B8.out.ch hc45 (by simp)
        clear hW5 hc45 hrg4 B4 B8
        generalize w4.heap.size = b17 at *
        have x0 := hb17.cell (i := 0) rfl
        have x1 := hb17.cell (i := 1) rfl
        have x2 := hb17.cell (i := 2) rfl
        have y0 := b4.cell (i := 0) rfl
        have y1 := b4.cell (i := 1) rfl
        have y2 := b4.cell (i := 2) rfl
        have f0 := b4.frozen (i := 0)
        have f1 := b4.frozen (i := 1)
        have f2 := b4.frozen (i := 2)
        have B4 := Lib.hid b4; clear b4
        have B8 := Lib.hid b8; clear b8
        have HC := Lib.hid hc; clear hc
        have HXK := Lib.hid hxk; clear hxk
        have HRG := Lib.hid hrg5; clear hrg5
        clear hb17
        go_upto_region 20 with fail
        refine wp_alw ?_
        intro W6 hW6
        have b4 : blk W6 w.heap.size [.int .i64 GA.most, .slice (some ⟨rb4, 0, none⟩) GA.nodes.length cap4, .int .i64 qA] := by rw [hW6]; exact ((B4.out.set (i := 0) _).set (i := 1) _).set (i := 2) _
        have hc56 := set3_ch hW6
        clear hW6
        have b8 := B8.out.ch hc56 (by simp)
        have hrg := HRG.out.ch hc56 (by simp; omega)
        have hxk := HXK.out.ch hc56 (fun p hp => by have h9 := (HBX.out p hp).2; simp only [List.mem_singleton]; intro h7; rcases h9 with e | e; (have h8 := HXLT.out p e; omega); omega)
        have hc := HC.out.trans hc56 (fun q hq => .inr (by simp at hq; omega))
        clear hc56 B4 B8 HC HXK HRG x0 x1 x2 y0 y1 y2 f0 f1 f2
        have B4 := Lib.hid b4; clear b4
        have B8 := Lib.hid b8; clear b8
        have HC := Lib.hid hc; clear hc
        have HXK := Lib.hid hxk; clear hxk
        have HRG := Lib.hid hrg; clear hrg
        have hw6 := B8.out.lt
        go_wp2_with fail
        go_loopw [19, 20] (fun nx i wq => ∃ (j rbi capi : Nat), j ≤ n ∧ i = .int .i64 j ∧ row wq 3 1 nx j (intCells (natInts (E (Z.take j)).2)) ∧ RG wq rbi capi (E (Z.take j)).1.1 ∧ (rbi = rb ∨ w.heap.size + 2 ≤ rbi) ∧
          blk wq w.heap.size [.int .i64 (E (Z.take j)).1.1.most, .slice (some ⟨rbi, 0, none⟩) (E (Z.take j)).1.1.nodes.length capi, .int .i64 (E (Z.take j)).1.2] ∧ blk wq (w.heap.size + 1) [.int .i64 0, .slice none 0 0, .int .i64 0] ∧ Ch [] w wq ∧ Ch [w.heap.size] W6 wq ∧ (∀ q ∈ nx.ownBlock.toList, W6.heap.size ≤ q ∧ q ≠ rbi)) (fun _ i _ => n - (intOf i).toNat)
        case atStart => exact ⟨0, rb4, cap4, by omega, rfl, by rw [List.take_zero, HE0.out]; exact ⟨rfl, .inl ⟨rfl, rfl⟩⟩, by rw [List.take_zero, HE0.out]; exact HRG.out, hrb4, by rw [List.take_zero, HE0.out]; exact B4.out, B8.out, HC.out, Ch.refl _ _, by simp⟩
        case round =>
          obtain ⟨j, rbi, capi, hj, rfl, hrow, hrg, hfr2, b4, b8, hc, hc1, hown⟩ := hrel
          clear HRG B4 B8
          by_cases hjn : j < n
          · obtain ⟨na, nc, rfl⟩ := row.shape hrow
            obtain ⟨⟨a, b⟩, hab⟩ : ∃ p, Z[j]? = some p := ⟨_, List.getElem?_eq_getElem (by rw [HZL.out]; exact hjn)⟩
            obtain ⟨hla, hbb⟩ := HZG.out j a b hab
            subst hbb
            have hsn : Z.take (j + 1) = Z.take j ++ [(a, neg zA)] := by rw [List.take_add_one, hab]; rfl
            have hEs := HESN.out (Z.take j) a (neg zA)
            rw [← hsn] at hEs
            have hlk := HELOK.out (Z.take j) (fun p hp => List.mem_of_mem_take hp)
            generalize hEE : E (Z.take (j + 1)) = EN at hEs
            generalize E (Z.take j) = ES at hEs hlk hrow hrg b4
            obtain ⟨⟨G2, q2⟩, l2⟩ := ES
            simp only at hrow hrg b4
            have hav : a < 2 * G2.nodes.length := hlk.s.ext.lt (hll a (List.mem_of_getElem? hla))
            have hbv : neg zA < 2 * G2.nodes.length := hlk.s.ext.lt hzlt
            unfold eachS rop at hEs
            simp only at hEs
            have hM := fun (W : World) (hW : Ch [] wr W) => r23And_is (q := q2) (hrg.ch hW (by simp)) hav hbv
            obtain ⟨R, hR⟩ : ∃ R, R = rstep (G2, q2) (and G2 a (neg zA)) := ⟨_, rfl⟩
            simp only [← hR] at hEs hM
            subst hEs
            clear hR hlk hsn
            have HEN := Lib.hid hEE; clear hEE
            have HM := Lib.hid hM; clear hM
            obtain ⟨xb, xo, hxe, hxc⟩ := HXK.out.cells j (a : Int) (by simp [natInts, hla])
            have ca : wr.cell? ⟨xb, xo + j, none⟩ = some (.int .i64 a) := (hc1.cell (cell_lt hxc) (by have h9 := (HBX.out _ hxe).2; simp only [List.mem_singleton]; intro h7; rcases h9 with e | e; (have h8 : xb < w.heap.size := HXLT.out _ e; omega); (have h8 : w.heap.size + 2 ≤ xb := e; omega))).trans hxc
            subst hxe
            clear hxc hla hab hav hbv
            have CA := Lib.hid ca; clear ca
            have HROW := Lib.hid hrow; clear hrow
            have HRGI := Lib.hid hrg; clear hrg
            have B4 := Lib.hid b4; clear b4
            have B8 := Lib.hid b8; clear b8
            have HCI := Lib.hid hc; clear hc
            have HC1I := Lib.hid hc1; clear hc1
            have HOWN := Lib.hid hown; clear hown
            go_wp2_with fail
            refine Ord.St.door (fun w' => Ch [] wr w') [.ho, .fl, .fl, .fl, .ho, .fl, .fl, .ef, .fl, .fl, .fl, .ef, .ef, .fl] [0, 0, 0, 6, 14, 0, 32, 127, 255, 511, 511, 0, 3071, 8191] [0, 1, 2, 3, 4, 5, 6, 7, 8, 9, 10, 11, 12, 13] mixed (by kernel_rfl) rfl ?_
            obtain ⟨Wc, hWc⟩ : ∃ Wc, Wc = wr.drew := ⟨_, rfl⟩
            rw [← hWc]
            have hcur : Ch [] wr Wc := by rw [hWc]; exact (Ch.refl _ _).drew
            clear hWc
            refine Ord.St.ho2 (T' := ?_) 0 [1, 2, 3, 4, 5, 6, 7, 8, 9, 10, 11, 12, 13] _ _ rfl (by kernel_rfl) rfl rfl rfl rfl ?_ (fun K w' hw' hk => ?_) ?_
            rotate_left
            · trivial
            · have y0 := (B4.out.ch hw' (by simp)).cell (i := 0) rfl; have y1 := (B4.out.ch hw' (by simp)).cell (i := 1) rfl; have y2 := (B4.out.ch hw' (by simp)).cell (i := 2) rfl; have a0 := (hw'.cell (cell_lt CA.out) (by simp)).trans CA.out; go_step; exact hk
            refine Ord.St.fl2 (T' := ?_) 1 [2, 3, 4, 5, 6, 7, 8, 9, 10, 11, 12, 13] _ _ rfl (by kernel_rfl) rfl rfl rfl rfl (fun K w' hk => ?_) ?_
            rotate_left
            · go_step; exact hk
            refine Ord.St.fl2 (T' := ?_) 2 [3, 4, 5, 6, 7, 8, 9, 10, 11, 12, 13] _ _ rfl (by kernel_rfl) rfl rfl rfl rfl (fun K w' hk => ?_) ?_
            rotate_left
            · go_step; exact hk
            refine Ord.St.fl2 (T' := ?_) 3 [4, 5, 6, 7, 8, 9, 10, 11, 12, 13] _ _ rfl (by kernel_rfl) rfl rfl rfl rfl (fun K w' hk => ?_) ?_
            rotate_left
            · go_step; exact hk
            refine Ord.St.ho2 (T' := ?_) 4 [5, 6, 7, 8, 9, 10, 11, 12, 13] _ _ rfl (by kernel_rfl) rfl rfl rfl rfl ?_ (fun K w' hw' hk => ?_) ?_
            rotate_left
            · trivial
            · have y0 := (B4.out.ch hw' (by simp)).cell (i := 0) rfl; have y1 := (B4.out.ch hw' (by simp)).cell (i := 1) rfl; have y2 := (B4.out.ch hw' (by simp)).cell (i := 2) rfl; have a0 := (hw'.cell (cell_lt CA.out) (by simp)).trans CA.out; go_step; exact hk
            refine Ord.St.fl2 (T' := ?_) 5 [6, 7, 8, 9, 10, 11, 12, 13] _ _ rfl (by kernel_rfl) rfl rfl rfl rfl (fun K w' hk => ?_) ?_
            rotate_left
            · go_step; exact hk
            refine Ord.St.fl2 (T' := ?_) 6 [7, 8, 9, 10, 11, 12, 13] _ _ rfl (by kernel_rfl) rfl rfl rfl rfl (fun K w' hk => ?_) ?_
            rotate_left
            · go_step; refine (HNOT.out _).mono ?_; rintro e w'' ⟨rfl, rfl⟩; exact hk
            refine Ord.St.two 7 11 [8, 9, 10, 11, 12, 13] [7, 8, 9, 10, 12, 13] _ _ (by kernel_rfl) rfl rfl (by kernel_rfl) (by kernel_rfl) (fun K hK => ?_) (fun K hK => ?_)
            · have HA := Lib.hid (HM.out _ hcur)
              go_wp2_with fail
              refine HA.out.mono ?_
              rintro e w7 ⟨rb2, cap2, rfl, hrg2, hch, hfr3⟩
              go_wp2_with fail
              refine ⟨rfl, hK _ _ ?_ ?_⟩
              · exact hcur.trans hch (by simp)
              clear hK K
              try have hne := rto_ne hb9 (by have := hs9; have := HRGI.out.lt; omega) hfr3
              try replace hb9 := hb9.ch hch (by simp)
              have hfr4 : rb2 = rb ∨ w.heap.size + 2 ≤ rb2 := by have := hcur.size; have := HCI.out.size; have := B8.out.lt; rcases hfr3 with e | e <;> omega
              have hfr5 : rb2 = rbi ∨ wr.heap.size ≤ rb2 := by have := hcur.size; rcases hfr3 with e | e <;> omega
              replace hcur := hcur.trans hch (by simp)
              clear hch hfr3 HA
              refine Ord.St.fl2 (T' := ?_) 8 [9, 10, 11, 12, 13] _ _ rfl (by kernel_rfl) rfl rfl rfl rfl (fun K w' hk => ?_) ?_
              rotate_left
              · go_step; exact hk
              refine Ord.St.fl2 (T' := ?_) 9 [10, 11, 12, 13] _ _ rfl (by kernel_rfl) rfl rfl rfl rfl (fun K w' hk => ?_) ?_
              rotate_left
              · go_step; exact hk
              refine Ord.St.fl2 (T' := ?_) 10 [11, 12, 13] _ _ rfl (by kernel_rfl) rfl rfl rfl rfl (fun K w' hk => ?_) ?_
              rotate_left
              · go_step; exact hk
              refine Ord.St.efC 11 [12, 13] _ rfl (by kernel_rfl) (fun K hK => ?_)
              go_wp2_with fail
              refine ⟨rfl, hK _ _ ?_ ?_⟩
              · exact hcur.alloc _
              clear hK K
              refine Ord.St.alw ?_; intro Wn hWn
              have hb9 := alw_blk (xs := [.int .i64 0, .slice none 0 0, .int .i64 0]) hWn
              have hs9 := hcur.size
              try have hne := rg_ne hrg2
              try replace hrg2 := hrg2.ch (alw_ch hWn) (by simp)
              replace hcur := hcur.trans (alw_ch hWn) (by simp)
              clear hWn
              first | (have _t := hrg2; clear _t; generalize w7.heap.size = b9 at *) | generalize Wc.heap.size = b9 at *
              refine Ord.St.ef 12 [13] _ rfl (by kernel_rfl) (fun K hK => ?_)
              have z0 := hb9.cell (i := 0) rfl
              have z1 := hb9.cell (i := 1) rfl
              have z2 := hb9.cell (i := 2) rfl
              have g0 := hb9.frozen (i := 0)
              have g1 := hb9.frozen (i := 1)
              have g2 := hb9.frozen (i := 2)
              have HRG2 := Lib.hid hrg2; clear hrg2
              have HB9 := Lib.hid hb9; clear hb9
              go_wp2_with fail
              refine ⟨rfl, hK _ _ ?_⟩; clear hK K
              refine Ord.St.fl2 (T' := ?_) 13 [] _ _ rfl (by kernel_rfl) rfl rfl rfl rfl (fun K w' hk => ?_) ?_
              rotate_left
              · go_step; exact hk
              refine Ord.St.nil ?_
              go_upto_region 25 with fail
              refine wp_alw ?_
              intro W8 hW8
              have hbY : blk W8 b9 [.int .i64 R.1.1.most, .slice (some ⟨rb2, 0, none⟩) R.1.1.nodes.length cap2, .int .i64 R.1.2] := by rw [hW8]; exact ((HB9.out.set (i := 0) _).set (i := 1) _).set (i := 2) _
              have hc9 := set3_ch hW8
              have hs99 := hs9
              have hc68 : Ch [] wr W8 := hcur.trans hc9 (fun k hk => .inr (by simp at hk; omega))
              have hrY := HRG2.out.ch hc9 (by simpa using hne)
              have b4 := B4.out.ch hc68 (by simp)
              have b8 := B8.out.ch hc68 (by simp)
              have x0 := hbY.cell (i := 0) rfl
              have x1 := hbY.cell (i := 1) rfl
              have x2 := hbY.cell (i := 2) rfl
              have y0 := b4.cell (i := 0) rfl
              have y1 := b4.cell (i := 1) rfl
              have y2 := b4.cell (i := 2) rfl
              have f0 := b4.frozen (i := 0)
              have f1 := b4.frozen (i := 1)
              have f2 := b4.frozen (i := 2)
              have HRY := Lib.hid hrY; clear hrY
              have HC68 := Lib.hid hc68; clear hc68
              have BB4 := Lib.hid b4; clear b4
              have BB8 := Lib.hid b8; clear b8
              clear hW8 HRG2 HB9 hbY hc9 z0 z1 z2 g0 g1 g2 hcur hs9 hs99
              go_upto_region 26 with fail
              refine wp_alw ?_
              intro W9 hW9
              have b4 : blk W9 w.heap.size [.int .i64 R.1.1.most, .slice (some ⟨rb2, 0, none⟩) R.1.1.nodes.length cap2, .int .i64 R.1.2] := by rw [hW9]; exact ((BB4.out.set (i := 0) _).set (i := 1) _).set (i := 2) _
              have hc89 := set3_ch hW9
              clear hW9
              have b8 := BB8.out.ch hc89 (by simp)
              have hrY := HRY.out.ch hc89 (by rcases hfr4 with e | e <;> simp <;> omega)
              have hcw : Ch [] w W9 := (HCI.out.trans HC68.out (by simp)).trans hc89 (fun k hk => .inr (by simp at hk; omega))
              have hc1w : Ch [w.heap.size] W6 W9 := (HC1I.out.trans (HC68.out.mono (by simp)) (fun k hk => .inl hk)).trans hc89 (fun k hk => .inl hk)
              have hrow := (HROW.out.ch HC68.out (by simp)).ch hc89 (fun k hk hk2 => by have := (HOWN.out k (by simpa using hk)).1; simp at hk2; omega)
              have hcA : Ch [] W9 (W9.alloc (.cells #[.int .i64 R.2] 3)) := (Ch.refl _ _).alloc _
              have hrA := hrow.ch hcA (by simp)
              have hbA : blk (W9.alloc (.cells #[.int .i64 R.2] 3)) W9.heap.size [.int .i64 R.2] := blk.new' _ _ rfl
              have hz9 : wr.heap.size ≤ W9.heap.size := Nat.le_trans HC68.out.size hc89.size
              have HRA := Lib.hid hrA; clear hrA hrow
              have HBA := Lib.hid hbA; clear hbA
              have HCA := Lib.hid hcA; clear hcA
              have BF4 := Lib.hid b4; clear b4
              have BF8 := Lib.hid b8; clear b8
              have HRZ := Lib.hid hrY; clear hrY
              have HCW := Lib.hid hcw; clear hcw
              have HC1W := Lib.hid hc1w; clear hc1w hc89
              clear BB4 BB8 HRY x0 x1 x2 y0 y1 y2 f0 f1 f2 HC68 B4 B8
              go_wp2_with (at_builtin; go_loud (refine wpList_append_row slInts rfl _ _ rfl (v := .slice na j nc) (n := j) (xs := intCells (natInts l2)) rfl HRA.out (ad := ⟨W9.heap.size, 0, none⟩) (m := 1) (c := 1) (news := [.int .i64 R.2]) rfl rfl (news_blk HBA.out) (by simp [Value.oneCell']) (by omega) (by omega) ?_; intro v' wz hown4 hC4 hf4; have HO4 := Lib.hid hown4; clear hown4; have HC4 := Lib.hid hC4; clear hC4; have HF4 := Lib.hid hf4; clear hf4))
              go_roundw
              case rel =>
                have hown9 : ∀ q ∈ (Value.slice na j nc).ownBlock.toList, W6.heap.size ≤ q ∧ q < wr.heap.size := fun q hq => ⟨(HOWN.out q hq).1, (HROW.out.lt q (by simpa using hq)).2⟩
                have hrb2 : rb2 < W9.heap.size := HRZ.out.lt
                have hz4 : W9.heap.size ≤ wz.heap.size := Nat.le_trans HCA.out.size HC4.out.size
                have hno : ∀ q ∈ (Value.slice na j nc).ownBlock.toList, q ≠ rb2 := fun q hq => by have h1 := HOWN.out q hq; have h2 := hown9 q hq; rcases hfr5 with e | e <;> omega
                refine ⟨j + 1, rb2, cap2, by omega, by go_num, ?_, ?_, hfr4, ?_, ?_, ?_, ?_, fun q hq => ?_⟩
                · rw [HEN.out, natInts_snoc]; exact HO4.out
                · rw [HEN.out]; exact (HRZ.out.ch HCA.out (by simp)).ch HC4.out (fun hin => hno _ hin rfl)
                · rw [HEN.out]; exact (BF4.out.ch HCA.out (by simp)).ch HC4.out (fun hin => by have := hown9 _ hin; omega)
                · exact (BF8.out.ch HCA.out (by simp)).ch HC4.out (fun hin => by have := hown9 _ hin; omega)
                · exact (HCW.out.trans HCA.out (by simp)).trans HC4.out (fun q hq => .inr (by have := hown9 q hq; omega))
                · exact (HC1W.out.trans (HCA.out.mono (by simp)) (fun k hk => .inl hk)).trans HC4.out (fun q hq => .inr (by have := hown9 q hq; omega))
                · rcases HF4.out q (by simpa using hq) with e | e
                  · have hq2 : q ∈ (Value.slice na j nc).ownBlock.toList := by simpa using e
                    exact ⟨(hown9 q hq2).1, hno q hq2⟩
                  · have := HCA.out.size; have := HC1W.out.size; exact ⟨by omega, by omega⟩
              case measure => simp [intOf]; omega
            · go_wp2_with fail
              refine ⟨rfl, hK _ _ ?_ ?_⟩
              · exact hcur.alloc _
              clear hK K
              refine Ord.St.alw ?_; intro Wn hWn
              have hb9 := alw_blk (xs := [.int .i64 0, .slice none 0 0, .int .i64 0]) hWn
              have hs9 := hcur.size
              try have hne := rg_ne hrg2
              try replace hrg2 := hrg2.ch (alw_ch hWn) (by simp)
              replace hcur := hcur.trans (alw_ch hWn) (by simp)
              clear hWn
              first | (have _t := hrg2; clear _t; generalize w7.heap.size = b9 at *) | generalize Wc.heap.size = b9 at *
              refine Ord.St.ef 7 [8, 9, 10, 12, 13] _ rfl (by kernel_rfl) (fun K hK => ?_)
              have HA := Lib.hid (HM.out _ hcur)
              go_wp2_with fail
              refine HA.out.mono ?_
              rintro e w7 ⟨rb2, cap2, rfl, hrg2, hch, hfr3⟩
              go_wp2_with fail
              refine ⟨rfl, hK _ _ ?_⟩; clear hK K
              try have hne := rto_ne hb9 (by have := hs9; have := HRGI.out.lt; omega) hfr3
              try replace hb9 := hb9.ch hch (by simp)
              have hfr4 : rb2 = rb ∨ w.heap.size + 2 ≤ rb2 := by have := hcur.size; have := HCI.out.size; have := B8.out.lt; rcases hfr3 with e | e <;> omega
              have hfr5 : rb2 = rbi ∨ wr.heap.size ≤ rb2 := by have := hcur.size; rcases hfr3 with e | e <;> omega
              replace hcur := hcur.trans hch (by simp)
              clear hch hfr3 HA
              refine Ord.St.fl2 (T' := ?_) 8 [9, 10, 12, 13] _ _ rfl (by kernel_rfl) rfl rfl rfl rfl (fun K w' hk => ?_) ?_
              rotate_left
              · go_step; exact hk
              refine Ord.St.fl2 (T' := ?_) 9 [10, 12, 13] _ _ rfl (by kernel_rfl) rfl rfl rfl rfl (fun K w' hk => ?_) ?_
              rotate_left
              · go_step; exact hk
              refine Ord.St.fl2 (T' := ?_) 10 [12, 13] _ _ rfl (by kernel_rfl) rfl rfl rfl rfl (fun K w' hk => ?_) ?_
              rotate_left
              · go_step; exact hk
              refine Ord.St.ef 12 [13] _ rfl (by kernel_rfl) (fun K hK => ?_)
              have z0 := hb9.cell (i := 0) rfl
              have z1 := hb9.cell (i := 1) rfl
              have z2 := hb9.cell (i := 2) rfl
              have g0 := hb9.frozen (i := 0)
              have g1 := hb9.frozen (i := 1)
              have g2 := hb9.frozen (i := 2)
              have HRG2 := Lib.hid hrg2; clear hrg2
              have HB9 := Lib.hid hb9; clear hb9
              go_wp2_with fail
              refine ⟨rfl, hK _ _ ?_⟩; clear hK K
              refine Ord.St.fl2 (T' := ?_) 13 [] _ _ rfl (by kernel_rfl) rfl rfl rfl rfl (fun K w' hk => ?_) ?_
              rotate_left
              · go_step; exact hk
              refine Ord.St.nil ?_
              go_upto_region 25 with fail
              refine wp_alw ?_
              intro W8 hW8
              have hbY : blk W8 b9 [.int .i64 R.1.1.most, .slice (some ⟨rb2, 0, none⟩) R.1.1.nodes.length cap2, .int .i64 R.1.2] := by rw [hW8]; exact ((HB9.out.set (i := 0) _).set (i := 1) _).set (i := 2) _
              have hc9 := set3_ch hW8
              have hs99 := hs9
              have hc68 : Ch [] wr W8 := hcur.trans hc9 (fun k hk => .inr (by simp at hk; omega))
              have hrY := HRG2.out.ch hc9 (by simpa using hne)
              have b4 := B4.out.ch hc68 (by simp)
              have b8 := B8.out.ch hc68 (by simp)
              have x0 := hbY.cell (i := 0) rfl
              have x1 := hbY.cell (i := 1) rfl
              have x2 := hbY.cell (i := 2) rfl
              have y0 := b4.cell (i := 0) rfl
              have y1 := b4.cell (i := 1) rfl
              have y2 := b4.cell (i := 2) rfl
              have f0 := b4.frozen (i := 0)
              have f1 := b4.frozen (i := 1)
              have f2 := b4.frozen (i := 2)
              have HRY := Lib.hid hrY; clear hrY
              have HC68 := Lib.hid hc68; clear hc68
              have BB4 := Lib.hid b4; clear b4
              have BB8 := Lib.hid b8; clear b8
              clear hW8 HRG2 HB9 hbY hc9 z0 z1 z2 g0 g1 g2 hcur hs9 hs99
              go_upto_region 26 with fail
              refine wp_alw ?_
              intro W9 hW9
              have b4 : blk W9 w.heap.size [.int .i64 R.1.1.most, .slice (some ⟨rb2, 0, none⟩) R.1.1.nodes.length cap2, .int .i64 R.1.2] := by rw [hW9]; exact ((BB4.out.set (i := 0) _).set (i := 1) _).set (i := 2) _
              have hc89 := set3_ch hW9
              clear hW9
              have b8 := BB8.out.ch hc89 (by simp)
              have hrY := HRY.out.ch hc89 (by rcases hfr4 with e | e <;> simp <;> omega)
              have hcw : Ch [] w W9 := (HCI.out.trans HC68.out (by simp)).trans hc89 (fun k hk => .inr (by simp at hk; omega))
              have hc1w : Ch [w.heap.size] W6 W9 := (HC1I.out.trans (HC68.out.mono (by simp)) (fun k hk => .inl hk)).trans hc89 (fun k hk => .inl hk)
              have hrow := (HROW.out.ch HC68.out (by simp)).ch hc89 (fun k hk hk2 => by have := (HOWN.out k (by simpa using hk)).1; simp at hk2; omega)
              have hcA : Ch [] W9 (W9.alloc (.cells #[.int .i64 R.2] 3)) := (Ch.refl _ _).alloc _
              have hrA := hrow.ch hcA (by simp)
              have hbA : blk (W9.alloc (.cells #[.int .i64 R.2] 3)) W9.heap.size [.int .i64 R.2] := blk.new' _ _ rfl
              have hz9 : wr.heap.size ≤ W9.heap.size := Nat.le_trans HC68.out.size hc89.size
              have HRA := Lib.hid hrA; clear hrA hrow
              have HBA := Lib.hid hbA; clear hbA
              have HCA := Lib.hid hcA; clear hcA
              have BF4 := Lib.hid b4; clear b4
              have BF8 := Lib.hid b8; clear b8
              have HRZ := Lib.hid hrY; clear hrY
              have HCW := Lib.hid hcw; clear hcw
              have HC1W := Lib.hid hc1w; clear hc1w hc89
              clear BB4 BB8 HRY x0 x1 x2 y0 y1 y2 f0 f1 f2 HC68 B4 B8
              go_wp2_with (at_builtin; go_loud (refine wpList_append_row slInts rfl _ _ rfl (v := .slice na j nc) (n := j) (xs := intCells (natInts l2)) rfl HRA.out (ad := ⟨W9.heap.size, 0, none⟩) (m := 1) (c := 1) (news := [.int .i64 R.2]) rfl rfl (news_blk HBA.out) (by simp [Value.oneCell']) (by omega) (by omega) ?_; intro v' wz hown4 hC4 hf4; have HO4 := Lib.hid hown4; clear hown4; have HC4 := Lib.hid hC4; clear hC4; have HF4 := Lib.hid hf4; clear hf4))
              go_roundw
              case rel =>
                have hown9 : ∀ q ∈ (Value.slice na j nc).ownBlock.toList, W6.heap.size ≤ q ∧ q < wr.heap.size := fun q hq => ⟨(HOWN.out q hq).1, (HROW.out.lt q (by simpa using hq)).2⟩
                have hrb2 : rb2 < W9.heap.size := HRZ.out.lt
                have hz4 : W9.heap.size ≤ wz.heap.size := Nat.le_trans HCA.out.size HC4.out.size
                have hno : ∀ q ∈ (Value.slice na j nc).ownBlock.toList, q ≠ rb2 := fun q hq => by have h1 := HOWN.out q hq; have h2 := hown9 q hq; rcases hfr5 with e | e <;> omega
                refine ⟨j + 1, rb2, cap2, by omega, by go_num, ?_, ?_, hfr4, ?_, ?_, ?_, ?_, fun q hq => ?_⟩
                · rw [HEN.out, natInts_snoc]; exact HO4.out
                · rw [HEN.out]; exact (HRZ.out.ch HCA.out (by simp)).ch HC4.out (fun hin => hno _ hin rfl)
                · rw [HEN.out]; exact (BF4.out.ch HCA.out (by simp)).ch HC4.out (fun hin => by have := hown9 _ hin; omega)
                · exact (BF8.out.ch HCA.out (by simp)).ch HC4.out (fun hin => by have := hown9 _ hin; omega)
                · exact (HCW.out.trans HCA.out (by simp)).trans HC4.out (fun q hq => .inr (by have := hown9 q hq; omega))
                · exact (HC1W.out.trans (HCA.out.mono (by simp)) (fun k hk => .inl hk)).trans HC4.out (fun q hq => .inr (by have := hown9 q hq; omega))
                · rcases HF4.out q (by simpa using hq) with e | e
                  · have hq2 : q ∈ (Value.slice na j nc).ownBlock.toList := by simpa using e
                    exact ⟨(hown9 q hq2).1, hno q hq2⟩
                  · have := HCA.out.size; have := HC1W.out.size; exact ⟨by omega, by omega⟩
              case measure => simp [intOf]; omega
          · have hjn2 : j = n := by omega
            have hall : Z.take j = Z := List.take_of_length_le (by rw [HZL.out]; omega)
            rw [hall, ← HRES.out] at hrow hrg b4
            have hRl : RR.2.length = n := by rw [HRES.out, HELEN.out, HZL.out]
            obtain ⟨na, nc, rfl⟩ := row.shape hrow
            rw [hjn2] at hrow hown
            have hsl := Sl.of_ints hrow (by omega)
            have hnlt := hrow.lt
            have v0 := b8.cell (i := 0) rfl
            have v1 := b8.cell (i := 1) rfl
            have v2 := b8.cell (i := 2) rfl
            have g0 := b8.frozen (i := 0)
            have g1 := b8.frozen (i := 1)
            have g2 := b8.frozen (i := 2)
            have y0 := b4.cell (i := 0) rfl
            have y1 := b4.cell (i := 1) rfl
            have y2 := b4.cell (i := 2) rfl
            have hz8 := b8.lt
            have hz6 := hw6
            have HRL := Lib.hid hRl; clear hRl
            have HRG := Lib.hid hrg; clear hrg
            have HC := Lib.hid hc; clear hc
            have HSL := Lib.hid hsl; clear hsl
            have HOWN := Lib.hid hown; clear hown hall hrow b4 b8
            clear hc1
            go_wp2_with fail
            have hcc := set3_ch (w := wr) (b := w.heap.size + 1) (u := .int .i64 RR.1.1.most) (v := .slice (some ⟨rbi, 0, none⟩) RR.1.1.nodes.length capi) (x := .int .i64 RR.1.2) rfl
            refine bodyPost_ret (v := .tuple #[.agg #[.int .i64 RR.1.1.most, .slice (some ⟨rbi, 0, none⟩) RR.1.1.nodes.length capi, .int .i64 RR.1.2], .slice na j nc]) (by simp [results, Try.results96, go_sem, v0, v1, v2]) rfl ?_
            exact ⟨rbi, capi, na, nc, by rw [HRL.out, hjn2], HRG.out.ch hcc (by simp; omega), HC.out.trans hcc (fun q hq => .inr (by simp at hq; omega)), by omega, HSL.out.ch hcc (fun p hp => by subst hp; have := (HOWN.out p.block (by simp)).1; simp; omega), fun p hp => .inr (by subst hp; have := (HOWN.out p.block (by simp)).1; omega)⟩
end
end Go.Proofs.Ytchledddgmbndaa
namespace Go.Aig
/-- what the program tells of a node -/
theorem node_tells {G : Gra} (h : Ok G) {n : Nat} {x : Nd} (hx : G.nodes[n]? = some x) : kindOf G.nodes ((2 * n : Nat) : Int) = x.k ∧ lOf G.nodes ((2 * n : Nat) : Int) = x.l ∧ rOf G.nodes ((2 * n : Nat) : Int) = x.r ∧ x.k ≤ 3 := by
  have hn : nodeAt G.nodes ((2 * n : Nat) : Int) = some x := by
    unfold nodeAt
    rw [if_pos (by omega), Int.toNat_natCast, show 2 * n / 2 = n by omega, hx]
  unfold kindOf lOf rOf
  rw [hn]
  refine ⟨rfl, ?_, ?_, ?_⟩
  · show (if x.k = 3 then x.l else 0) = x.l
    by_cases h0 : n = 0
    · subst h0; rw [h.wf.const] at hx; cases hx; rfl
    · rcases h.wf.other n x hx (by omega) with e | e
      · rw [e]; rfl
      · rw [if_pos e.1]
  · show (if x.k = 3 then x.r else 0) = x.r
    by_cases h0 : n = 0
    · subst h0; rw [h.wf.const] at hx; cases hx; rfl
    · rcases h.wf.other n x hx (by omega) with e | e
      · rw [e]; rfl
      · rw [if_pos e.1]
  · by_cases h0 : n = 0
    · subst h0; rw [h.wf.const] at hx; cases hx; decide
    · rcases h.wf.other n x hx (by omega) with e | e
      · rw [e]; decide
      · omega
end Go.Aig
namespace Go.Proofs.Ytchledddgmbndaa
open Go.RowKit Go.Mem Go.Aig
section
variable {w : World} {g : Nat} {G : Gra} {F : List Nat}
theorem Room_j (h : GIn w g G F) : Calls Try.prog 45 #[.pointer (some ⟨g, 0, none⟩)] w fun e w' => e = .returned (.int .i64 ((G.most : Int) - G.nodes.length)) ∧ Ch [] w w' := by
  have hr := h.ok.room
  have hc := Room_g h
  rw [show ((G.most - G.nodes.length : Nat) : Int) = (G.most : Int) - G.nodes.length by omega] at hc
  exact hc
set_option maxRecDepth 100000 in
set_option maxHeartbeats 4000000 in
theorem Same23_is (h : GIn w g G F) {rb cap : Nat} (hr : RG w rb cap G) :
    Calls Try.prog 97 #[.pointer (some ⟨g, 0, none⟩), .agg #[.int .i64 G.most, .slice (some ⟨rb, 0, none⟩) G.nodes.length cap]] w fun e w' => e = .returned (.bool true) ∧ Ch [] w w' := by
  obtain ⟨hl, hp, hmo⟩ := hr.len
  have hle := hr.le
  have hmx := hr.mx
  have hml : (G.nodes.length : Int) ≤ G.most := by have := hr.ok.room; omega
  have htl := fun n x (hx : G.nodes[n]? = some x) => node_tells hr.ok hx
  have HTL := Lib.hid htl; clear htl
  have H := Lib.hid h; clear h
  have HR := Lib.hid hr; clear hr
  go_enter Try.func97, Try.ntmps97
  go_upto_region 1 with fail
  refine wp_alw ?_
  intro W0 hW0
  have hc0 : Ch [] w W0 := by rw [hW0]; exact (Ch.refl _ _).alloc _
  have b3 : blk W0 w.heap.size [.int .i64 G.most, .slice (some ⟨rb, 0, none⟩) G.nodes.length cap] := by rw [hW0]; exact blk.new' (w := w) [.int .i64 G.most, .slice (some ⟨rb, 0, none⟩) G.nodes.length cap] 132 rfl
  clear hW0
  have hg0 := H.out.same hc0 (by simp)
  have hLen := Len_g (hg0.same (Ch.refl [] W0).drew (by simp))
  have hRoom := Room_j (hg0.same (Ch.refl [] W0).drew (by simp))
  have HLEN := Lib.hid hLen; clear hLen
  have HROOM := Lib.hid hRoom; clear hRoom hg0
  have y0 := b3.cell (i := 0) rfl
  have y1 := b3.cell (i := 1) rfl
  have BB3 := Lib.hid b3; clear b3
  have HC0 := Lib.hid hc0; clear hc0
  go_wp2_with fail
  have hcurd : Ch [] W0 W0.drew := (Ch.refl [] W0).drew
  refine Ord.St.door (fun w' => Ch [] W0 w') [.fl, .rd, .fl, .rd, .fl, .fl, .fl, .fl, .ef, .fl, .ho, .fl, .ho, .fl, .fl, .fl, .fl] [0, 1, 0, 4, 12, 31, 63, 127, 255, 127, 639, 127, 2175, 6271, 15999, 32767, 65535] [0, 1, 2, 3, 4, 5, 6, 7, 8, 9, 10, 11, 12, 13, 14, 15, 16] mixed (by kernel_rfl) rfl ?_
  refine Ord.St.fl2 (T' := ?_) 0 [1, 2, 3, 4, 5, 6, 7, 8, 9, 10, 11, 12, 13, 14, 15, 16] _ _ rfl (by kernel_rfl) rfl rfl rfl rfl (fun K w' hk => ?_) ?_
  rotate_left
  · go_step; exact hk
  refine Ord.St.rd2 (T' := ?_) 1 [2, 3, 4, 5, 6, 7, 8, 9, 10, 11, 12, 13, 14, 15, 16] _ _ rfl (by kernel_rfl) rfl rfl rfl rfl (fun K hk => ?_) ?_
  rotate_left
  · go_step; refine HLEN.out.mono ?_; rintro e w'' ⟨rfl, rfl⟩; exact hk
  refine Ord.St.fl2 (T' := ?_) 2 [3, 4, 5, 6, 7, 8, 9, 10, 11, 12, 13, 14, 15, 16] _ _ rfl (by kernel_rfl) rfl rfl rfl rfl (fun K w' hk => ?_) ?_
  rotate_left
  · go_step; exact hk
  refine Ord.St.rd2 (T' := ?_) 3 [4, 5, 6, 7, 8, 9, 10, 11, 12, 13, 14, 15, 16] _ _ rfl (by kernel_rfl) rfl rfl rfl rfl (fun K hk => ?_) ?_
  rotate_left
  · go_step; exact hk
  refine Ord.St.fl2 (T' := ?_) 4 [5, 6, 7, 8, 9, 10, 11, 12, 13, 14, 15, 16] _ _ rfl (by kernel_rfl) rfl rfl rfl rfl (fun K w' hk => ?_) ?_
  rotate_left
  · go_step; exact hk
  refine Ord.St.fl2 (T' := ?_) 5 [6, 7, 8, 9, 10, 11, 12, 13, 14, 15, 16] _ _ rfl (by kernel_rfl) rfl rfl rfl rfl (fun K w' hk => ?_) ?_
  rotate_left
  · go_step; exact hk
  refine Ord.St.fl2 (T' := ?_) 6 [7, 8, 9, 10, 11, 12, 13, 14, 15, 16] _ _ rfl (by kernel_rfl) rfl rfl rfl rfl (fun K w' hk => ?_) ?_
  rotate_left
  · go_step; exact hk
  first | (refine Ord.St.fl2 (T' := ?_) 7 [8, 9, 10, 11, 12, 13, 14, 15, 16] _ _ rfl (by kernel_rfl) ?_ rfl rfl rfl (fun K w' hk => ?_) ?_; rotate_left; (first | rfl | (simp [Region.wanted, yielded, *]; done)); focus (go_step; exact hk)) | (refine Ord.St.skip 7 [8, 9, 10, 11, 12, 13, 14, 15, 16] _ rfl (by kernel_rfl) ?_ (fun K hK => ?_); (first | rfl | (simp [Region.wanted, yielded, *]; done)); go_simp; refine hK _ ?_; clear hK K)
  first | (refine Ord.St.fl2 (T' := ?_) 9 [8, 10, 11, 12, 13, 14, 15, 16] _ _ rfl (by kernel_rfl) ?_ rfl rfl rfl (fun K w' hk => ?_) ?_; rotate_left; (first | rfl | (simp [Region.wanted, yielded, *]; done)); focus (go_step; exact hk)) | (refine Ord.St.skip 9 [8, 10, 11, 12, 13, 14, 15, 16] _ rfl (by kernel_rfl) ?_ (fun K hK => ?_); (first | rfl | (simp [Region.wanted, yielded, *]; done)); go_simp; refine hK _ ?_; clear hK K)
  refine Ord.St.ho2 (T' := ?_) 10 [8, 11, 12, 13, 14, 15, 16] _ _ rfl (by kernel_rfl) (by first | rfl | simp [Region.wanted, yielded, *]) rfl rfl rfl ?_ (fun K w' hw' hk => ?_) ?_
  rotate_left
  · trivial
  · have z0 := (BB3.out.ch hw' (by simp)).cell (i := 0) rfl; have z1 := (BB3.out.ch hw' (by simp)).cell (i := 1) rfl; go_step; exact hk
  first | (refine Ord.St.fl2 (T' := ?_) 11 [8, 12, 13, 14, 15, 16] _ _ rfl (by kernel_rfl) ?_ rfl rfl rfl (fun K w' hk => ?_) ?_; rotate_left; (first | rfl | (simp [Region.wanted, yielded, *]; done)); focus (go_step; exact hk)) | (refine Ord.St.skip 11 [8, 12, 13, 14, 15, 16] _ rfl (by kernel_rfl) ?_ (fun K hK => ?_); (first | rfl | (simp [Region.wanted, yielded, *]; done)); go_simp; refine hK _ ?_; clear hK K)
  refine Ord.St.ho2 (T' := ?_) 12 [8, 13, 14, 15, 16] _ _ rfl (by kernel_rfl) (by first | rfl | simp [Region.wanted, yielded, *]) rfl rfl rfl ?_ (fun K w' hw' hk => ?_) ?_
  rotate_left
  · trivial
  · have z0 := (BB3.out.ch hw' (by simp)).cell (i := 0) rfl; have z1 := (BB3.out.ch hw' (by simp)).cell (i := 1) rfl; go_step; exact hk
  first | (refine Ord.St.fl2 (T' := ?_) 13 [8, 14, 15, 16] _ _ rfl (by kernel_rfl) ?_ rfl rfl rfl (fun K w' hk => ?_) ?_; rotate_left; (first | rfl | (simp [Region.wanted, yielded, *]; done)); focus (go_step; exact hk)) | (refine Ord.St.skip 13 [8, 14, 15, 16] _ rfl (by kernel_rfl) ?_ (fun K hK => ?_); (first | rfl | (simp [Region.wanted, yielded, *]; done)); go_simp; refine hK _ ?_; clear hK K)
  first | (refine Ord.St.fl2 (T' := ?_) 14 [8, 15, 16] _ _ rfl (by kernel_rfl) ?_ rfl rfl rfl (fun K w' hk => ?_) ?_; rotate_left; (first | rfl | (simp [Region.wanted, yielded, *]; done)); focus (go_step; exact hk)) | (refine Ord.St.skip 14 [8, 15, 16] _ rfl (by kernel_rfl) ?_ (fun K hK => ?_); (first | rfl | (simp [Region.wanted, yielded, *]; done)); go_simp; refine hK _ ?_; clear hK K)
  refine Ord.St.efC 8 [15, 16] _ rfl (by kernel_rfl) (fun K hK => ?_)
  go_wp2_with fail
  refine HROOM.out.mono ?_
  rintro e w2 ⟨rfl, hc2⟩
  have hcur : Ch [] W0 w2 := (Ch.refl [] W0).drew.trans hc2 (by simp)
  have b3 := BB3.out.ch hcur (by simp)
  have x0 := b3.cell (i := 0) rfl
  have x1 := b3.cell (i := 1) rfl
  clear hcurd b3 y0 y1 hc2 HROOM HLEN
  go_wp2_with fail
  refine ⟨rfl, hK _ _ ?_ ?_⟩
  · exact hcur
  clear hK K
  first | (refine Ord.St.fl2 (T' := ?_) 15 [16] _ _ rfl (by kernel_rfl) ?_ rfl rfl rfl (fun K w' hk => ?_) ?_; rotate_left; (first | rfl | (simp [Region.wanted, yielded, *]; done)); focus (go_step; exact hk)) | (refine Ord.St.skip 15 [16] _ rfl (by kernel_rfl) ?_ (fun K hK => ?_); (first | rfl | (simp [Region.wanted, yielded, *]; done)); go_simp; refine hK _ ?_; clear hK K)
  refine Ord.St.fl2 (T' := ?_) 16 [] _ _ rfl (by kernel_rfl) rfl rfl rfl rfl (fun K w' hk => ?_) ?_
  rotate_left
  · go_step; exact hk
  refine Ord.St.nil ?_
  go_wp2_with fail
  have HC2 := Lib.hid hcur; clear hcur x0 x1
  go_loopw [30] (fun i wr => ∃ k : Nat, k ≤ G.nodes.length ∧ i = .int .i64 k ∧ Ch [] w wr) (fun i _ => G.nodes.length - (intOf i).toNat)
  case atStart => exact ⟨0, by omega, rfl, HC0.out.trans HC2.out (by simp)⟩
  case round =>
    obtain ⟨k, hk, rfl, hc⟩ := hrel
    by_cases hlt : k < G.nodes.length
    · obtain ⟨x, hx⟩ : ∃ x, G.nodes[k]? = some x := ⟨_, List.getElem?_eq_getElem hlt⟩
      obtain ⟨t1, t2, t3, t4⟩ := HTL.out k x hx
      have hrr := HR.out.ch hc (by simp)
      obtain ⟨d0, d1, d2⟩ := hrr.node hx
      have hcA : Ch [] w (wr.alloc (.cells #[.int .i64 x.k, .int .i64 x.l, .int .i64 x.r] 165)) := hc.alloc _
      have hg1 := H.out.same hcA (by simp)
      have hS := Sides_g hg1 ((2 * k : Nat) : Int) (by omega)
      rw [t2, t3, show ((2 * k : Nat) : Int) = 2 * (k : Int) by omega] at hS
      generalize isAndAt G.nodes (2 * (k : Int)) = ia at hS
      have hK := fun (W : World) (hW : Ch [] w W) => Kind_g (H.out.same hW (by simp)) ((2 * k : Nat) : Int) (by omega)
      rw [t1, show ((2 * k : Nat) : Int) = 2 * (k : Int) by omega] at hK
      have HS := Lib.hid hS; clear hS
      have HK := Lib.hid hK; clear hK
      have HCA := Lib.hid hcA; clear hcA hc hg1 hrr t1 t2 t3 hx
      go_wp2_with fail
      refine HS.out.mono ?_
      rintro e w3 ⟨rfl, hc3⟩
      have b6 : blk w3 wr.heap.size [.int .i64 x.k, .int .i64 x.l, .int .i64 x.r] := (blk.new' (w := wr) [.int .i64 x.k, .int .i64 x.l, .int .i64 x.r] 165 (by simp)).ch hc3 (by simp)
      have hc13 := HCA.out.trans hc3 (by simp)
      have HKK := Lib.hid (HK.out _ hc13.drew)
      have z0 := b6.cell (i := 0) rfl
      have z1 := b6.cell (i := 1) rfl
      have z2 := b6.cell (i := 2) rfl
      have HC13 := Lib.hid hc13; clear hc13 hc3 b6 HS HK d0 d1 d2
      go_wp2_with fail
      refine Ord.St.door (fun _ => True) [.fl, .fl, .fl, .rd, .fl, .fl, .rd, .fl, .fl, .fl, .fl, .rd, .fl, .fl, .fl, .fl, .fl, .rd, .fl, .fl] [0, 0, 2, 7, 15, 0, 32, 127, 255, 511, 511, 1535, 4095, 8191, 16383, 32767, 32767, 98303, 262143, 524287] [0, 1, 2, 3, 4, 5, 6, 7, 8, 9, 10, 11, 12, 13, 14, 15, 16, 17, 18, 19] mixed (by kernel_rfl) rfl ?_
      refine Ord.St.fl2 (T' := ?_) 0 [1, 2, 3, 4, 5, 6, 7, 8, 9, 10, 11, 12, 13, 14, 15, 16, 17, 18, 19] _ _ rfl (by kernel_rfl) rfl rfl rfl rfl (fun K w' hk => ?_) ?_
      rotate_left
      · go_step; exact hk
      refine Ord.St.fl2 (T' := ?_) 1 [2, 3, 4, 5, 6, 7, 8, 9, 10, 11, 12, 13, 14, 15, 16, 17, 18, 19] _ _ rfl (by kernel_rfl) rfl rfl rfl rfl (fun K w' hk => ?_) ?_
      rotate_left
      · go_step; exact hk
      refine Ord.St.fl2 (T' := ?_) 2 [3, 4, 5, 6, 7, 8, 9, 10, 11, 12, 13, 14, 15, 16, 17, 18, 19] _ _ rfl (by kernel_rfl) rfl rfl rfl rfl (fun K w' hk => ?_) ?_
      rotate_left
      · go_step; exact hk
      refine Ord.St.rd2 (T' := ?_) 3 [4, 5, 6, 7, 8, 9, 10, 11, 12, 13, 14, 15, 16, 17, 18, 19] _ _ rfl (by kernel_rfl) rfl rfl rfl rfl (fun K hk => ?_) ?_
      rotate_left
      · go_step; refine HKK.out.mono ?_; rintro e w'' ⟨rfl, rfl⟩; exact hk
      refine Ord.St.fl2 (T' := ?_) 4 [5, 6, 7, 8, 9, 10, 11, 12, 13, 14, 15, 16, 17, 18, 19] _ _ rfl (by kernel_rfl) rfl rfl rfl rfl (fun K w' hk => ?_) ?_
      rotate_left
      · go_step; exact hk
      refine Ord.St.fl2 (T' := ?_) 5 [6, 7, 8, 9, 10, 11, 12, 13, 14, 15, 16, 17, 18, 19] _ _ rfl (by kernel_rfl) rfl rfl rfl rfl (fun K w' hk => ?_) ?_
      rotate_left
      · go_step; exact hk
      refine Ord.St.rd2 (T' := ?_) 6 [7, 8, 9, 10, 11, 12, 13, 14, 15, 16, 17, 18, 19] _ _ rfl (by kernel_rfl) rfl rfl rfl rfl (fun K hk => ?_) ?_
      rotate_left
      · go_step; exact hk
      refine Ord.St.fl2 (T' := ?_) 7 [8, 9, 10, 11, 12, 13, 14, 15, 16, 17, 18, 19] _ _ rfl (by kernel_rfl) rfl rfl rfl rfl (fun K w' hk => ?_) ?_
      rotate_left
      · go_step; exact hk
      refine Ord.St.fl2 (T' := ?_) 8 [9, 10, 11, 12, 13, 14, 15, 16, 17, 18, 19] _ _ rfl (by kernel_rfl) rfl rfl rfl rfl (fun K w' hk => ?_) ?_
      rotate_left
      · go_step; exact hk
      first | (refine Ord.St.fl2 (T' := ?_) 9 [10, 11, 12, 13, 14, 15, 16, 17, 18, 19] _ _ rfl (by kernel_rfl) ?_ rfl rfl rfl (fun K w' hk => ?_) ?_; rotate_left; (first | rfl | (simp [Region.wanted, yielded, *]; done)); focus (go_step; exact hk)) | (refine Ord.St.skip 9 [10, 11, 12, 13, 14, 15, 16, 17, 18, 19] _ rfl (by kernel_rfl) ?_ (fun K hK => ?_); (first | rfl | (simp [Region.wanted, yielded, *]; done)); go_simp; refine hK _ ?_; clear hK K)
      first | (refine Ord.St.fl2 (T' := ?_) 10 [11, 12, 13, 14, 15, 16, 17, 18, 19] _ _ rfl (by kernel_rfl) ?_ rfl rfl rfl (fun K w' hk => ?_) ?_; rotate_left; (first | rfl | (simp [Region.wanted, yielded, *]; done)); focus (go_step; exact hk)) | (refine Ord.St.skip 10 [11, 12, 13, 14, 15, 16, 17, 18, 19] _ rfl (by kernel_rfl) ?_ (fun K hK => ?_); (first | rfl | (simp [Region.wanted, yielded, *]; done)); go_simp; refine hK _ ?_; clear hK K)
      first | (refine Ord.St.rd2 (T' := ?_) 11 [12, 13, 14, 15, 16, 17, 18, 19] _ _ rfl (by kernel_rfl) ?_ rfl rfl rfl (fun K hk => ?_) ?_; rotate_left; (first | rfl | (simp [Region.wanted, yielded, *]; done)); focus (go_step; exact hk)) | (refine Ord.St.skipr 11 [12, 13, 14, 15, 16, 17, 18, 19] _ rfl (by kernel_rfl) ?_ (fun K hK => ?_); (first | rfl | (simp [Region.wanted, yielded, *]; done)); go_simp; refine hK _ ?_; clear hK K)
      first | (refine Ord.St.fl2 (T' := ?_) 12 [13, 14, 15, 16, 17, 18, 19] _ _ rfl (by kernel_rfl) ?_ rfl rfl rfl (fun K w' hk => ?_) ?_; rotate_left; (first | rfl | (simp [Region.wanted, yielded, *]; done)); focus (go_step; exact hk)) | (refine Ord.St.skip 12 [13, 14, 15, 16, 17, 18, 19] _ rfl (by kernel_rfl) ?_ (fun K hK => ?_); (first | rfl | (simp [Region.wanted, yielded, *]; done)); go_simp; refine hK _ ?_; clear hK K)
      refine Ord.St.fl2 (T' := ?_) 13 [14, 15, 16, 17, 18, 19] _ _ rfl (by kernel_rfl) rfl rfl rfl rfl (fun K w' hk => ?_) ?_
      rotate_left
      · go_step; exact hk
      refine Ord.St.fl2 (T' := ?_) 14 [15, 16, 17, 18, 19] _ _ rfl (by kernel_rfl) rfl rfl rfl rfl (fun K w' hk => ?_) ?_
      rotate_left
      · go_step; exact hk
      first | (refine Ord.St.fl2 (T' := ?_) 15 [16, 17, 18, 19] _ _ rfl (by kernel_rfl) ?_ rfl rfl rfl (fun K w' hk => ?_) ?_; rotate_left; (first | rfl | (simp [Region.wanted, yielded, *]; done)); focus (go_step; exact hk)) | (refine Ord.St.skip 15 [16, 17, 18, 19] _ rfl (by kernel_rfl) ?_ (fun K hK => ?_); (first | rfl | (simp [Region.wanted, yielded, *]; done)); go_simp; refine hK _ ?_; clear hK K)
      first | (refine Ord.St.fl2 (T' := ?_) 16 [17, 18, 19] _ _ rfl (by kernel_rfl) ?_ rfl rfl rfl (fun K w' hk => ?_) ?_; rotate_left; (first | rfl | (simp [Region.wanted, yielded, *]; done)); focus (go_step; exact hk)) | (refine Ord.St.skip 16 [17, 18, 19] _ rfl (by kernel_rfl) ?_ (fun K hK => ?_); (first | rfl | (simp [Region.wanted, yielded, *]; done)); go_simp; refine hK _ ?_; clear hK K)
      first | (refine Ord.St.rd2 (T' := ?_) 17 [18, 19] _ _ rfl (by kernel_rfl) ?_ rfl rfl rfl (fun K hk => ?_) ?_; rotate_left; (first | rfl | (simp [Region.wanted, yielded, *]; done)); focus (go_step; exact hk)) | (refine Ord.St.skipr 17 [18, 19] _ rfl (by kernel_rfl) ?_ (fun K hK => ?_); (first | rfl | (simp [Region.wanted, yielded, *]; done)); go_simp; refine hK _ ?_; clear hK K)
      first | (refine Ord.St.fl2 (T' := ?_) 18 [19] _ _ rfl (by kernel_rfl) ?_ rfl rfl rfl (fun K w' hk => ?_) ?_; rotate_left; (first | rfl | (simp [Region.wanted, yielded, *]; done)); focus (go_step; exact hk)) | (refine Ord.St.skip 18 [19] _ rfl (by kernel_rfl) ?_ (fun K hK => ?_); (first | rfl | (simp [Region.wanted, yielded, *]; done)); go_simp; refine hK _ ?_; clear hK K)
      refine Ord.St.fl2 (T' := ?_) 19 [] _ _ rfl (by kernel_rfl) rfl rfl rfl rfl (fun K w' hk => ?_) ?_
      rotate_left
      · go_step; exact hk
      refine Ord.St.nil ?_
      go_wp2_with fail
      go_roundw
      case rel => exact ⟨k + 1, by omega, by go_num, HC13.out.drew⟩
      case measure => simp [intOf]; omega
    · have HC := Lib.hid hc; clear hc
      go_wp2_with fail
      go_ret
      exact ⟨rfl, HC.out⟩
end
end Go.Proofs.Ytchledddgmbndaa
namespace Go.Proofs.Ytchledddgmbndaa
open Go.RowKit Go.Mem Go.Aig
/-- a graph, and the same one of the reference, apart from each other, made since a world -/
structure Both (w0 w : World) (g rb cap : Nat) (G : Gra) (F : List Nat) : Prop where
  gin : GIn w g G F
  rg : RG w rb cap G
  ap : rb ∉ F
  own : ∀ k ∈ F, w0.heap.size ≤ k
  rlo : w0.heap.size ≤ rb
  ch : Ch [] w0 w
theorem Both.same {w0 w w' : World} {g rb cap : Nat} {G : Gra} {F : List Nat} (h : Both w0 w g rb cap G F) (hc : Ch [] w w') : Both w0 w' g rb cap G F :=
  ⟨h.gin.same hc (by simp), h.rg.ch hc (by simp), h.ap, h.own, h.rlo, h.ch.trans hc (by simp)⟩
/-- both graphs are changed in the same way -/
theorem Both.next {w0 w w1 w2 : World} {g rb cap : Nat} {G G' : Gra} {F F' : List Nat} (h : Both w0 w g rb cap G F) (hg : GIn w1 g G' F') (hc1 : Ch F w w1) (hF : ∀ k ∈ F', k ∈ F ∨ w.heap.size ≤ k) {rb' cap' : Nat} (hr : RG w2 rb' cap' G') (hc2 : Ch [] w1 w2) (hb : rb' = rb ∨ w1.heap.size ≤ rb') : Both w0 w2 g rb' cap' G' F' := by
  have hrl := h.rg.lt
  have hz := hc1.size
  refine ⟨hg.same hc2 (by simp), hr, fun hin => ?_, fun k hk => (hF k hk).elim (h.own k) (fun e => Nat.le_trans h.ch.size e), ?_, (h.ch.trans hc1 (fun k hk => .inr (h.own k hk))).trans hc2 (by simp)⟩
  · have hlt := hg.lt _ hin
    rcases hb with rfl | e
    · rcases hF _ hin with e | e
      · exact h.ap e
      · omega
    · omega
  · rcases hb with rfl | e
    · exact h.rlo
    · have := h.ch.size; omega
theorem Both.set {w0 w w' : World} {g rb cap b : Nat} {G : Gra} {F : List Nat} (h : Both w0 w g rb cap G F) (hc : Ch [b] w w') (hb : b ∉ F) (hr : rb ≠ b) (hlo : w0.heap.size ≤ b) : Both w0 w' g rb cap G F :=
  ⟨h.gin.same hc (fun k hk hk2 => hb (by rw [List.mem_singleton.1 hk2] at hk; exact hk)), h.rg.ch hc (by simpa using hr), h.ap, h.own, h.rlo, h.ch.trans hc (fun k hk => .inr (by rw [List.mem_singleton.1 hk]; exact hlo))⟩
section
set_option maxRecDepth 100000 in
set_option maxHeartbeats 4000000 in
theorem Begin23_no (w : World) (M : Int) (N : Nat) (hM : M < 1 ∨ 65536 < M) : Calls Try.prog 94 #[.agg #[.int .i64 M, .int .u8 N]] w fun e w' => e = .returned (.tuple #[.pointer none, .agg #[.int .i64 0, .slice none 0 0]]) ∧ Ch [] w w' := by
  have hN := fun W => New_no (w := W) M hM
  have hR := fun W => rNew_no W M hM
  clear hM
  go_enter Try.func94, Try.ntmps94
  go_wp2_with fail
  refine (hN _).mono ?_
  rintro e w' ⟨rfl, rfl⟩
  go_wp2_with fail
  refine calls_named fun W hW => ?_
  have b1 : blk W w.heap.size [.int .i64 M, .int .u8 N] := by rw [hW]; exact (blk.new' _ _ (by simp)).alloc _
  have b3 : blk W (w.heap.size + 1) [.int .i64 0, .slice none 0 0] := by rw [hW]; exact blk.new' _ _ (by simp)
  have hc : Ch [] w W := by rw [hW]; exact ((Ch.refl _ _).alloc _).alloc _
  clear hW
  refine (hR W).mono ?_
  rintro e w1 ⟨rfl, hc1⟩
  have b3 := b3.ch hc1 (by simp)
  have z0 := b3.cell (i := 0) rfl
  have z1 := b3.cell (i := 1) rfl
  have f0 := b3.frozen (i := 0)
  have f1 := b3.frozen (i := 1)
  have hz1 := b3.lt
  have HC := Lib.hid (hc.trans hc1 (by simp)); clear hc hc1 b3 b1
  go_wp2_with fail
  refine bodyPost_ret (v := .tuple #[.pointer none, .agg #[.int .i64 0, .slice none 0 0]]) (by simp [results, Try.results94, go_sem, z0, z1, hz1]) rfl ?_
  refine ⟨rfl, ?_⟩
  refine Ch.trans HC.out (F' := [w.heap.size + 1]) ?_ (fun k hk => .inr (by simp at hk; omega))
  repeat (first | exact Ch.refl _ _ | refine Ch.alloc ?_ _ | refine Ch.setCell ?_ (.inl (by simp)) _)
set_option maxRecDepth 100000 in
set_option maxHeartbeats 8000000 in
theorem Begin23_yes (w : World) (M N : Nat) (h1 : 1 ≤ M) (h2 : M ≤ 65536) (_hN : N ≤ 255) : Calls Try.prog 94 #[.agg #[.int .i64 M, .int .u8 N]] w fun e w' => ∃ g F rb cap G, e = .returned (.tuple #[.pointer (some ⟨g, 0, none⟩), .agg #[.int .i64 G.most, .slice (some ⟨rb, 0, none⟩) G.nodes.length cap]]) ∧ Both w w' g rb cap G F := by
  have hN := fun W => New_yes (w := W) M h1 h2
  have hR := fun W => rNew_yes W M h1 h2
  obtain ⟨n, hn, hn40⟩ : ∃ n, N % 40 = n ∧ n < 40 := ⟨_, rfl, by omega⟩
  have hni : (N : Int) % 40 = n := by omega
  clear hn
  have HN := Lib.hid hN; clear hN
  have HR := Lib.hid hR; clear hR
  go_enter Try.func94, Try.ntmps94
  go_wp2_with fail
  refine calls_named fun W hW => ?_
  have b1 : blk W w.heap.size [.int .i64 M, .int .u8 N] := by rw [hW]; exact (blk.new' _ _ (by simp)).alloc _
  have b3 : blk W (w.heap.size + 1) [.int .i64 0, .slice none 0 0] := by rw [hW]; exact blk.new' _ _ (by simp)
  have hc : Ch [] w W := by rw [hW]; exact ((Ch.refl _ _).alloc _).alloc _
  have hz : W.heap.size = w.heap.size + 2 := by rw [hW]; simp
  clear hW
  refine (HN.out W).mono ?_
  rintro e w1 ⟨g, F1, rfl, hg1, hF1, hc1⟩
  have b1 := b1.ch hc1 (by simp)
  have b3 := b3.ch hc1 (by simp)
  have hc := hc.trans hc1 (by simp)
  have x0 := b1.cell (i := 0) rfl
  have x1 := b1.cell (i := 1) rfl
  have hF2 : ∀ k ∈ F1, w.heap.size + 2 ≤ k ∧ k < w1.heap.size := fun k hk => ⟨by have := hF1 k hk; omega, hg1.lt k hk⟩
  have HF2 := Lib.hid hF2; clear hF2 hF1 hc1
  have HC := Lib.hid hc; clear hc
  have HG1 := Lib.hid hg1; clear hg1
  have B1 := Lib.hid b1; clear b1
  have B3 := Lib.hid b3; clear b3
  go_wp2_with fail
  refine (HR.out _).mono ?_
  rintro e w2 ⟨rb, cap, rfl, hrg, hc2, hlo⟩
  have hz2 := hc2.size
  have hz3 := B3.out.lt
  have hbt : Both w w2 g rb cap (newG M) F1 := ⟨HG1.out.same hc2 (by simp), hrg, fun hin => by have := HF2.out _ hin; omega, fun k hk => by have := HF2.out k hk; omega, by omega, HC.out.trans hc2 (by simp)⟩
  have b1 := B1.out.ch hc2 (by simp)
  have b3 := B3.out.ch hc2 (by simp)
  generalize newG M = G0 at *
  have HBT := Lib.hid hbt; clear hbt hrg hc2 HC HG1 x0 x1
  clear B1 B3
  have B1 := Lib.hid b1; clear b1
  have B3 := Lib.hid b3; clear b3
  go_upto_region 3 with fail
  refine wp_alw ?_
  intro W3 hW3
  have hb6 := alw_blk (xs := [.int .i64 G0.most, .slice (some ⟨rb, 0, none⟩) G0.nodes.length cap]) hW3
  have hc3 := alw_ch hW3
  have hbt := HBT.out.same hc3
  have b1 := B1.out.ch hc3 (by simp)
  have b3 := B3.out.ch hc3 (by simp)
  have hrb6 : rb ≠ w2.heap.size := rg_ne HBT.out.rg
  have hlo2 : w.heap.size + 2 ≤ rb := by omega
  have h6F : w2.heap.size ∉ F1 := fun hin => by have := HF2.out _ hin; omega
  have h3F : w.heap.size + 1 ∉ F1 := fun hin => by have := HF2.out _ hin; omega
  have h6lo : w.heap.size + 2 ≤ w2.heap.size := by omega
  clear hW3 hc3 HBT B1 B3 hlo
  generalize w2.heap.size = b6 at *
  have x0 := b1.cell (i := 0) rfl
  have x1 := b1.cell (i := 1) rfl
  have HBT := Lib.hid hbt; clear hbt
  have B6 := Lib.hid hb6; clear hb6
  have B3 := Lib.hid b3; clear b3 b1
  go_wp2_with fail
  clear hni
  go_loopw [39] (fun i wr => ∃ (k : Nat) (G : Gra) (F : List Nat) (rb cap : Nat), k ≤ n ∧ i = .int .i64 k ∧ Both w wr g rb cap G F ∧ b6 ∉ F ∧ w.heap.size + 1 ∉ F ∧ rb ≠ b6 ∧ w.heap.size + 2 ≤ rb ∧ blk wr b6 [.int .i64 G.most, .slice (some ⟨rb, 0, none⟩) G.nodes.length cap] ∧ blk wr (w.heap.size + 1) [.int .i64 0, .slice none 0 0]) (fun i _ => n - (intOf i).toNat)
  case atStart => exact ⟨0, G0, F1, rb, cap, by omega, rfl, HBT.out, h6F, h3F, hrb6, hlo2, B6.out, B3.out⟩
  case round =>
    clear HBT B6 B3 h6F h3F hrb6 hlo2 x0 x1 HN HR
    obtain ⟨k, G, F, rb, cap, hk, rfl, hbt, h6F, h3F, hrb6, hlo2, b6c, b3⟩ := hrel
    have hwr6 := b6c.lt
    by_cases hlt : k < n
    · have hI := Input_g hbt.gin
      have HI := Lib.hid hI; clear hI
      have HBT := Lib.hid hbt; clear hbt
      have B6 := Lib.hid b6c; clear b6c
      have B3 := Lib.hid b3; clear b3
      go_wp2_with fail
      refine HI.out.mono ?_
      rintro e w4 ⟨rfl, F', hg4, hc4, hF4, _⟩
      have hp := rPut_is (HBT.out.rg.ch hc4 HBT.out.ap) ⟨2, 0, 0, 0⟩ (fun hm => by
        have hok := hg4.ok
        unfold doInput put at hok
        rw [if_neg (by omega)] at hok
        exact hok)
      have b6c := B6.out.ch hc4 h6F
      have b3 := B3.out.ch hc4 h3F
      have y0 := b6c.cell (i := 0) rfl
      have y1 := b6c.cell (i := 1) rfl
      have h6F' : b6 ∉ F' := fun hin => by rcases hF4 _ hin with e | e; exact h6F e; omega
      have h3F' : w.heap.size + 1 ∉ F' := fun hin => by rcases hF4 _ hin with e | e; exact h3F e; have := B3.out.lt; omega
      have hz4 := b6c.lt
      have HP := Lib.hid hp; clear hp
      have HG4 := Lib.hid hg4; clear hg4
      have HC4 := Lib.hid hc4; clear hc4
      have HF4 := Lib.hid hF4; clear hF4
      have BB6 := Lib.hid b6c; clear b6c
      have BB3 := Lib.hid b3; clear b3
      go_wp2_with fail
      refine HP.out.mono ?_
      rintro e w5 ⟨rb', cap', rfl, hrg5, hc5, hfr⟩
      have hbt5 := HBT.out.next (G' := (put G ⟨2, 0, 0, 0⟩).1) HG4.out HC4.out HF4.out hrg5 hc5 hfr
      have hrb' : rb' ≠ b6 := by rcases hfr with e | e <;> omega
      have hlo' : w.heap.size + 2 ≤ rb' := by rcases hfr with e | e <;> omega
      generalize (put G ⟨2, 0, 0, 0⟩).1 = G1 at *
      have b6c := BB6.out.ch hc5 (by simp)
      have b3 := BB3.out.ch hc5 (by simp)
      have f0 := b6c.frozen (i := 0)
      have f1 := b6c.frozen (i := 1)
      have y0 := b6c.cell (i := 0) rfl
      have y1 := b6c.cell (i := 1) rfl
      have HBT5 := Lib.hid hbt5; clear hbt5
      have BC6 := Lib.hid b6c; clear b6c
      have BC3 := Lib.hid b3; clear b3
      clear HP HG4 HC4 HF4 BB6 BB3 hrg5 hc5 hfr HI
      go_wp2_with fail
      go_roundw
      case rel =>
        have hcs := set2_ch (w := w5) (b := b6) (u := .int .i64 G1.most) (v := .slice (some ⟨rb', 0, none⟩) G1.nodes.length cap') rfl
        exact ⟨k + 1, G1, F', rb', cap', by omega, by go_num, HBT5.out.set hcs h6F' hrb' (by omega), h6F', h3F', hrb', hlo', (BC6.out.set (i := 0) _).set (i := 1) _, BC3.out.ch hcs (by simp; omega)⟩
      case measure => simp [intOf]; omega
    · have HBT := Lib.hid hbt; clear hbt
      have B6 := Lib.hid b6c; clear b6c
      have B3 := Lib.hid b3; clear b3
      go_wp2_with fail
      go_loopw [9] (fun i wr => ∃ (k : Nat) (G : Gra) (F : List Nat) (rb cap : Nat), 1 ≤ k ∧ k ≤ n + 1 ∧ i = .int .i64 k ∧ Both w wr g rb cap G F ∧ b6 ∉ F ∧ w.heap.size + 1 ∉ F ∧ rb ≠ b6 ∧ w.heap.size + 2 ≤ rb ∧ blk wr b6 [.int .i64 G.most, .slice (some ⟨rb, 0, none⟩) G.nodes.length cap] ∧ blk wr (w.heap.size + 1) [.int .i64 0, .slice none 0 0]) (fun i _ => n - (intOf i).toNat)
      case atStart => exact ⟨1, G, F, rb, cap, by omega, by omega, rfl, HBT.out, h6F, h3F, hrb6, hlo2, B6.out, B3.out⟩
      case round =>
        clear HBT B6 B3 h6F h3F hrb6 hlo2 hwr6
        obtain ⟨k, G, F, rb, cap, hk1, hk, rfl, hbt, h6F, h3F, hrb6, hlo2, b6c, b3⟩ := hrel
        have hwr6 := b6c.lt
        have y0 := b6c.cell (i := 0) rfl
        have y1 := b6c.cell (i := 1) rfl
        by_cases hlt : k < n
        · have hRt := rRight_is hbt.rg (2 * (k : Int) + 2)
          have hrt : right G.nodes (2 * (k : Int) + 2) = true → 2 * k + 3 < 2 * G.nodes.length := fun e => by
            unfold right at e
            have := of_decide_eq_true e
            omega
          cases hq : right G.nodes (2 * (k : Int) + 2)
          · rw [hq] at hRt
            have HRT := Lib.hid hRt; clear hRt hrt hq
            have HBT := Lib.hid hbt; clear hbt
            have B6 := Lib.hid b6c; clear b6c
            have B3 := Lib.hid b3; clear b3
            go_wp2_with fail
            refine HRT.out.mono ?_
            rintro e w4 ⟨rfl, hc4⟩
            have HC4 := Lib.hid hc4; clear hc4 HRT
            go_wp2_with fail
            go_roundw
            case rel => exact ⟨k + 1, G, F, rb, cap, by omega, by omega, by go_num, HBT.out.same HC4.out, h6F, h3F, hrb6, hlo2, B6.out.ch HC4.out (by simp), B3.out.ch HC4.out (by simp)⟩
            case measure => simp [intOf]; omega
          · rw [hq] at hRt
            have hv := hrt hq
            have HRT := Lib.hid hRt; clear hRt hrt hq
            have HBT := Lib.hid hbt; clear hbt
            have B6 := Lib.hid b6c; clear b6c
            have B3 := Lib.hid b3; clear b3
            have hA := fun (W : World) (hW : Ch [] wr W) => And_r (HBT.out.same hW).gin (a := 2 * k) (b := 2 * k + 3) (by omega) hv
            have hB := fun (W : World) (F9 : List Nat) (hW : Ch F9 wr W) (hF : rb ∉ F9) => rAnd_is (HBT.out.rg.ch hW hF) (a := 2 * k) (b := 2 * k + 3) (by omega) hv
            rw [show ((2 * k : Nat) : Int) = 2 * (k : Int) by omega, show ((2 * k + 3 : Nat) : Int) = 2 * (k : Int) + 3 by omega] at hA hB
            generalize and G (2 * k) (2 * k + 3) = X at hA hB
            have HA := Lib.hid hA; clear hA
            have HB := Lib.hid hB; clear hB
            go_wp2_with fail
            refine HRT.out.mono ?_
            rintro e w4 ⟨rfl, hc4⟩
            have hA := HA.out w4 hc4
            have HA4 := Lib.hid hA; clear hA HA
            have HC4 := Lib.hid hc4; clear hc4 HRT
            go_wp2_with fail
            refine HA4.out.mono ?_
            rintro e w5 ⟨rfl, F', hg5, hc5, hF5, _⟩
            have hB5 := HB.out w5 F (HC4.out.mono (by simp) |>.trans hc5 (fun k hk => .inl hk)) HBT.out.ap
            have hwb := HBT.out.same HC4.out
            have b6c := (B6.out.ch HC4.out (by simp)).ch hc5 h6F
            have b3 := (B3.out.ch HC4.out (by simp)).ch hc5 h3F
            have y0 := b6c.cell (i := 0) rfl
            have y1 := b6c.cell (i := 1) rfl
            have hz4 := HC4.out.size
            have h6F' : b6 ∉ F' := fun hin => by rcases hF5 _ hin with e | e; exact h6F e; omega
            have h3F' : w.heap.size + 1 ∉ F' := fun hin => by rcases hF5 _ hin with e | e; exact h3F e; have := B3.out.lt; omega
            have hz5 := b6c.lt
            have HB5 := Lib.hid hB5; clear hB5 HB
            have HWB := Lib.hid hwb; clear hwb
            have HG5 := Lib.hid hg5; clear hg5
            have HC5 := Lib.hid hc5; clear hc5
            have HF5 := Lib.hid hF5; clear hF5
            have BB6 := Lib.hid b6c; clear b6c
            have BB3 := Lib.hid b3; clear b3
            go_wp2_with fail
            refine HB5.out.mono ?_
            rintro e w6 ⟨rb', cap', rfl, hrg6, hc6, hfr⟩
            have hbt6 := HWB.out.next (G' := X.1) HG5.out HC5.out HF5.out hrg6 hc6 hfr
            have hrb' : rb' ≠ b6 := by rcases hfr with e | e <;> omega
            have hlo' : w.heap.size + 2 ≤ rb' := by rcases hfr with e | e <;> omega
            obtain ⟨G1, r1, e1⟩ := X
            simp only at hbt6 hrg6
            have b6c := BB6.out.ch hc6 (by simp)
            have b3 := BB3.out.ch hc6 (by simp)
            have f0 := b6c.frozen (i := 0)
            have f1 := b6c.frozen (i := 1)
            have y0 := b6c.cell (i := 0) rfl
            have y1 := b6c.cell (i := 1) rfl
            have HBT6 := Lib.hid hbt6; clear hbt6
            have BC6 := Lib.hid b6c; clear b6c
            have BC3 := Lib.hid b3; clear b3
            clear HB5 HG5 HC5 HF5 BB6 BB3 hrg6 hc6 hfr HA4 HWB
            go_wp2_with fail
            go_roundw
            case rel =>
              have hcs := set2_ch (w := w6) (b := b6) (u := .int .i64 G1.most) (v := .slice (some ⟨rb', 0, none⟩) G1.nodes.length cap') rfl
              exact ⟨k + 1, G1, F', rb', cap', by omega, by omega, by go_num, HBT6.out.set hcs h6F' hrb' (by omega), h6F', h3F', hrb', hlo', (BC6.out.set (i := 0) _).set (i := 1) _, BC3.out.ch hcs (by simp; omega)⟩
            case measure => simp [intOf]; omega
        · have HBT := Lib.hid hbt; clear hbt
          have z0 := b3.cell (i := 0) rfl
          have z1 := b3.cell (i := 1) rfl
          have g0 := b3.frozen (i := 0)
          have g1 := b3.frozen (i := 1)
          clear b6c b3
          go_wp2_with fail
          refine Ord.St.door (fun _ => True) [.fl, .rd, .fl, .ef] [0, 0, 1, 7] [0, 1, 2, 3] mixed (by kernel_rfl) rfl ?_
          refine Ord.St.fl2 (T' := ?_) 0 [1, 2, 3] _ _ rfl (by kernel_rfl) rfl rfl rfl rfl (fun K w' hk => ?_) ?_
          rotate_left
          · go_step; exact hk
          refine Ord.St.rd2 (T' := ?_) 1 [2, 3] _ _ rfl (by kernel_rfl) rfl rfl rfl rfl (fun K hk => ?_) ?_
          rotate_left
          · go_step; exact hk
          refine Ord.St.fl2 (T' := ?_) 2 [3] _ _ rfl (by kernel_rfl) rfl rfl rfl rfl (fun K w' hk => ?_) ?_
          rotate_left
          · go_step; exact hk
          refine Ord.St.ef 3 [] _ rfl (by kernel_rfl) (fun K hK => ?_)
          go_wp2_with fail
          refine ⟨rfl, hK _ _ ?_⟩; clear hK K
          refine Ord.St.nil ?_
          go_wp2_with fail
          have hcs : Ch [w.heap.size + 1] wr ((wr.setCell ⟨w.heap.size + 1, 0, none⟩ (.int .i64 G.most)).setCell ⟨w.heap.size + 1, 1, none⟩ (.slice (some ⟨rb, 0, none⟩) G.nodes.length cap)).drew := (((Ch.refl _ _).setCell (by simp) _).setCell (by simp) _).drew
          refine bodyPost_ret (v := .tuple #[.pointer (some ⟨g, 0, none⟩), .agg #[.int .i64 G.most, .slice (some ⟨rb, 0, none⟩) G.nodes.length cap]]) (by simp [results, Try.results94, go_sem, z0, z1]) rfl ?_
          exact ⟨g, F, rb, cap, G, rfl, HBT.out.set hcs h3F (by omega) (by omega)⟩
end
end Go.Proofs.Ytchledddgmbndaa
namespace Go.Aig
theorem moveF_len (side : Nat) (s : Mk) (x y : List Nat) : (moveF side s x y).2.length = x.length := by
  unfold moveF
  dsimp only
  split
  · exact movF_len _ _ _ _
  · rw [eachF_len, List.length_map, movF_len]
theorem byG_len (G : Gra) (side : Nat) (x y : List Int) : (byG G side x y).2.1.length ≤ x.length := by
  unfold byG
  split
  · simp
  · unfold wres
    split
    · simp
    · show (moveF side (G, 0) (nats x) (nats y)).2.length ≤ _
      rw [moveF_len]; simp
end Go.Aig
namespace Go.Proofs.Ytchledddgmbndaa
open Go.RowKit Go.Mem Go.Aig
/-- blocks keep their length -/
def Shq (w w' : World) : Prop := ∀ b ys, blk w b ys → ∃ ys', blk w' b ys' ∧ ys'.length = ys.length
theorem Shq.refl (w : World) : Shq w w := fun _ ys h => ⟨ys, h, rfl⟩
theorem Shq.set {w w' : World} (h : Shq w w') (b k : Nat) (v : Value) : Shq w (w'.setCell ⟨b, k, none⟩ v) := fun c ys hc => by
  obtain ⟨zs, h1, h2⟩ := h c ys hc
  by_cases e : c = b
  · subst e; exact ⟨_, h1.set (i := k) v, by simpa using h2⟩
  · exact ⟨zs, h1.other e v, h2⟩
/-- a cell of a row can be stored into -/
theorem Shq.cell {w w' : World} {e : TypeId} {a : Option Addr} {n c k : Nat} {xs : List Value} (h : Shq w w') (hr : row w e 1 (.slice a n c) n xs) (hk : k < n) : ∃ (b : Nat) (old : Value), a = some ⟨b, 0, none⟩ ∧ w'.cell? ⟨b, k, none⟩ = some old ∧ w'.frozen? ⟨b, k, none⟩ = false := by
  obtain ⟨b, ys, e1, hb, hl⟩ := rowBlk hr k hk
  obtain ⟨zs, h1, h2⟩ := h b ys hb
  exact ⟨b, _, e1, h1.cell (List.getElem?_eq_getElem (show k < zs.length by omega)), h1.frozen⟩
/-- an act of shifts -/
structure SAct where
  side : Nat
  xa : Option Addr
  xn : Nat
  xc : Nat
  X : List Int
  ya : Option Addr
  yn : Nat
  yc : Nat
  Y : List Int
/-- a slice of acts that can be read -/
structure SActS (w : World) (a : Option Addr) (n cap : Nat) (l : List SAct) : Prop where
  len : l.length = n
  le : n ≤ cap
  max : cap ≤ 9223372036854775807
  cells : ∀ (i : Nat) (x : SAct), l[i]? = some x → ∃ b o, a = some ⟨b, o, none⟩ ∧ w.cell? ⟨b, o + i * 3, none⟩ = some (.int .u8 x.side) ∧ w.cell? ⟨b, o + i * 3 + 1, none⟩ = some (.slice x.xa x.xn x.xc) ∧ w.cell? ⟨b, o + i * 3 + 2, none⟩ = some (.slice x.ya x.yn x.yc)
  bd : ∀ x ∈ l, x.side ≤ 255 ∧ x.X.length = x.xn ∧ x.Y.length = x.yn ∧ (∀ z ∈ x.X, -9223372036854775808 ≤ z ∧ z ≤ 9223372036854775807) ∧ (∀ z ∈ x.Y, -9223372036854775808 ≤ z ∧ z ≤ 9223372036854775807)
  slx : ∀ x ∈ l, Sl w x.xa x.X
  sly : ∀ x ∈ l, Sl w x.ya x.Y
theorem chk25_by {G : Gra} {side : Nat} {x y : List Int} : chk25 (right G.nodes) side x y = chkBy G side x y := by
  unfold chk25 chkBy badIn
  rw [List.any_append]
  by_cases h1 : side ≠ 1 ∧ side ≠ 2
  · rw [if_pos h1, if_pos h1]
  · rw [if_neg h1, if_neg h1]
    by_cases h2 : rightB x.length = false ∨ rightB y.length = false
    · rw [if_pos h2, if_pos h2]
    · rw [if_neg h2, if_neg h2]
      simp only [Bool.or_eq_true]
theorem Sl.ch3 {F : List Nat} {w w' : World} {a : Option Addr} {xs : List Int} (h : Sl w a xs) (hc : Ch F w w') (hF : 0 < xs.length → ∀ p, a = Option.some p → p.block ∉ F) : Sl w' a xs :=
  ⟨fun i x hx => by
    obtain ⟨b, o, rfl, hcell⟩ := h.cells i x hx
    have hlt := (List.getElem?_eq_some_iff.1 hx).1
    exact ⟨b, o, rfl, (hc.cell (p := ⟨b, o + i, none⟩) (cell_lt hcell) (hF (by omega) ⟨b, o, none⟩ rfl)).trans hcell⟩, h.bd⟩
theorem set2b_ch {w W : World} {b : Nat} {u v : Value} (h : W = (w.setCell ⟨b, 0, none⟩ u).setCell ⟨b, 1, none⟩ v) : Ch [b] w W := set2_ch h
theorem gvo_shape {w w' : World} {g : Nat} {G : Gra} {F : List Nat} {v : Value} {l : List Nat} (h : GVo w g G [] F v l w') : ∃ a c, v = .slice a l.length c := by
  obtain ⟨_, _, _, _, _, h5, _⟩ := h
  exact row.shape h5
section
variable {w : World}
set_option maxRecDepth 100000 in
set_option maxHeartbeats 8000000 in
theorem makes25_no (M : Int) (N : Nat) (hM : M < 1 ∨ 65536 < M) (a : Option Addr) (n cap : Nat) : Calls Try.prog 46 #[.agg #[.int .i64 M, .int .u8 N], .slice a n cap] w fun e w' => e = .returned (.bool true) ∧ Ch [] w w' := by
  have hB := fun W => Begin23_no W M N hM
  clear hM
  go_enter Try.func46, Try.ntmps46
  go_wp2_with fail
  refine calls_named fun W hW => ?_
  have hc : Ch [] w W := by rw [hW]; exact (Ch.refl _ _).alloc _
  clear hW
  refine (hB W).mono ?_
  rintro e w1 ⟨rfl, hc1⟩
  have HC := Lib.hid (hc.trans hc1 (by simp)); clear hc hc1 hB
  go_wp2_with fail
  go_ret
  exact ⟨rfl, HC.out.alloc _⟩
set_option maxRecDepth 100000 in
set_option maxHeartbeats 8000000 in
theorem makes25_yes (M N : Nat) (h1 : 1 ≤ M) (h2 : M ≤ 65536) (hN : N ≤ 255) {a : Option Addr} {n cap : Nat} {l : List SAct} (hS : SActS w a n cap l) (hfew : ∀ x ∈ l, x.xn ≤ 1000 ∧ x.yn ≤ 1000) :
    Calls Try.prog 46 #[.agg #[.int .i64 M, .int .u8 N], .slice a n cap] w fun e w' => e = .returned (.bool true) ∧ Ch [] w w' := by
  have hB := fun W => Begin23_yes W M N h1 h2 hN
  have hlen := hS.len
  have hle := hS.le
  have hmx := hS.max
  have HB := Lib.hid hB; clear hB
  have HS := Lib.hid hS; clear hS
  have HFEW := Lib.hid hfew; clear hfew
  have HLEN := Lib.hid hlen; clear hlen
  go_enter Try.func46, Try.ntmps46
  go_wp2_with fail
  refine calls_named fun W hW => ?_
  have hc0 : Ch [] w W := by rw [hW]; exact (Ch.refl _ _).alloc _
  clear hW
  refine (HB.out W).mono ?_
  rintro e w1 ⟨g, F, rb, cap0, G, rfl, hbt⟩
  have HC0 := Lib.hid hc0; clear hc0
  have HBT := Lib.hid hbt; clear hbt HB
  go_upto_region 2 with fail
  refine wp_alw ?_
  intro W3 hW3
  have hb6 := alw_blk (xs := [.int .i64 G.most, .slice (some ⟨rb, 0, none⟩) G.nodes.length cap0]) hW3
  have hbt := HBT.out.same (alw_ch hW3)
  have h6F : w1.heap.size ∉ F := fun hin => Nat.lt_irrefl _ (HBT.out.gin.lt _ hin)
  have hrb6 : rb ≠ w1.heap.size := rg_ne HBT.out.rg
  have h6lo : W.heap.size ≤ w1.heap.size := HBT.out.ch.size
  clear hW3 HBT
  generalize w1.heap.size = b6 at *
  have HBT := Lib.hid hbt; clear hbt
  have B6 := Lib.hid hb6; clear hb6
  go_wp2_with fail
  go_loopw [31] (fun i wr => ∃ (k : Nat) (G : Gra) (F : List Nat) (rb cap : Nat), k ≤ n ∧ i = .int .i64 k ∧ Both W wr g rb cap G F ∧ b6 ∉ F ∧ rb ≠ b6 ∧ blk wr b6 [.int .i64 G.most, .slice (some ⟨rb, 0, none⟩) G.nodes.length cap]) (fun i _ => n - (intOf i).toNat)
  case atStart => exact ⟨0, G, F, rb, cap0, by omega, rfl, HBT.out, h6F, hrb6, B6.out⟩
  case round =>
    clear HBT B6 h6F hrb6

    obtain ⟨k, G, F, rb, capr, hk, rfl, hbt, h6F, hrb6, hb6⟩ := hrel
    by_cases hlt : k < n
    · obtain ⟨x, hx⟩ : ∃ x, l[k]? = some x := ⟨_, List.getElem?_eq_getElem (by rw [HLEN.out]; exact hlt)⟩
      have hxm := List.mem_of_getElem? hx
      obtain ⟨xb, xo, rfl, c0, c1, c2⟩ := HS.out.cells k x hx
      have hcw := HC0.out.trans hbt.ch (by simp)
      have c0 := (hcw.cell (cell_lt c0) (by simp)).trans c0
      have c1 := (hcw.cell (cell_lt c1) (by simp)).trans c1
      have c2 := (hcw.cell (cell_lt c2) (by simp)).trans c2
      obtain ⟨hsd, hxl, hyl, hxb, hyb⟩ := HS.out.bd x hxm
      obtain ⟨hxf, hyf⟩ := HFEW.out x hxm
      have hsx := (HS.out.slx x hxm).ch hcw (by simp)
      have hsy := (HS.out.sly x hxm).ch hcw (by simp)
      have hwr6 := hb6.lt
      obtain ⟨side, xa, xn, xc, X, ya, yn, yc, Y⟩ := x
      simp only at c0 c1 c2 hsd hxl hyl hxb hyb hxf hyf hsx hsy
      have HSX := Lib.hid hsx; clear hsx
      have HSY := Lib.hid hsy; clear hsy
      have HXL := Lib.hid hxl; clear hxl
      have HYL := Lib.hid hyl; clear hyl
      have HXB := Lib.hid hxb; clear hxb
      have HYB := Lib.hid hyb; clear hyb
      have HBT := Lib.hid hbt; clear hbt
      have B6 := Lib.hid hb6; clear hb6 hxm hcw
      have HX := Lib.hid hx; clear hx
      go_upto_region 7 with fail
      refine wp_alw ?_
      intro W1 hW1
      have hb8 := alw_blk (xs := [.int .u8 side, .slice xa xn xc, .slice ya yn yc]) hW1
      have hcA := alw_ch hW1
      have hb6 := B6.out.ch hcA (by simp)
      have hbt := HBT.out.same hcA
      have h8F : wr.heap.size ∉ F := fun hin => Nat.lt_irrefl _ (HBT.out.gin.lt _ hin)
      have h68 : wr.heap.size ≠ b6 := by omega
      have hsx := HSX.out.ch hcA (by simp)
      have hsy := HSY.out.ch hcA (by simp)
      clear hW1 hcA HBT B6 HSX HSY c0 c1 c2
      generalize wr.heap.size = b8 at *
      have y1 := hb8.cell (i := 1) rfl
      have hh0 : Hold (W : Base) W1.drew g G F [] := (Hold.start ⟨hbt.gin, hbt.own, hbt.ch⟩).same (Ch.refl [] W1).drew
      have hR1 := Refs23_is (w := W1.drew) xn xc HXL.out (hsx.ch (Ch.refl [] W1).drew (by simp)) (by omega)
      have HR1 := Lib.hid hR1; clear hR1
      have HH0 := Lib.hid hh0; clear hh0
      have HSX := Lib.hid hsx; clear hsx
      have HSY := Lib.hid hsy; clear hsy
      have HBT := Lib.hid hbt; clear hbt
      have B6 := Lib.hid hb6; clear hb6
      have B8 := Lib.hid hb8; clear hb8
      go_wp2_with fail
      have hcur : Ch [] W1 W1.drew := (Ch.refl [] W1).drew
      refine Ord.St.door (fun w' => Ch [] W1 w') [.fl, .rd, .ef, .fl, .ho, .ef, .fl, .fl] [0, 1, 3, 0, 8, 31, 63, 127] [0, 1, 2, 3, 4, 5, 6, 7] mixed (by kernel_rfl) rfl ?_
      refine Ord.St.fl2 (T' := ?_) 0 [1, 2, 3, 4, 5, 6, 7] _ _ rfl (by kernel_rfl) rfl rfl rfl rfl (fun K w' hk => ?_) ?_
      rotate_left
      · go_step; exact hk
      refine Ord.St.rd2 (T' := ?_) 1 [2, 3, 4, 5, 6, 7] _ _ rfl (by kernel_rfl) rfl rfl rfl rfl (fun K hk => ?_) ?_
      rotate_left
      · go_step; exact hk
      refine Ord.St.fl2 (T' := ?_) 3 [2, 4, 5, 6, 7] _ _ rfl (by kernel_rfl) rfl rfl rfl rfl (fun K w' hk => ?_) ?_
      rotate_left
      · go_step; exact hk
      refine Ord.St.ho2 (T' := ?_) 4 [2, 5, 6, 7] _ _ rfl (by kernel_rfl) rfl rfl rfl rfl ?_ (fun K w' hw' hk => ?_) ?_
      rotate_left
      · trivial
      · have z2 := (B8.out.ch hw' (by simp)).cell (i := 2) rfl; go_step; exact hk
      refine Ord.St.efC 2 [5, 6, 7] _ rfl (by kernel_rfl) (fun K hK => ?_)
      go_wp2_with fail
      refine HR1.out.mono ?_
      rintro e w2 ⟨v, rfl, hro, hlo, hc2⟩
      have hcur : Ch [] W1 w2 := (Ch.refl [] W1).drew.trans hc2 (by simp)
      obtain ⟨pa, pc, rfl, hh⟩ := HH0.out.new (l := X) ⟨by rw [show (intCells X).length = xn from by simp [intCells, HXL.out]]; exact hro, hlo, hc2⟩ HXB.out (by rw [HXL.out]; omega)
      rw [HXL.out] at hh
      have hplo : ∀ q, (Value.slice pa xn pc).ownBlock = some q → W1.heap.size ≤ q := fun q hq => by have := hlo q (by rw [HXL.out]; simpa using hq); simpa using this
      have HPLO := Lib.hid hplo; clear hplo
      simp only [HXL.out]
      have hR2 := Refs23_is (w := w2) yn yc HYL.out (HSY.out.ch hcur (by simp)) (by omega)
      have HR2 := Lib.hid hR2; clear hR2
      have HH1 := Lib.hid hh; clear hh HH0 HR1 hro hlo hc2 y1
      go_wp2_with fail
      refine ⟨rfl, hK _ _ ?_ ?_⟩
      · exact hcur
      clear hK K
      refine Ord.St.ef 5 [6, 7] _ rfl (by kernel_rfl) (fun K hK => ?_)
      go_wp2_with fail
      refine HR2.out.mono ?_
      rintro e w3 ⟨v, rfl, hro, hlo, hc3⟩
      have hcur3 : Ch [] W1 w3 := hcur.trans hc3 (by simp)
      obtain ⟨qa, qc, rfl, hh⟩ := HH1.out.new (l := Y) ⟨by rw [show (intCells Y).length = yn from by simp [intCells, HYL.out]]; exact hro, hlo, hc3⟩ HYB.out (by rw [HYL.out]; omega)
      rw [HYL.out] at hh
      have hqlo : ∀ q, (Value.slice qa yn qc).ownBlock = some q → W1.heap.size ≤ q := fun q hq => by have := hlo q (by rw [HYL.out]; simpa using hq); have := hcur.size; omega
      have HQLO := Lib.hid hqlo; clear hqlo
      simp only [HYL.out]
      have HH := Lib.hid hh; clear hh HH1 HR2 hro hlo hc3 hcur
      go_wp2_with fail
      refine ⟨rfl, hK _ _ ?_⟩; clear hK K
      refine Ord.St.fl2 (T' := ?_) 6 [7] _ _ rfl (by kernel_rfl) rfl rfl rfl rfl (fun K w' hk => ?_) ?_
      rotate_left
      · go_step; exact hk
      refine Ord.St.fl2 (T' := ?_) 7 [] _ _ rfl (by kernel_rfl) rfl rfl rfl rfl (fun K w' hk => ?_) ?_
      rotate_left
      · go_step; exact hk
      refine Ord.St.nil ?_
      obtain ⟨B, hB⟩ : ∃ B, B = byG G side X Y := ⟨_, rfl⟩
      have hBlen : B.2.1.length ≤ xn := by rw [hB, ← HXL.out]; exact byG_len _ _ _ _
      have hP := HH.out.at (a := pa) (c := pc) (n := xn) (l := X) (by simp) HXL.out
      have hQ := HH.out.at (a := qa) (c := qc) (n := yn) (l := Y) (by simp) HYL.out
      have hhp := HH.out.held (.slice pa xn pc, X) (by simp)
      have hhq := HH.out.held (.slice qa yn qc, Y) (by simp)
      have hqc : yn ≤ qc := hhq.cap
      have hBy := By_is HH.out.own.gin side hP hQ HXL.out HYL.out hqc
      rw [← hB] at hBy
      have hShl : side = 1 → Calls Try.prog 41 #[.pointer (some ⟨g, 0, none⟩), .slice pa xn pc, .slice qa yn qc] w3 fun e w' => ∃ v, e = .returned (.tuple #[v, .int .i64 B.2.2]) ∧ GVo w3 g B.1 [] F v B.2.1 w' := fun e => by
        have := Shl_is HH.out.own.gin hP hQ HXL.out HYL.out hqc
        rw [hB, e]; exact this
      have hShr : side = 2 → Calls Try.prog 42 #[.pointer (some ⟨g, 0, none⟩), .slice pa xn pc, .slice qa yn qc] w3 fun e w' => ∃ v, e = .returned (.tuple #[v, .int .i64 B.2.2]) ∧ GVo w3 g B.1 [] F v B.2.1 w' := fun e => by
        have := Shr_is HH.out.own.gin hP hQ HXL.out HYL.out hqc
        rw [hB, e]; exact this
      have hrp := hhp.row
      rw [HXL.out] at hrp
      have hrq := hhq.row
      rw [HYL.out] at hrq
      have hpF : ∀ q, (Value.slice pa xn pc).ownBlock = some q → q ∉ F := fun q hq => (hhp.own q hq).2
      have hqF : ∀ q, (Value.slice qa yn qc).ownBlock = some q → q ∉ F := fun q hq => (hhq.own q hq).2
      have hbt3 := HBT.out.same hcur3
      have hb6 := B6.out.ch hcur3 (by simp)
      have hb8 := B8.out.ch hcur3 (by simp)
      have hsx := HSX.out.ch hcur3 (by simp)
      have hsy := HSY.out.ch hcur3 (by simp)
      have hz31 := hcur3.size
      have h61 := B6.out.lt
      have h81 := B8.out.lt
      have z0 := hb8.cell (i := 0) rfl
      have hxold : 0 < X.length → ∀ p, xa = some p → p.block < W.heap.size := fun h0 p hp => by
        have hsl : Sl w xa X := HS.out.slx _ (List.mem_of_getElem? HX.out)
        have := sl_lt hsl h0 p hp
        have := HC0.out.size
        omega
      have hyold : 0 < Y.length → ∀ p, ya = some p → p.block < W.heap.size := fun h0 p hp => by
        have hsl : Sl w ya Y := HS.out.sly _ (List.mem_of_getElem? HX.out)
        have := sl_lt hsl h0 p hp
        have := HC0.out.size
        omega
      have HBLEN := Lib.hid hBlen; clear hBlen
      have HBY := Lib.hid hBy; clear hBy
      have HSHL := Lib.hid hShl; clear hShl
      have HSHR := Lib.hid hShr; clear hShr
      have hphi : ∀ q, (Value.slice pa xn pc).ownBlock = some q → q < w3.heap.size := fun q hq => (hrp.lt q hq).2
      have hqhi : ∀ q, (Value.slice qa yn qc).ownBlock = some q → q < w3.heap.size := fun q hq => (hrq.lt q hq).2
      have HPHI := Lib.hid hphi; clear hphi
      have HQHI := Lib.hid hqhi; clear hqhi
      have HRP := Lib.hid hrp; clear hrp hhp hP
      have HRQ := Lib.hid hrq; clear hrq hhq hQ
      have HPF := Lib.hid hpF; clear hpF
      have HQF := Lib.hid hqF; clear hqF
      have HBT3 := Lib.hid hbt3; clear hbt3 HBT
      have BB6 := Lib.hid hb6; clear hb6 B6
      have BB8 := Lib.hid hb8; clear hb8 B8
      have HSX3 := Lib.hid hsx; clear hsx HSX
      have HSY3 := Lib.hid hsy; clear hsy HSY
      have HXO := Lib.hid hxold; clear hxold
      have HYO := Lib.hid hyold; clear hyold
      have HBE := Lib.hid hB; clear hB
      clear hcur3 hqc HH
      go_upto_block 2 with fail
      go_cut [11, 12] (fun v e wc => ∃ (va : Option Addr) (vc : Nat), v = .slice va B.2.1.length vc ∧ e = .int .i64 B.2.2 ∧ GVo w3 g B.1 [] F v B.2.1 wc)
      case first =>
        by_cases h1 : side = 1
        · have e1 : ((side : Int) == 1) = true := by rw [h1]; rfl
          have e2 : ((side : Int) == 2) = false := by rw [h1]; rfl
          have hC := HSHL.out h1
          have HC := Lib.hid hC; clear hC h1
          by_cases h2 : k % 2 = 0
          · have e3 : ((k : Int) % 2 == 0) = true := by simp; omega
            go_wp2_with fail
            refine HC.out.mono ?_
            rintro e wz ⟨v, rfl, hv⟩
            obtain ⟨va, vc, rfl⟩ := gvo_shape hv
            have HV := Lib.hid hv; clear hv
            go_wp2_with fail
            go_meet
            case rel => exact ⟨va, vc, rfl, rfl, HV.out⟩
          · have e3 : ((k : Int) % 2 == 0) = false := by rw [beq_eq_false_iff_ne]; omega
            go_wp2_with fail
            refine HBY.out.mono ?_
            rintro e wz ⟨v, rfl, hv⟩
            obtain ⟨va, vc, rfl⟩ := gvo_shape hv
            have HV := Lib.hid hv; clear hv
            go_wp2_with fail
            go_meet
            case rel => exact ⟨va, vc, rfl, rfl, HV.out⟩
        · have e1 : ((side : Int) == 1) = false := by rw [beq_eq_false_iff_ne]; omega
          by_cases h3 : side = 2
          · have e2 : ((side : Int) == 2) = true := by rw [h3]; rfl
            have hC := HSHR.out h3
            have HC := Lib.hid hC; clear hC h1 h3
            by_cases h2 : k % 2 = 0
            · have e3 : ((k : Int) % 2 == 0) = true := by simp; omega
              go_wp2_with fail
              refine HC.out.mono ?_
              rintro e wz ⟨v, rfl, hv⟩
              obtain ⟨va, vc, rfl⟩ := gvo_shape hv
              have HV := Lib.hid hv; clear hv
              go_wp2_with fail
              go_meet
              case rel => exact ⟨va, vc, rfl, rfl, HV.out⟩
            · have e3 : ((k : Int) % 2 == 0) = false := by rw [beq_eq_false_iff_ne]; omega
              go_wp2_with fail
              refine HBY.out.mono ?_
              rintro e wz ⟨v, rfl, hv⟩
              obtain ⟨va, vc, rfl⟩ := gvo_shape hv
              have HV := Lib.hid hv; clear hv
              go_wp2_with fail
              go_meet
              case rel => exact ⟨va, vc, rfl, rfl, HV.out⟩
          · have e2 : ((side : Int) == 2) = false := by rw [beq_eq_false_iff_ne]; omega
            clear h1 h3
            go_wp2_with fail
            refine HBY.out.mono ?_
            rintro e wz ⟨v, rfl, hv⟩
            obtain ⟨va, vc, rfl⟩ := gvo_shape hv
            have HV := Lib.hid hv; clear hv
            go_wp2_with fail
            go_meet
            case rel => exact ⟨va, vc, rfl, rfl, HV.out⟩
      case rest =>
        obtain ⟨va, vc, rfl, rfl, hv⟩ := hcut
        obtain ⟨F', hg', hc', hF', _, hrv, hov⟩ := hv
        have hc' : Ch F w3 wc := hc'
        have hrg' := HBT3.out.rg.ch hc' HBT3.out.ap
        have hFlo : ∀ q ∈ F, W.heap.size ≤ q := HBT3.out.own
        have hsx := HSX3.out.ch3 hc' (fun h0 p hp hin => by have := HXO.out h0 p hp; have := hFlo _ hin; omega)
        have hsy := HSY3.out.ch3 hc' (fun h0 p hp hin => by have := HYO.out h0 p hp; have := hFlo _ hin; omega)
        have hck := r25Check_is (w := wc) (right G.nodes) (fun W9 r hW => rRight_is (hrg'.ch hW (by simp)) r) side xn xc yn yc hsx hsy HXL.out HYL.out
        rw [chk25_by] at hck
        obtain ⟨ck, hcke⟩ : ∃ ck, ck = chkBy G side X Y := ⟨_, rfl⟩
        rw [← hcke] at hck
        have hb6 := BB6.out.ch hc' h6F
        have hb8 := BB8.out.ch hc' h8F
        have hrp := HRP.out.ch hc' HPF.out
        have hrq := HRQ.out.ch hc' HQF.out
        have hlt3 := hc'.size
        have hcW := HBT3.out.ch.trans hc' (fun q hq => .inr (hFlo q hq))
        have h6F' : b6 ∉ F' := fun hin => by rcases hF' _ hin with e | e; exact h6F e; omega
        have hrbl := HBT3.out.rg.lt
        have hrlo := HBT3.out.rlo
        have hzW := HBT3.out.ch.size
        have hrbF' : rb ∉ F' := fun hin => by rcases hF' _ hin with e | e; exact HBT3.out.ap e; omega
        have hown' : ∀ q ∈ F', W.heap.size ≤ q := fun q hq => by rcases hF' q hq with e | e; exact hFlo q e; have := HBT3.out.ch.size; omega
        have x0 := hb6.cell (i := 0) rfl
        have x1 := hb6.cell (i := 1) rfl
        have z0 := hb8.cell (i := 0) rfl
        have z1 := hb8.cell (i := 1) rfl
        have z2 := hb8.cell (i := 2) rfl
        have HG4 := Lib.hid hg'; clear hg'
        have HRG4 := Lib.hid hrg'; clear hrg'
        have HSX4 := Lib.hid hsx; clear hsx
        have HSY4 := Lib.hid hsy; clear hsy
        have HRP4 := Lib.hid hrp; clear hrp
        have HRQ4 := Lib.hid hrq; clear hrq
        have HRV4 := Lib.hid hrv; clear hrv
        have HOV := Lib.hid hov; clear hov
        have BC6 := Lib.hid hb6; clear hb6
        have BC8 := Lib.hid hb8; clear hb8
        have HCW := Lib.hid hcW; clear hcW
        have HCK := Lib.hid hck; clear hck
        have HCKE := Lib.hid hcke; clear hcke
        have HOWN := Lib.hid hown'; clear hown' hF' hFlo hc'
        clear HBY HSHL HSHR HRP HRQ HPF HQF HBT3 BB6 BB8 HSX3 HSY3
        go_wp2_with fail
        refine HCK.out.mono ?_
        rintro e w4 ⟨rfl, hc4⟩
        have hz4 := hc4.size
        have hg := HG4.out.same hc4 (by simp)
        have hrg := HRG4.out.ch hc4 (by simp)
        have hsx := HSX4.out.ch hc4 (by simp)
        have hsy := HSY4.out.ch hc4 (by simp)
        have hrp := HRP4.out.ch hc4 (by simp)
        have hrq := HRQ4.out.ch hc4 (by simp)
        have hrv := HRV4.out.ch hc4 (by simp)
        have hb6 := BC6.out.ch hc4 (by simp)
        have hb8 := BC8.out.ch hc4 (by simp)
        have hcW := HCW.out.trans hc4 (by simp)
        have hF4 : ∀ q ∈ F', q < w4.heap.size := fun q hq => hg.lt q hq
        have hv4 : ∀ q, (Value.slice va B.2.1.length vc).ownBlock = some q → w3.heap.size ≤ q ∧ q < w4.heap.size ∧ q ∉ F' := fun q hq => ⟨(HOV.out q hq).1, (hrv.lt q hq).2, (HOV.out q hq).2⟩
        have x0 := hb6.cell (i := 0) rfl
        have x1 := hb6.cell (i := 1) rfl
        have f0 := hb6.frozen (i := 0)
        have f1 := hb6.frozen (i := 1)
        have z0 := hb8.cell (i := 0) rfl
        have z1 := hb8.cell (i := 1) rfl
        have z2 := hb8.cell (i := 2) rfl
        clear HCK HG4 HRG4 HSX4 HSY4 HRP4 HRQ4 HRV4 BC6 BC8 HCW hc4 HOV
        have HG := Lib.hid hg; clear hg
        have HRG := Lib.hid hrg; clear hrg
        have HSX := Lib.hid hsx; clear hsx
        have HSY := Lib.hid hsy; clear hsy
        have HRP := Lib.hid hrp; clear hrp
        have HRQ := Lib.hid hrq; clear hrq
        have HRV := Lib.hid hrv; clear hrv
        have B6 := Lib.hid hb6; clear hb6
        have B8 := Lib.hid hb8; clear hb8
        have HCW := Lib.hid hcW; clear hcW
        have HF4 := Lib.hid hF4; clear hF4
        have HV4 := Lib.hid hv4; clear hv4
        go_upto_if 93 with fail
        go_cut [13, 14] (fun f wt wd => ∃ (rb' cap' : Nat) (ta : Option Addr) (tc : Nat), f = .int .i64 B.2.2 ∧ wt = .slice ta B.2.1.length tc ∧ Sl wd ta (natInts B.2.1) ∧ RG wd rb' cap' B.1 ∧ (rb' = rb ∨ w4.heap.size ≤ rb') ∧ rb' ≠ b6 ∧ blk wd b6 [.int .i64 B.1.most, .slice (some ⟨rb', 0, none⟩) B.1.nodes.length cap'] ∧ Ch [b6] w4 wd)
        case first =>
          have hbe := HBE.out
          by_cases hck0 : ck = 0
          · have h0 := HCKE.out
            rw [hck0] at h0
            have h00 := h0.symm
            unfold chkBy at h00
            by_cases hs : side ≠ 1 ∧ side ≠ 2
            · rw [if_pos hs] at h00; omega
            rw [if_neg hs] at h00
            by_cases hwd : rightB X.length = false ∨ rightB Y.length = false
            · rw [if_pos hwd] at h00; omega
            rw [if_neg hwd] at h00
            by_cases hbb : badIn G X = true ∨ badIn G Y = true
            · rw [if_pos hbb] at h00; omega
            have hwx : rightB X.length = true := by cases hq : rightB X.length; exact absurd (.inl hq) hwd; rfl
            have hwy : rightB Y.length = true := by cases hq : rightB Y.length; exact absurd (.inr hq) hwd; rfl
            have hbx : badIn G X = false := by cases hq : badIn G X; rfl; exact absurd (.inl hq) hbb
            have hby : badIn G Y = false := by cases hq : badIn G Y; rfl; exact absurd (.inr hq) hbb
            obtain ⟨hxe, hxr⟩ := badIn_nats hbx
            obtain ⟨hye, hyr⟩ := badIn_nats hby
            rw [HXL.out] at hwx
            rw [HYL.out] at hwy
            unfold rightB at hwx hwy
            simp only [Bool.and_eq_true, decide_eq_true_eq] at hwx hwy
            have hbe2 : B = wres G (moveF side (G, 0) (nats X) (nats Y)) := by rw [hbe]; exact byG_ok h0.symm
            have hRB := r25By_is HRG.out (side := side) (by omega) (xa := xa) (ya := ya) (X := nats X) (Y := nats Y) xn yn xc yc (by rw [hxe]; exact HSX.out) (by rw [hye]; exact HSY.out) (by simp [HXL.out]) (by simp [HYL.out]) (by omega) (by omega) (by omega) (by omega) hxr hyr
            generalize moveF side (G, 0) (nats X) (nats Y) = R at hRB hbe2
            have e0 : ((ck : Int) == 0) = true := by rw [hck0]; rfl
            have HXPOS := Lib.hid (show 0 < X.length from by rw [HXL.out]; omega)
            have HRB := Lib.hid hRB; clear hRB
            clear hbe hwx hwy hbx hby hxe hye hxr hyr hwd hbb h0 h00 hs hck0
            by_cases hz : R.1.2 = 0
            · have hBB : B = (R.1.1, R.2, 0) := by rw [hbe2]; unfold wres; rw [if_neg (by simp [hz])]
              have e1 : ((R.1.2 : Int) == 0) = true := by rw [hz]; rfl
              have HBB := Lib.hid hBB; clear hBB hbe2
              have HZ := Lib.hid hz; clear hz
              go_wp2_with fail
              refine HRB.out.mono ?_
              rintro e w5 ⟨rb', cap', ta, tc, rfl, hrg5, hc5, hfr5, hsl5, hta5⟩
              have hb65 := B6.out.ch hc5 (by simp)
              have f0 := hb65.frozen (i := 0)
              have f1 := hb65.frozen (i := 1)
              have x0 := hb65.cell (i := 0) rfl
              have x1 := hb65.cell (i := 1) rfl
              have hl5 := hb65.lt
              have HB65 := Lib.hid hb65; clear hb65
              have HRG5 := Lib.hid hrg5; clear hrg5
              have HC5 := Lib.hid hc5; clear hc5
              have HSL5 := Lib.hid hsl5; clear hsl5
              have HFR5 := Lib.hid hfr5; clear hfr5 HRB
              have HTA5 := Lib.hid hta5; clear hta5
              go_wp2_with fail
              go_meet
              case rel =>
                have hcs := set2_ch (w := w5) (b := b6) (u := .int .i64 R.1.1.most) (v := .slice (some ⟨rb', 0, none⟩) R.1.1.nodes.length cap') rfl
                have hne : rb' ≠ b6 := by rcases HFR5.out with e | e; omega; have := B6.out.lt; omega
                have hb6lt := B6.out.lt
                have hsl9 := HSL5.out.ch3 hcs (fun h0 p hp hin => by have hin := List.mem_singleton.1 hin; rcases HTA5.out p hp with e | e; (have := HXO.out HXPOS.out p e; omega); omega)
                have hrg9 := HRG5.out.ch hcs (by simpa using hne)
                have hb9 := (HB65.out.set (i := 0) (.int .i64 R.1.1.most)).set (i := 1) (.slice (some ⟨rb', 0, none⟩) R.1.1.nodes.length cap')
                have hc9 := (HC5.out.mono (F' := [b6]) (by simp)).trans hcs (fun k hk => .inl hk)
                rw [HBB.out]
                exact ⟨rb', cap', ta, tc, by rw [HZ.out], rfl, hsl9.ch ((Ch.refl [] _).alloc _) (by simp), hrg9.ch ((Ch.refl [] _).alloc _) (by simp), HFR5.out, hne, hb9.alloc _, hc9.alloc _⟩
            · have hBB : B = (G, [], R.1.2) := by rw [hbe2]; unfold wres; rw [if_pos hz]
              have e1 : ((R.1.2 : Int) == 0) = false := by rw [beq_eq_false_iff_ne]; omega
              have HBB := Lib.hid hBB; clear hBB hbe2 hz
              go_wp2_with fail
              refine HRB.out.mono ?_
              rintro e w5 ⟨rb', cap', ta, tc, rfl, hrg5, hc5, hfr5, hsl5, hta5⟩
              have HC5 := Lib.hid hc5; clear hc5 hrg5 hfr5 hsl5 hta5 HRB
              go_wp2_with fail
              go_meet
              case rel =>
                have hcA : Ch [] w4 (w5.alloc (.cells #[.int .i64 R.1.1.most, .slice (some ⟨rb', 0, none⟩) R.1.1.nodes.length cap', .int .i64 R.1.2] 137)) := HC5.out.alloc _
                rw [HBB.out]
                exact ⟨rb, capr, none, 0, rfl, rfl, ⟨by simp [natInts], by simp [natInts]⟩, HRG.out.ch hcA (by simp), .inl rfl, hrb6, B6.out.ch hcA (by simp), hcA.mono (by simp)⟩
          · have hBB : B = (G, [], ck) := by rw [hbe]; exact byG_bad HCKE.out.symm hck0
            have e0 : ((ck : Int) == 0) = false := by rw [beq_eq_false_iff_ne]; omega
            have HBB := Lib.hid hBB; clear hBB hbe hck0
            go_wp2_with fail
            go_meet
            case rel =>
              rw [HBB.out]
              exact ⟨rb, capr, none, 0, rfl, rfl, ⟨by simp [natInts], by simp [natInts]⟩, HRG.out, .inl rfl, hrb6, B6.out, Ch.refl _ _⟩
        case rest =>
          obtain ⟨rb', cap', ta, tc, rfl, rfl, hst, hrgN, hfrN, hrb6N, hb6N, hc6⟩ := hcut
          clear x0 x1 f0 f1
          have hzN := hc6.size
          have hown6 : ∀ q ∈ F', q ≠ b6 := fun q hq e => h6F' (e ▸ hq)
          have hg := HG.out.same hc6 (fun q hq hq2 => hown6 q hq (List.mem_singleton.1 hq2))
          have hrp := HRP.out.ch hc6 (fun q hq hq2 => by have := HPLO.out q hq; have := List.mem_singleton.1 hq2; omega)
          have hrq := HRQ.out.ch hc6 (fun q hq hq2 => by have := HQLO.out q hq; have := List.mem_singleton.1 hq2; omega)
          have hrv := HRV.out.ch hc6 (fun q hq hq2 => by have := HV4.out q hq; have := List.mem_singleton.1 hq2; omega)
          have hsx := HSX.out.ch3 hc6 (fun h0 p hp hq2 => by have := HXO.out h0 p hp; have := List.mem_singleton.1 hq2; omega)
          have hsy := HSY.out.ch3 hc6 (fun h0 p hp hq2 => by have := HYO.out h0 p hp; have := List.mem_singleton.1 hq2; omega)
          have hb8 := B8.out.ch hc6 (by simp; omega)
          have hcW := HCW.out.trans hc6 (fun q hq => .inr (by have := List.mem_singleton.1 hq; omega))
          have hrlo' : W.heap.size ≤ rb' := by rcases hfrN with e | e; (rw [e]; exact hrlo); omega
          have hrbN : rb' ∉ F' := fun hin => by rcases hfrN with e | e; (rw [e] at hin; exact hrbF' hin); (have := HF4.out _ hin; omega)
          have hrvi := hrv
          rw [refs_natInts] at hrvi
          have hslv := Sl.of_ints hrvi (by have := HBLEN.out; omega)
          have hI := Ints23_is (w := wc) (a := va) (l := natInts B.2.1) B.2.1.length vc (by simp) hslv (by have := HBLEN.out; omega)
          have HI := Lib.hid hI; clear hI hslv hrvi
          clear HG HRP HRQ HRV HSX HSY B6 B8 HCW z0 z1 z2 hc6
          have HG := Lib.hid hg; clear hg
          have HRP := Lib.hid hrp; clear hrp
          have HRQ := Lib.hid hrq; clear hrq
          have HRV := Lib.hid hrv; clear hrv
          have HSX := Lib.hid hsx; clear hsx
          have HSY := Lib.hid hsy; clear hsy
          have B6 := Lib.hid hb6N; clear hb6N
          have B8 := Lib.hid hb8; clear hb8
          have HCW := Lib.hid hcW; clear hcW
          have HRG := Lib.hid hrgN; clear hrgN
          have HST := Lib.hid hst; clear hst
          go_wp2_with fail
          refine HI.out.mono ?_
          rintro e w7 ⟨v, rfl, hri, _, hc7⟩
          obtain ⟨ia, ic, rfl⟩ := row.shape hri
          have hE := Eqint_is (w := w7) ic tc (xs := natInts B.2.1) (ys := natInts B.2.1) (Sl.of_ints hri (by have := HBLEN.out; omega)) (HST.out.ch hc7 (by simp))
          simp only [natInts_len, decide_true] at hE
          have HE := Lib.hid hE; clear hE hri
          have HC7 := Lib.hid hc7; clear hc7 HI HST
          go_wp2_with fail
          refine HE.out.mono ?_
          rintro e w8 ⟨rfl, hc8⟩
          have hc78 := HC7.out.trans hc8 (by simp)
          have hb6 := B6.out.ch hc78 (by simp)
          have x0 := hb6.cell (i := 0) rfl
          have x1 := hb6.cell (i := 1) rfl
          have hSm := Same23_is (HG.out.same hc78 (by simp)) (HRG.out.ch hc78 (by simp))
          have HSM := Lib.hid hSm; clear hSm hb6
          have HC78 := Lib.hid hc78; clear hc78 hc8 HC7 HE
          go_wp2_with fail
          refine HSM.out.mono ?_
          rintro e w9 ⟨rfl, hc9⟩
          have hc79 := HC78.out.trans hc9 (by simp)
          have hz9 := hc79.size
          have hrv9 := HRV.out.ch hc79 (by simp)
          have HC79 := Lib.hid hc79; clear hc79 hc9 HC78 HSM x0 x1
          have HRV9 := Lib.hid hrv9; clear hrv9
          go_wp2_with fail
          go_loopw [132] (fun i wq => ∃ j : Nat, j ≤ B.2.1.length ∧ i = .int .i64 j ∧ Ch (Value.slice va B.2.1.length vc).ownBlock.toList w9 wq ∧ Shq w9 wq) (fun i _ => B.2.1.length - (intOf i).toNat)
          case atStart => exact ⟨0, by omega, rfl, Ch.refl _ _, Shq.refl _⟩
          case round =>
            obtain ⟨j, hj, rfl, hcv, hsh⟩ := hrel
            by_cases hjn : j < B.2.1.length
            · obtain ⟨b, old, rfl, hcl, hfz⟩ := hsh.cell HRV9.out hjn
              have hbl : B.2.1.length ≤ 1000 := Nat.le_trans HBLEN.out (by omega)
              have HCV := Lib.hid hcv; clear hcv
              have HSH := Lib.hid hsh; clear hsh
              go_wp2_with fail
              go_roundw
              case rel =>
                exact ⟨j + 1, by omega, by go_num, HCV.out.setCell (.inl (by simp)) _, HSH.out.set _ _ _⟩
              case measure => simp [intOf]; omega
            · have hvq : ∀ q ∈ (Value.slice va B.2.1.length vc).ownBlock.toList, w3.heap.size ≤ q ∧ q < w4.heap.size ∧ q ∉ F' := fun q hq => HV4.out q (by simpa using hq)
              have hcw9 : Ch (Value.slice va B.2.1.length vc).ownBlock.toList wc wr := (HC79.out.mono (by simp)).trans hcv (fun q hq => .inl hq)
              have hz10 := hcw9.size
              have hg := HG.out.same hcw9 (fun q hq hq2 => (hvq q hq2).2.2 hq)
              have hrg := HRG.out.ch hcw9 (fun hin => by have := hvq _ hin; rcases hfrN with e | e <;> omega)
              have hrp := HRP.out.ch hcw9 (fun q hq hq2 => by have := hvq _ hq2; have := HPHI.out q hq; omega)
              have hrq := HRQ.out.ch hcw9 (fun q hq hq2 => by have := hvq _ hq2; have := HQHI.out q hq; omega)
              have hsx := HSX.out.ch3 hcw9 (fun h0 p hp hq2 => by have := hvq _ hq2; have := HXO.out h0 p hp; omega)
              have hsy := HSY.out.ch3 hcw9 (fun h0 p hp hq2 => by have := hvq _ hq2; have := HYO.out h0 p hp; omega)
              have hb6 := B6.out.ch hcw9 (fun hin => by have := hvq _ hin; omega)
              have hb8 := B8.out.ch hcw9 (fun hin => by have := hvq _ hin; omega)
              have hcW := HCW.out.trans hcw9 (fun q hq => .inr (by have := hvq q hq; omega))
              have z1 := hb8.cell (i := 1) rfl
              have hR1 := Refs23_is (w := wr) xn xc HXL.out hsx (by omega)
              have HR1 := Lib.hid hR1; clear hR1
              clear HG HRP HRQ HRV HSX HSY B6 B8 HCW HRG HC79 HRV9 hcv hsh hcw9 hvq
              have HG := Lib.hid hg; clear hg
              have HRG := Lib.hid hrg; clear hrg
              have HRP := Lib.hid hrp; clear hrp
              have HRQ := Lib.hid hrq; clear hrq
              have HSY := Lib.hid hsy; clear hsy hsx
              have B6 := Lib.hid hb6; clear hb6
              have B8 := Lib.hid hb8; clear hb8
              have HCW := Lib.hid hcW; clear hcW
              go_wp2_with fail
              refine HR1.out.mono ?_
              rintro e wd ⟨v, rfl, hr1, _, hcd⟩
              obtain ⟨ma, mc, rfl⟩ := row.shape hr1
              have hE := Eqref_is (w := wd) pc mc (xs := X) (ys := X) (Sl.of_ints (HRP.out.ch hcd (by simp)) (by omega)) (Sl.of_ints hr1 (by omega))
              simp only [HXL.out, decide_true] at hE
              have HE := Lib.hid hE; clear hE hr1
              have HCD := Lib.hid hcd; clear hcd HR1 z1
              go_wp2_with fail
              refine HE.out.mono ?_
              rintro e we ⟨rfl, hce⟩
              have hcde := HCD.out.trans hce (by simp)
              have z2 := (B8.out.ch hcde (by simp)).cell (i := 2) rfl
              have hR2 := Refs23_is (w := we) yn yc HYL.out (HSY.out.ch hcde (by simp)) (by omega)
              have HR2 := Lib.hid hR2; clear hR2
              have HCDE := Lib.hid hcde; clear hcde hce HCD HE
              go_wp2_with fail
              refine HR2.out.mono ?_
              rintro e wf ⟨v, rfl, hr1, _, hcf⟩
              obtain ⟨na, nc, rfl⟩ := row.shape hr1
              have hE := Eqref_is (w := wf) qc nc (xs := Y) (ys := Y) (Sl.of_ints ((HRQ.out.ch HCDE.out (by simp)).ch hcf (by simp)) (by omega)) (Sl.of_ints hr1 (by omega))
              simp only [HYL.out, decide_true] at hE
              have HE := Lib.hid hE; clear hE hr1
              have hcdf := HCDE.out.trans hcf (by simp)
              have HCDF := Lib.hid hcdf; clear hcdf hcf HR2 z2 HCDE
              go_wp2_with fail
              refine HE.out.mono ?_
              rintro e wg ⟨rfl, hcg⟩
              have HCG := Lib.hid (HCDF.out.trans hcg (by simp)); clear hcg HCDF HE
              go_wp2_with fail
              go_roundw
              case rel =>
                have hbt : Both W wg g rb' cap' B.1 F' := ⟨HG.out.same HCG.out (by simp), HRG.out.ch HCG.out (by simp), hrbN, HOWN.out, hrlo', HCW.out.trans HCG.out (by simp)⟩
                exact ⟨k + 1, B.1, F', rb', cap', by omega, by go_num, hbt, h6F', hrb6N, B6.out.ch HCG.out (by simp)⟩
              case measure => simp [intOf]; omega
    · have HC := Lib.hid (HC0.out.trans hbt.ch (by simp)); clear hbt hb6
      go_wp2_with fail
      go_ret
      exact ⟨rfl, HC.out⟩
end
end Go.Proofs.Ytchledddgmbndaa
namespace Go.Proofs.Ytchledddgmbndaa
open Go.ChangeShapes Go.WideShapes Go.ChangeAt Go.RowKit Go.Mem Go.Aig Go.Deep
section
variable {H : Type} {enc : TypeId × Value → H} {W : World}
set_option maxRecDepth 100000 in
theorem start_open {r : Reach} {b0 : Nat} {v : Value} {d : DataW H} {p : List MemPlace} (hv : Value.okWide Try.prog W r b0 70 v) (h : DataW.Trod enc Try.prog W 0 (fun _ => true) true 70 v d p) :
    ∃ (M : Int) (N : Nat), v = .agg #[.int .i64 M, .int .u8 N] ∧ (Lit.int .i64 M).wf = true ∧ N ≤ 255 := by
  obtain ⟨c0, c1, y0, y1, m, rfl, _, _, hy0, hy1⟩ := Joins.open_agg2 Try.underlying70 (by kernel_rfl) (by kernel_rfl) hv h
  obtain ⟨a, e0, _, wa⟩ := DataW.trod_int Try.underlying3 hy0
  obtain ⟨b, e1, _, wb⟩ := DataW.trod_int Try.underlying5 hy1
  simp at e0 e1
  subst e0 e1
  obtain ⟨k, rfl, hk⟩ := wf_u8 wb
  exact ⟨a, k, rfl, wa, hk⟩
set_option maxRecDepth 100000 in
theorem sact_open {a : Option Addr} {len cap : Nat} {d : DataW H} {p : List MemPlace} (h : DataW.Trod enc Try.prog W 0 (fun _ => true) true 71 (.slice a len cap) d p) : ∃ l, SActS W a len cap l := by
  obtain ⟨fuel, hf⟩ := h
  rcases open_slice Try.underlying71 hf with ⟨hcs, _⟩ | ⟨x, l, c, m, n, D, Pl, hcs, _, hl, hm, hmm, _, hi⟩
  · simp [Value.cells] at hcs
    obtain ⟨rfl, rfl, rfl⟩ := hcs
    exact ⟨[], rfl, by omega, by omega, by simp, by simp, by simp, by simp⟩
  · simp [Value.cells] at hcs
    obtain ⟨rfl, rfl, rfl⟩ := hcs
    have hC : Try.prog.cellsOf 73 = 3 := by kernel_rfl
    have hspot : 0 < len → x.spot = none := fun h0 => by
      obtain ⟨cs', hc, _⟩ := hi 0 (by rw [hmm]; simp; omega)
      rw [hC] at hc
      obtain ⟨_, hcl, hat⟩ := World.cells?_some hc
      have e0 := hat 0 (by omega)
      rw [List.getElem?_eq_getElem (by omega)] at e0
      simpa [Addr.add] using World.cell?_spot e0
    have key : ∀ i, i < len → ∃ s : SAct, (∃ b o, (some x : Option Addr) = some ⟨b, o, none⟩ ∧ W.cell? ⟨b, o + i * 3, none⟩ = some (.int .u8 s.side) ∧ W.cell? ⟨b, o + i * 3 + 1, none⟩ = some (.slice s.xa s.xn s.xc) ∧ W.cell? ⟨b, o + i * 3 + 2, none⟩ = some (.slice s.ya s.yn s.yc)) ∧
        (s.side ≤ 255 ∧ s.X.length = s.xn ∧ s.Y.length = s.yn ∧ (∀ z ∈ s.X, -9223372036854775808 ≤ z ∧ z ≤ 9223372036854775807) ∧ (∀ z ∈ s.Y, -9223372036854775808 ≤ z ∧ z ≤ 9223372036854775807)) ∧ Sl W s.xa s.X ∧ Sl W s.ya s.Y := by
      intro i hlt
      obtain ⟨cs', hc, ht⟩ := hi i (by rw [hmm]; simp; omega)
      rw [hC] at hc
      obtain ⟨ys, n', _, _, hlen, _, hfd⟩ := DataW.trod_struct Try.underlying73 ht
      obtain ⟨_, hcl, hat⟩ := World.cells?_some hc
      match cs', hcl with
      | [c0, c1, c2], _ =>
        have f0 := hfd 0 _ rfl
        have f1 := hfd 1 _ rfl
        have f2 := hfd 2 _ rfl
        have hu : Try.prog.cellsOf 5 = 1 := by kernel_rfl
        have hs : Try.prog.cellsOf 24 = 1 := by kernel_rfl
        simp only [List.getElem_toArray, List.getElem_cons_zero, List.getElem_cons_succ, hu, hs, List.drop_zero, List.drop_succ_cons, List.take_succ_cons, List.take_zero] at f0 f1 f2
        have hys : ys.length = 3 := by have := ‹ys.length = _›; simpa using this
        rw [List.getElem?_eq_getElem (by omega)] at f0 f1 f2
        obtain ⟨z0, hz0, _, hw0⟩ := DataW.trod_int Try.underlying5 f0
        obtain ⟨k0, rfl, b0⟩ := wf_u8 hw0
        obtain ⟨xa, xn, xc, X, rfl, hslx, hXl, hXb, _, _⟩ := ints_open f1
        obtain ⟨ya, yn, yc, Y, rfl, hsly, hYl, hYb, _, _⟩ := ints_open f2
        simp at hz0
        subst hz0
        have e0 := hat 0 (by omega)
        have e1 := hat 1 (by omega)
        have e2 := hat 2 (by omega)
        simp at e0 e1 e2
        obtain ⟨b, o, spot⟩ := x
        have hsp : spot = none := hspot (by omega)
        subst hsp
        simp only [Addr.add_lit] at e0 e1 e2
        exact ⟨⟨k0, xa, xn, xc, X, ya, yn, yc, Y⟩, ⟨b, o, rfl, by simpa using e0, by simpa using e1, by simpa using e2⟩, ⟨b0, hXl, hYl, hXb, hYb⟩, hslx, hsly⟩
    obtain ⟨ll, hll, hp⟩ := list_of _ len key
    have idx : ∀ s ∈ ll, ∃ i : Nat, ll[i]? = some s := fun s hs => List.mem_iff_getElem?.1 hs
    exact ⟨ll, hll, hl, by unfold maxLen at hm; exact hm, fun i s hs => (hp i s hs).1, fun s hs => by obtain ⟨i, hi2⟩ := idx s hs; exact (hp i s hi2).2.1, fun s hs => by obtain ⟨i, hi2⟩ := idx s hs; exact (hp i s hi2).2.2.1, fun s hs => by obtain ⟨i, hi2⟩ := idx s hs; exact (hp i s hi2).2.2.2⟩
end
end Go.Proofs.Ytchledddgmbndaa
namespace Go.Proofs.Ytchledddgmbndaa
open Go.RowKit Go.Mem Go.Aig
theorem SActS.ch {w w' : World} {a : Option Addr} {n cap : Nat} {l : List SAct} (h : SActS w a n cap l) (hc : Ch [] w w') : SActS w' a n cap l :=
  ⟨h.len, h.le, h.max, fun i x hx => by
    obtain ⟨b, o, rfl, d0, d1, d2⟩ := h.cells i x hx
    exact ⟨b, o, rfl, (hc.cell (cell_lt d0) (by simp)).trans d0, (hc.cell (cell_lt d1) (by simp)).trans d1, (hc.cell (cell_lt d2) (by simp)).trans d2⟩, h.bd, fun x hx => (h.slx x hx).ch hc (by simp), fun x hx => (h.sly x hx).ch hc (by simp)⟩
section
variable {w : World}
theorem makes25_is (M : Int) (N : Nat) (hN : N ≤ 255) {a : Option Addr} {n cap : Nat} {l : List SAct} (hS : SActS w a n cap l) (hfew : ∀ x ∈ l, x.xn ≤ 1000 ∧ x.yn ≤ 1000) :
    Calls Try.prog 46 #[.agg #[.int .i64 M, .int .u8 N], .slice a n cap] w fun e w' => e = .returned (.bool true) ∧ Ch [] w w' := by
  by_cases hM : M < 1 ∨ 65536 < M
  · exact makes25_no M N hM a n cap
  · obtain ⟨m, rfl⟩ : ∃ m : Nat, M = m := ⟨M.toNat, by omega⟩
    exact makes25_yes m N (by omega) (by omega) hN hS hfew
set_option maxRecDepth 100000 in
set_option maxHeartbeats 4000000 in
theorem ShiftsMakes_walk (M : Int) (_hM : (Lit.int .i64 M).wf = true) (N : Nat) (hN : N ≤ 255) {a : Option Addr} {n cap : Nat} {l : List SAct} (hS : SActS w a n cap l) :
    Calls Try.prog 9 #[.agg #[.int .i64 M, .int .u8 N], .slice a n cap] w fun e w' => e = .returned (.bool true) ∧ Ch [] w w' := by
  have hle := hS.le
  have hmx := hS.max
  have HS := Lib.hid hS; clear hS
  have HAW := Lib.hid fun (W : World) => awake25_is W
  go_enter Try.func9, Try.ntmps9
  go_wp2_with fail
  refine wp_alw ?_
  intro W0 hW0
  have b2 : blk W0 w.heap.size [.int .i64 M, .int .u8 N] := by rw [hW0]; exact blk.new' _ _ (by simp)
  have hc0 : Ch [] w W0 := by rw [hW0]; exact (Ch.refl _ _).alloc _
  clear hW0
  have B2 := Lib.hid b2; clear b2
  have HC0 := Lib.hid hc0; clear hc0
  go_loopw [9] (fun i wr => ∃ k : Nat, k ≤ n ∧ i = .int .i64 k ∧ Ch [] w wr ∧ blk wr w.heap.size [.int .i64 M, .int .u8 N] ∧ ∀ (j : Nat) (x : SAct), j < k → l[j]? = some x → x.xn ≤ 20 ∧ x.yn ≤ 20) (fun i _ => n - (intOf i).toNat)
  case atStart => exact ⟨0, by omega, rfl, HC0.out, B2.out, fun j x hj => by omega⟩
  case round =>
    obtain ⟨k, hk, rfl, hc, b2, hno⟩ := hrel
    clear B2 HC0
    have HNO := Lib.hid hno; clear hno
    by_cases hlt : k < n
    · obtain ⟨x, hx⟩ : ∃ x, l[k]? = some x := ⟨_, List.getElem?_eq_getElem (by rw [HS.out.len]; exact hlt)⟩
      have hxm := List.mem_of_getElem? hx
      obtain ⟨xb, xo, rfl, d0, d1, d2⟩ := HS.out.cells k x hx
      have d0 := (hc.cell (cell_lt d0) (by simp)).trans d0
      have d1 := (hc.cell (cell_lt d1) (by simp)).trans d1
      have d2 := (hc.cell (cell_lt d2) (by simp)).trans d2
      have hcA : Ch [] w (wr.alloc (.cells #[.int .u8 x.side, .slice x.xa x.xn x.xc, .slice x.ya x.yn x.yc] 73)) := hc.alloc _
      have b2A := b2.ch (F := []) ((Ch.refl [] wr).alloc (.cells #[.int .u8 x.side, .slice x.xa x.xn x.xc, .slice x.ya x.yn x.yc] 73)) (by simp)
      have HCA := Lib.hid hcA; clear hcA hc
      have B2A := Lib.hid b2A; clear b2A b2
      have HX := Lib.hid hx; clear hx hxm
      by_cases hbig : 6 < n
      · have q0 : decide ((6 : Int) < (n : Int)) = true := decide_eq_true (by omega)
        clear hbig
        go_wp2_with fail
        refine (HAW.out _).mono ?_
        rintro e w2 ⟨rfl, hc2⟩
        have HC2 := Lib.hid hc2; clear hc2
        go_wp2_with fail
        go_ret
        exact ⟨rfl, HCA.out.trans HC2.out (by simp)⟩
      · have q0 : decide ((6 : Int) < (n : Int)) = false := decide_eq_false (by omega)
        clear hbig
        by_cases hb2 : 20 < x.xn
        · have q1 : decide ((20 : Int) < (x.xn : Int)) = true := decide_eq_true (by omega)
          clear hb2
          go_wp2_with fail
          refine (HAW.out _).mono ?_
          rintro e w2 ⟨rfl, hc2⟩
          have HC2 := Lib.hid hc2; clear hc2
          go_wp2_with fail
          go_ret
          exact ⟨rfl, HCA.out.trans HC2.out (by simp)⟩
        · have q1 : decide ((20 : Int) < (x.xn : Int)) = false := decide_eq_false (by omega)
          by_cases hb3 : 20 < x.yn
          · have q2 : decide ((20 : Int) < (x.yn : Int)) = true := decide_eq_true (by omega)
            clear hb2 hb3
            go_wp2_with fail
            refine (HAW.out _).mono ?_
            rintro e w2 ⟨rfl, hc2⟩
            have HC2 := Lib.hid hc2; clear hc2
            go_wp2_with fail
            go_ret
            exact ⟨rfl, HCA.out.trans HC2.out (by simp)⟩
          · have q2 : decide ((20 : Int) < (x.yn : Int)) = false := decide_eq_false (by omega)
            have hb20 := Lib.hid (show x.xn ≤ 20 ∧ x.yn ≤ 20 by omega)
            clear hb2 hb3
            go_wp2_with fail
            go_roundw
            case rel =>
              refine ⟨k + 1, by omega, by go_num, HCA.out, B2A.out, fun j y hj hy => ?_⟩
              by_cases e : j = k
              · subst e; rw [HX.out] at hy; cases hy; exact hb20.out
              · exact HNO.out j y (by omega) hy
            case measure => simp [intOf]; omega
    · have hall : ∀ x ∈ l, x.xn ≤ 1000 ∧ x.yn ≤ 1000 := fun x hx => by
        obtain ⟨j, hj⟩ := List.mem_iff_getElem?.1 hx
        have := HNO.out j x (by have := (List.getElem?_eq_some_iff.1 hj).1; have := HS.out.len; omega) hj
        omega
      have hD := makes25_is M N hN (HS.out.ch hc) hall
      have x0 := b2.cell (i := 0) rfl
      have x1 := b2.cell (i := 1) rfl
      have HD := Lib.hid hD; clear hD hall
      have HC := Lib.hid hc; clear hc b2
      go_wp2_with fail
      refine HD.out.mono ?_
      rintro e w2 ⟨rfl, hc2⟩
      have HC2 := Lib.hid hc2; clear hc2
      go_wp2_with fail
      refine (HAW.out _).mono ?_
      rintro e w3 ⟨rfl, hc3⟩
      have HC3 := Lib.hid hc3; clear hc3
      go_wp2_with fail
      go_ret
      exact ⟨rfl, (HC.out.trans HC2.out (by simp)).trans HC3.out (by simp)⟩
end
end Go.Proofs.Ytchledddgmbndaa
