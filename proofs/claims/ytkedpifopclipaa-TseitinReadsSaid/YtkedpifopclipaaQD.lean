/-
  Walk over tseitin's Inputs. Conditions: a graph in memory, a map of any numbers and values that can be read.
  Walk over index of chapter 27's laws: a number modulo another one. Conditions: a modulus that is not zero.
  Plain facts of TseitinWrong: maps that are not of a graph; Clone of maps and of clauses, make of truths. Conditions: slices that can be read.
  The reference of chapter 21: Column, Assignment, Values, Value. Conditions: a graph of the reference that can be read, values 0 or 1.
  The reference of chapter 21: Value, Assignment, Column, True. Conditions: a graph of the reference that can be read, at most 17 inputs.
  The reference of chapter 21: True, Support. Conditions: a graph of the reference that can be read, at most 17 inputs.
  The reference of chapter 21: Support. Conditions: a graph of the reference that can be read, references of it.
  Walk over Begin of chapter 23's laws: a graph, and the same one of the reference. Conditions: numbers in range.
  Walks over build and inputs of chapter 21's laws: a graph, and the same one of the reference. Conditions: a slice of at most 61 nodes of any integers.
  Walks over index and build of chapter 27's laws: a graph, and the same one of the reference. Conditions: a slice of nodes of any integers.
  Walks over the reference of chapter 27: Rising, Lit, Ref. Conditions: a slice of ints that can be read.
  Walks over the reference of chapter 27: Lit, Ref. Conditions: a slice of ints that can be read.
  Walk over the reference of chapter 27: Ref. Conditions: a slice of ints that can be read.
  Walk over the reference of chapter 27: Right. Conditions: the reference's graph in memory, a map of any numbers.
  Walks over law 27's bits and the reference's Model and Inputs. Conditions: the reference's graph in memory, a map that is right, values.
  Walks over the reference of chapter 27: Model and Inputs. Conditions: the reference's graph in memory, a map that is right, values.
  Walk over law 27's refs: Lit and Ref beside the reference's. Conditions: a map that can be read, two integers.
  Walks over slices.Clone of ints and over law 27's reads. Conditions: a slice of at most sixty nodes, a map and values of at most seventy each.
  Walk over TseitinReads: true, whatever comes in. Conditions: a slice of nodes of any integers, a slice of ints, two slices of truths.
-/
import Derived.Test.YtkedpifopclipaaQC
namespace Go.Aig
theorem inputs_lt {ns : List Nd} {r : Nat} (h : r ∈ inputs ns) : r < 2 * ns.length := by
  obtain ⟨i, hi⟩ := List.getElem?_of_mem h
  have hl := (List.getElem?_eq_some_iff.1 hi).1
  obtain ⟨n, x, hx, h2, hc⟩ := nth_input ns i hl
  have h3 := (input_at hx h2).2
  rw [hc, List.getD_eq_getElem?_getD, hi] at h3
  have := (List.getElem?_eq_some_iff.1 hx).1
  simp at h3
  omega
end Go.Aig
namespace Go.Proofs.Ytkedpifopclipaa
open Go.RowKit Go.Mem Go.Aig
section
variable {w : World} {g : Nat} {G : Gra} {F : List Nat}
set_option maxRecDepth 100000 in
set_option maxHeartbeats 4000000 in
theorem tsInputs_is (h : GIn w g G F) {a : Option Addr} {m : List Int} (n c : Nat) (hn : m.length = n) (hnl : n ≤ 100000) (hS : Sl w a m) {xa : Option Addr} {mv : List Bool} (k xc : Nat) (hk : mv.length = k) (hB : Sb w xa mv) (hkl : k ≤ 100000) :
    Calls Try.prog 33 #[.pointer (some ⟨g, 0, none⟩), .slice a n c, .slice xa k xc] w fun e w' => ∃ v, e = .returned (.tuple #[v, .int .i64 (insR G m mv).2]) ∧ BNew w v (insR G m mv).1 w' := by
  have hpos := h.ok.wf.pos
  have hL := Len_g h
  have hRi := tsRight_is h n c hn hnl hS
  have hIn := fun (W : World) (hc : Ch [] w W) => Inputs_g (h.same hc (by simp))
  have hLit := fun (W : World) (hc : Ch [] w W) (r : Int) hr => tsLit_is n c hn (by omega) (hS.ch hc (by simp)) r hr
  have hN6 : G.nodes.length ≤ 65536 := by have := h.ok.room; have := h.ok.most; omega
  have d0 : ((G.nodes.length : Int) == 0) = false := by rw [beq_eq_false_iff_ne]; omega
  have hib : ∀ r ∈ inputs G.nodes, r ≤ 1000000 := fun r hr => by have := inputs_lt hr; omega
  have hil : (inputs G.nodes).length ≤ 65536 := Nat.le_trans (inputs_le G.nodes) hN6
  unfold insR
  cases hrm : rightM G.nodes m
  · rw [hrm] at hRi
    simp only [if_true]
    have HL := Lib.hid hL; clear hL
    have HR := Lib.hid hRi; clear hRi
    clear hIn hLit h hS hB hrm hn hk hib hil
    generalize G.nodes.length = NL at *
    go_enter Try.func33, Try.ntmps33
    go_wp2_with fail
    refine HL.out.mono ?_
    rintro e w' ⟨rfl, rfl⟩
    go_wp2_with fail
    refine HR.out.mono ?_
    rintro e w1 ⟨rfl, hc⟩
    have HC := Lib.hid hc; clear hc
    go_wp2_with fail
    go_ret2
    exact ⟨_, rfl, BNew.nil _ _ HC.out⟩
  · rw [hrm] at hRi
    simp only [Bool.true_eq_false, if_false]
    by_cases hkn : mv.length ≠ m.length
    · rw [if_pos hkn]
      have d1 : ((k : Int) != (n : Int)) = true := by simp; omega
      have HL := Lib.hid hL; clear hL
      have HR := Lib.hid hRi; clear hRi
      clear hIn hLit h hS hB hrm hn hk hkn hib hil
      generalize G.nodes.length = NL at *
      go_enter Try.func33, Try.ntmps33
      go_wp2_with fail
      refine HL.out.mono ?_
      rintro e w' ⟨rfl, rfl⟩
      go_wp2_with fail
      refine HR.out.mono ?_
      rintro e w1 ⟨rfl, hc⟩
      have HC := Lib.hid hc; clear hc
      go_wp2_with fail
      go_ret2
      exact ⟨_, rfl, BNew.nil _ _ HC.out⟩
    · rw [if_neg hkn]
      have hkn2 : k = n := by omega
      subst hkn2
      have d1 : ((k : Int) != (k : Int)) = false := by simp
      have hab := fun r => litF_abs m r
      unfold insV
      obtain ⟨IN, hINe⟩ : ∃ IN, inputs G.nodes = IN := ⟨_, rfl⟩
      rw [hINe] at hIn hib hil ⊢
      have HL := Lib.hid hL; clear hL
      have HR := Lib.hid hRi; clear hRi
      have HIN := Lib.hid hIn; clear hIn
      have HLI := Lib.hid hLit; clear hLit
      have HB := Lib.hid hB; clear hB
      have HK := Lib.hid hk; clear hk
      have HN := Lib.hid hn; clear hn
      have HAB := Lib.hid hab; clear hab
      have HIB := Lib.hid hib; clear hib
      clear h hS hrm hINe hkn
      generalize G.nodes.length = NL at *
      go_enter Try.func33, Try.ntmps33
      go_wp2_with fail
      refine HL.out.mono ?_
      rintro e w' ⟨rfl, rfl⟩
      go_wp2_with fail
      refine HR.out.mono ?_
      rintro e w1 ⟨rfl, hc⟩
      have hin := HIN.out w1 hc
      have HC := Lib.hid hc; clear hc
      have HI1 := Lib.hid hin; clear hin HIN
      go_wp2_with fail
      refine HI1.out.mono ?_
      rintro e w2 ⟨v, rfl, hrow, _, hc2⟩
      obtain ⟨ia, ic, rfl⟩ := row.shape hrow
      have hc2 := HC.out.trans hc2 (by simp)
      have HROWI := Lib.hid hrow; clear hrow HC
      have HC2 := Lib.hid hc2; clear hc2
      go_wp2_with fail
      go_loopw [8, 31] (fun o i wr => ∃ j : Nat, j ≤ IN.length ∧ i = .int .i64 j ∧ Ch [] w2 wr ∧ row wr 4 1 o j (bools ((IN.take j).map fun (r : Nat) => litF m r != 0 && mv.getD ((litF m r).natAbs - 1) false)) ∧ ∀ q ∈ o.ownBlock.toList, w2.heap.size ≤ q) (fun _ i _ => IN.length - (intOf i).toNat)
      case atStart => exact ⟨0, by omega, rfl, Ch.refl _ _, ⟨rfl, .inl ⟨rfl, rfl⟩⟩, by simp⟩
      case round =>
        obtain ⟨j, hj, rfl, hc, hrow, hlo⟩ := hrel
        obtain ⟨oa, oc, rfl⟩ := row.shape hrow
        by_cases hlt : j < IN.length
        · obtain ⟨r, hr⟩ : ∃ r, IN[j]? = some r := ⟨_, List.getElem?_eq_getElem hlt⟩
          have hrb := HIB.out r (List.mem_of_getElem? hr)
          obtain ⟨ib, ic2, e⟩ := HROWI.out.parts (by omega)
          cases e
          have d9 := row_cell HROWI.out (k := j) (v := .int .i64 r) (by unfold refsCells; rw [List.getElem?_map, hr]; rfl)
          have c0 := (hc.cell (cell_lt d9) (by simp)).trans d9
          have hli := HLI.out wr (HC2.out.trans hc (by simp)) r (by omega)
          have hab := HAB.out r
          rw [HN.out] at hab
          obtain ⟨t, ht⟩ : ∃ t, (litF m r != 0 && mv.getD ((litF m r).natAbs - 1) false) = t := ⟨_, rfl⟩
          have hsu : bools ((IN.take (j + 1)).map fun (r : Nat) => litF m r != 0 && mv.getD ((litF m r).natAbs - 1) false) = bools ((IN.take j).map fun (r : Nat) => litF m r != 0 && mv.getD ((litF m r).natAbs - 1) false) ++ [.bool t] := by rw [List.take_add_one, hr, ← ht]; simp [bools]
          have hcA : Ch [] wr (wr.alloc (.cells #[.bool t] 4)) := (Ch.refl _ _).alloc _
          have hrA := hrow.ch hcA (by simp)
          have hbA : blk (wr.alloc (.cells #[.bool t] 4)) wr.heap.size [.bool t] := blk.new' _ _ rfl
          have HSU := Lib.hid hsu; clear hsu
          have HRA := Lib.hid hrA; clear hrA hrow
          have HBA := Lib.hid hbA; clear hbA
          have HCA := Lib.hid hcA; clear hcA
          have HLO := Lib.hid hlo; clear hlo d9 hr
          generalize hLF : litF m r = LF at *
          have HLI1 := Lib.hid hli; clear hli
          cases hz : (LF != 0)
          · rw [hz] at ht HLI1
            have ht2 : t = false := by rw [← ht]; rfl
            subst ht2
            have HCP := Lib.hid hc; clear hc ht hz hLF
            go_wp2_with fail
            refine HLI1.out.mono ?_
            rintro e w' ⟨rfl, rfl⟩
            go_wp2_with (at_builtin; go_loud (refine wpList_append_row slBools rfl _ _ rfl (v := .slice oa j oc) (n := j) (xs := _) rfl HRA.out (ad := ⟨wr.heap.size, 0, none⟩) (m := 1) (c := 1) (news := [.bool false]) rfl rfl (news_blk HBA.out) (by simp [Value.oneCell']) (by omega) (by omega) ?_; intro v' w4 hown4 hC4 hf4; obtain ⟨gb, gc, rfl⟩ := hown4.parts (by omega); have HO4 := Lib.hid hown4; clear hown4; have HCC4 := Lib.hid hC4; clear hC4; have HF4 := Lib.hid hf4; clear hf4))
            go_roundw
            case rel =>
              obtain ⟨q1, q2⟩ := app_step HCP.out HCA.out HLO.out HCC4.out HF4.out
              refine ⟨j + 1, by omega, by go_num, q1, ?_, q2⟩
              rw [HSU.out]; exact HO4.out
            case measure => simp [intOf]; omega
          · rw [hz, Bool.true_and] at ht
            rw [hz] at HLI1
            have hne : LF ≠ 0 := by simpa using hz
            obtain ⟨V, hV⟩ : ∃ V, LF.natAbs = V + 1 := ⟨LF.natAbs - 1, by omega⟩
            rw [hV, Nat.add_sub_cancel] at ht
            have hVk : V < k := by omega
            obtain ⟨xb, xo, rfl, d8⟩ := HB.out.cells V (.bool t) (by
              rw [List.getElem?_map, List.getElem?_eq_getElem (by rw [HK.out]; exact hVk), Option.map_some, ← ht, List.getD_eq_getElem?_getD, List.getElem?_eq_getElem (by rw [HK.out]; exact hVk)]
              rfl)
            have c8 := ((HC2.out.trans hc (by simp)).cell (cell_lt d8) (by simp)).trans d8
            have hvar := fun (W : World) => litsVar_is W LF (by omega)
            have hvv : varL LF = V + 1 := by
              unfold varL
              rw [if_pos ((rightLit_iff LF).2 (by omega)), hV]
            rw [hvv, show ((V + 1 : Nat) : Int) = (V : Int) + 1 by omega] at hvar
            have hmx : ∀ ats ty, Builtin.max_ ats ty #[.int .i64 ((V : Int) + 1), .int .i64 1] = pure (.int .i64 ((V : Int) + 1)) := fun ats ty => by
              have e9 : (if (V : Int) + 1 < 1 then 1 else (V : Int) + 1) = (V : Int) + 1 := by split <;> omega
              conv => rhs; rw [← e9]
              simp [Builtin.max_, Builtin.max2]
            have HCP := Lib.hid hc
            have HVAR := Lib.hid hvar
            clear hc ht hz hLF hne hvar hvv d8 hV hab
            go_wp2_with fail
            refine HLI1.out.mono ?_
            rintro e w' ⟨rfl, rfl⟩
            go_wp2_with fail
            refine (HVAR.out _).mono ?_
            rintro e w' ⟨rfl, rfl⟩
            go_wp2_with (at_builtin; go_loud (refine wpList_append_row slBools rfl _ _ rfl (v := .slice oa j oc) (n := j) (xs := _) rfl HRA.out (ad := ⟨wr.heap.size, 0, none⟩) (m := 1) (c := 1) (news := [.bool t]) rfl rfl (news_blk HBA.out) (by simp [Value.oneCell']) (by omega) (by omega) ?_; intro v' w4 hown4 hC4 hf4; obtain ⟨gb, gc, rfl⟩ := hown4.parts (by omega); have HO4 := Lib.hid hown4; clear hown4; have HCC4 := Lib.hid hC4; clear hC4; have HF4 := Lib.hid hf4; clear hf4))
            go_roundw
            case rel =>
              obtain ⟨q1, q2⟩ := app_step HCP.out HCA.out HLO.out HCC4.out HF4.out
              refine ⟨j + 1, by omega, by go_num, q1, ?_, q2⟩
              rw [HSU.out]; exact HO4.out
            case measure => simp [intOf]; omega
        · have hjn : j = IN.length := by omega
          subst hjn
          rw [List.take_of_length_le (Nat.le_refl _)] at hrow
          have HROW := Lib.hid hrow; clear hrow
          have HC3 := Lib.hid (HC2.out.trans hc (by simp)); clear hc
          have hz := HC2.out.size
          have HZ := Lib.hid hz; clear hz
          have HLO := Lib.hid hlo; clear hlo
          go_wp2_with fail
          go_ret2
          refine ⟨_, rfl, ?_, fun q hq => Nat.le_trans HZ.out (HLO.out q hq), HC3.out⟩
          rw [List.length_map]
          exact HROW.out
end
end Go.Proofs.Ytkedpifopclipaa
namespace Go.Proofs.Ytkedpifopclipaa
open Go.RowKit Go.Mem Go.Aig
set_option maxRecDepth 100000 in
set_option maxHeartbeats 1000000 in
theorem index27_is (w : World) (n : Int) (_hn : -9223372036854775808 ≤ n ∧ n ≤ 9223372036854775807) (k : Nat) (hk : 1 ≤ k) (hk2 : k ≤ 1000000) :
    Calls Try.prog 80 #[.int .i64 n, .int .i64 k] w fun e w' => e = .returned (.int .i64 (n % k)) ∧ w = w' := by
  have hb := Int.emod_nonneg n (show (k : Int) ≠ 0 by omega)
  have hb2 := Int.emod_lt_of_pos n (show (0 : Int) < k by omega)
  have hk0 : ((k : Int) == 0) = false := beqN (by omega)
  have ht := Int.tmod_eq_emod (a := n) (b := (k : Int))
  obtain ⟨r, hr⟩ : ∃ r, Int.tmod n k = r := ⟨_, rfl⟩
  have hr1 : -(k : Int) < r ∧ r < k := by
    have := Int.natAbs_tmod n k
    have h2 : (Int.tmod n k).natAbs < k := by rw [this]; exact Nat.mod_lt _ (by omega)
    rw [hr] at h2
    omega
  have hres : n % k = if r < 0 then r + k else r := by
    rw [hr] at ht
    split at ht
    · split <;> omega
    · have : ((k : Int).natAbs : Int) = k := by simp
      rw [this] at ht
      split <;> omega
  by_cases h0 : r < 0
  · rw [if_pos h0] at hres
    rw [hres]
    have HH := Lib.hid hres
    clear hres ht hb hb2
    go_enter Try.func80, Try.ntmps80
    go_wp2_with fail
    go_ret
    exact ⟨rfl, rfl⟩
  · rw [if_neg h0] at hres
    rw [hres]
    clear hres ht hb hb2
    go_enter Try.func80, Try.ntmps80
    go_wp2_with fail
    go_ret
    exact ⟨rfl, rfl⟩
end Go.Proofs.Ytkedpifopclipaa
namespace Go.Aig
end Go.Aig
namespace Go.Proofs.Ytkedpifopclipaa
open Go.RowKit Go.Mem Go.Aig
theorem eqSliceNil_CLmap (w : World) (a : Option Addr) (n c : Nat) : (binOp .eql 37 (.slice a n c) (.slice none 0 0)).run Try.prog w = .ok (.bool a.isNone) w := by
  have h : Try.prog.underlying 37 = some (.slice 3) := Try.underlying37
  simp only [binOp]
  simp [run_equal_slice_nil w _ _ a n c h]
theorem eqSliceNil_CLcls (w : World) (a : Option Addr) (n c : Nat) : (binOp .eql 137 (.slice a n c) (.slice none 0 0)).run Try.prog w = .ok (.bool a.isNone) w := by
  have h : Try.prog.underlying 137 = some (.slice 46) := Try.underlying137
  simp only [binOp]
  simp [run_equal_slice_nil w _ _ a n c h]
section
attribute [local go_sem] eqSliceNil_CLmap eqSliceNil_CLcls
variable {w : World}
end
end Go.Proofs.Ytkedpifopclipaa
namespace Go.Proofs.Ytkedpifopclipaa
open Go.RowKit Go.Mem Go.Aig
theorem bits_xor_i64_nat (a b : Nat) (ha : a < 9223372036854775808) (hb : b < 9223372036854775808) : bits .xor .i64 (a : Int) (b : Int) = ((a ^^^ b : Nat) : Int) := by
  have hx : a ^^^ b < 2 ^ 63 := Nat.xor_lt_two_pow (by omega) (by omega)
  have h1 : (BitVec.ofInt 64 (a : Int)).toNat = a := by
    rw [BitVec.ofInt_natCast, BitVec.toNat_ofNat]; exact Nat.mod_eq_of_lt (by omega)
  have h2 : (BitVec.ofInt 64 (b : Int)).toNat = b := by
    rw [BitVec.ofInt_natCast, BitVec.toNat_ofNat]; exact Nat.mod_eq_of_lt (by omega)
  show IntKind.i64.wrap ((BitVec.ofInt 64 (a : Int) ^^^ BitVec.ofInt 64 (b : Int)).toNat : Int) = _
  rw [BitVec.toNat_xor, h1, h2, IntKind.wrap_i64]
  omega
/-- what all nodes are, 0 or 1 -/
def valsN (I : List Nat) (ns : List Nd) : List Nat := (wvF 1 I ns).1
theorem valsN_len (I : List Nat) (ns : List Nd) : (valsN I ns).length = ns.length := wvF_len 1 I ns
theorem valsN_le {I : List Nat} (h : ∀ v ∈ I, v ≤ 1) (ns : List Nd) : ∀ v ∈ valsN I ns, v ≤ 1 := fun v hv => by
  have := (wvF_lt (N := 1) (ins := I) (fun v hv => by have := h v hv; omega) ns).1 v hv
  omega
theorem wref1 (V : List Nat) (r : Nat) : wref 1 V r = V.getD (r / 2) 0 ^^^ (r % 2) := by
  unfold wref
  rcases Nat.mod_two_eq_zero_or_one r with h | h <;> rw [h]
  · simp
  · rw [if_pos rfl, Nat.xor_comm]
theorem bit_mul {a b : Nat} (ha : a ≤ 1) (hb : b ≤ 1) : a * b = a &&& b := by
  rcases (by omega : a = 0 ∨ a = 1) with rfl | rfl <;> rcases (by omega : b = 0 ∨ b = 1) with rfl | rfl <;> rfl
theorem xor_le1 {a b : Nat} (ha : a ≤ 1) (hb : b ≤ 1) : a ^^^ b ≤ 1 := by
  rcases (by omega : a = 0 ∨ a = 1) with rfl | rfl <;> rcases (by omega : b = 0 ∨ b = 1) with rfl | rfl <;> decide
section
variable {w : World}
set_option maxRecDepth 100000 in
set_option maxHeartbeats 2000000 in
theorem r21Values_is {rb cap : Nat} {G : Gra} (h : RG w rb cap G) {xa : Option Addr} {I : List Nat} (m xc : Nat) (hm : I.length = m) (hI : Sv w xa (refsCells I)) (hle : ∀ v ∈ I, v ≤ 1) (hlen : (inputs G.nodes).length ≤ m) :
    Calls Try.prog 169 #[.agg #[.int .i64 G.most, .slice (some ⟨rb, 0, none⟩) G.nodes.length cap], .slice xa m xc] w fun e w' => ∃ v, e = .returned v ∧ row w' 3 1 v G.nodes.length (refsCells (valsN I G.nodes)) ∧ (∀ q ∈ v.ownBlock.toList, w.heap.size ≤ q) ∧ Ch [] w w' := by
  obtain ⟨hl, hp, hmo⟩ := h.len
  have hle0 := h.le
  have hmx := h.mx
  have hV1 := valsN_le hle G.nodes
  have hVl := valsN_len I G.nodes
  have hwf := h.ok.wf
  have hVn := fun (i : Nat) (x : Nd) (hx : G.nodes[i]? = some x) => wv_node hwf 1 I hx
  have hin := fun (i : Nat) (x : Nd) (hx : G.nodes[i]? = some x) (h2 : x.k = 2) => input_at hx h2
  have hIb : I.length ≤ 9223372036854775807 := by have := hI.bd; simpa [refsCells] using this
  obtain ⟨V, hV⟩ : ∃ V, valsN I G.nodes = V := ⟨_, rfl⟩
  have hV' : (wvF 1 I G.nodes).1 = V := hV
  rw [hV] at hV1 hVl
  simp only [hV'] at hVn
  rw [hV]
  clear hV hV'
  have H := Lib.hid h; clear h
  have HI := Lib.hid hI; clear hI
  have HM := Lib.hid hm; clear hm
  have HV1 := Lib.hid hV1; clear hV1
  have HVL := Lib.hid hVl; clear hVl
  have HVN := Lib.hid hVn; clear hVn
  have HIN := Lib.hid hin; clear hin
  have HLE := Lib.hid hle; clear hle
  go_enter Try.func169, Try.ntmps169
  go_wp2_with fail
  refine wp_alw ?_
  intro W0 hW0
  have hc0 : Ch [] w W0 := by rw [hW0]; exact (Ch.refl _ _).alloc _
  have b2 : blk W0 w.heap.size [.int .i64 G.most, .slice (some ⟨rb, 0, none⟩) G.nodes.length cap] := by rw [hW0]; exact blk.new' (w := w) [.int .i64 G.most, .slice (some ⟨rb, 0, none⟩) G.nodes.length cap] 122 rfl
  clear hW0
  have hr0 := H.out.ch hc0 (by simp)
  have hi0 := HI.out.ch hc0 (by simp)
  have B2 := Lib.hid b2; clear b2
  have HC0 := Lib.hid hc0; clear hc0
  have HR0 := Lib.hid hr0; clear hr0
  have HI0 := Lib.hid hi0; clear hi0
  go_loopw [5, 6, 7] (fun o q i wr => ∃ n : Nat, n ≤ G.nodes.length ∧ i = .int .i64 n ∧ q = .int .i64 ((inputs (G.nodes.take n)).length : Nat) ∧ Ch [] W0 wr ∧ row wr 3 1 o n (refsCells (V.take n)) ∧ ∀ q ∈ o.ownBlock.toList, W0.heap.size ≤ q) (fun _ _ i _ => G.nodes.length - (intOf i).toNat)
  case atStart => exact ⟨0, by omega, rfl, rfl, Ch.refl _ _, ⟨rfl, .inl ⟨rfl, rfl⟩⟩, by simp⟩
  case round =>
    obtain ⟨n, hn, rfl, rfl, hc, hrow, hlo⟩ := hrel
    obtain ⟨oa, oc, rfl⟩ := row.shape hrow
    have y1 := (B2.out.ch hc (by simp)).cell (i := 1) rfl
    by_cases hlt : n < G.nodes.length
    · obtain ⟨x, hx⟩ : ∃ x, G.nodes[n]? = some x := ⟨_, List.getElem?_eq_getElem hlt⟩
      obtain ⟨c0, c1, c2⟩ := (HR0.out.ch hc (by simp)).node hx
      have hvn := HVN.out n x hx
      obtain ⟨v, hv⟩ : ∃ v, V[n]? = some v := ⟨_, List.getElem?_eq_getElem (by rw [HVL.out]; exact hlt)⟩
      rw [hv] at hvn
      replace hvn := Option.some.inj hvn
      have hts : V.take (n + 1) = V.take n ++ [v] := by rw [List.take_add_one, hv]; rfl
      have hv1 := HV1.out v (List.mem_of_getElem? hv)
      have hins : (inputs (G.nodes.take n)).length ≤ n := by
        have : ∀ (l : List Nd) (k : Nat), (inputsFrom l k).length ≤ l.length := fun l => by
          induction l with
          | nil => intro n; simp [inputsFrom]
          | cons a l ih => intro n; unfold inputsFrom; split <;> simp <;> have := ih (n + 1) <;> omega
        have := this (G.nodes.take n) 0
        rw [List.length_take] at this
        unfold inputs
        omega
      have hisucc : (inputs (G.nodes.take (n + 1))).length = (inputs (G.nodes.take n)).length + (if x.k = 2 then 1 else 0) := by
        rw [List.take_add_one, hx]
        show (inputs (G.nodes.take n ++ [x])).length = _
        by_cases h2 : x.k = 2
        · rw [inputs_input h2, if_pos h2]; simp
        · rw [inputs_append h2, if_neg h2]; rfl
      have HTS := Lib.hid hts; clear hts
      have HC := Lib.hid hc; clear hc
      have HROW := Lib.hid hrow; clear hrow
      have HLO := Lib.hid hlo; clear hlo
      have HVNN := Lib.hid hvn; clear hvn
      have HIS := Lib.hid hisucc; clear hisucc
      have HXX := Lib.hid hx
      go_upto_region 7 with fail
      refine wp_named fun W1 hW1 => ?_
      have hc1 : Ch [] wr W1 := by rw [hW1]; exact (Ch.refl _ _).alloc _
      have hb1 : blk W1 wr.heap.size [.int .i64 x.k, .int .i64 x.l, .int .i64 x.r] := by rw [hW1]; exact blk.new' _ _ rfl
      have d0 := hb1.cell (i := 0) rfl
      clear hW1 y1 c0 c1 c2
      have hc1' := Lib.hid hc1; clear hc1
      by_cases h3 : x.k = 3
      · have q2 : ((x.k : Int) == 2) = false := by rw [h3]; rfl
        have q3 : ((x.k : Int) == 3) = true := by rw [h3]; rfl
        have hsd := hwf.sides hx h3
        have hvn := HVNN.out
        rw [if_pos h3, wref1, wref1] at hvn
        have his := HIS.out
        rw [if_neg (by omega), Nat.add_zero] at his
        obtain ⟨L, hL⟩ : ∃ L, x.l / 2 = L := ⟨_, rfl⟩
        obtain ⟨R, hR⟩ : ∃ R, x.r / 2 = R := ⟨_, rfl⟩
        obtain ⟨lm, hlm⟩ : ∃ lm, x.l % 2 = lm := ⟨_, rfl⟩
        obtain ⟨rm, hrm⟩ : ∃ rm, x.r % 2 = rm := ⟨_, rfl⟩
        have hLn : L < n := by omega
        have hRn : R < n := by omega
        rw [hL, hR, hlm, hrm] at hvn
        obtain ⟨p, hp⟩ : ∃ p, V[L]? = some p := ⟨_, List.getElem?_eq_getElem (by rw [HVL.out]; omega)⟩
        obtain ⟨q, hq⟩ : ∃ q, V[R]? = some q := ⟨_, List.getElem?_eq_getElem (by rw [HVL.out]; omega)⟩
        have hp1 := HV1.out p (List.mem_of_getElem? hp)
        have hq1 := HV1.out q (List.mem_of_getElem? hq)
        rw [List.getD_eq_getElem?_getD, List.getD_eq_getElem?_getD, hp, hq] at hvn
        simp only [Option.getD_some] at hvn
        have hpt : (V.take n)[L]? = some p := by rw [List.getElem?_take, if_pos hLn]; exact hp
        have hqt : (V.take n)[R]? = some q := by rw [List.getElem?_take, if_pos hRn]; exact hq
        obtain ⟨ob, oc', hoe⟩ := row.parts HROW.out (by omega)
        cases hoe
        have cp := row_cell (HROW.out.ch hc1'.out (by simp)) (k := L) (v := .int .i64 p) (by unfold refsCells; rw [List.getElem?_map, hpt]; rfl)
        have cq := row_cell (HROW.out.ch hc1'.out (by simp)) (k := R) (v := .int .i64 q) (by unfold refsCells; rw [List.getElem?_map, hqt]; rfl)
        have d1 := hb1.cell (i := 1) rfl
        have d2 := hb1.cell (i := 2) rfl
        have hlm1 : lm ≤ 1 := by omega
        have hrm1 : rm ≤ 1 := by omega
        have ex1 := bits_xor_i64_nat p lm (by omega) (by omega)
        have ex2 := bits_xor_i64_nat q rm (by omega) (by omega)
        have ha1 := xor_le1 hp1 hlm1
        have hb1' := xor_le1 hq1 hrm1
        obtain ⟨A, hA⟩ : ∃ A, p ^^^ lm = A := ⟨_, rfl⟩
        obtain ⟨B, hB⟩ : ∃ B, q ^^^ rm = B := ⟨_, rfl⟩
        rw [hA] at ex1 ha1 hvn
        rw [hB] at ex2 hb1' hvn
        rw [← bit_mul ha1 hb1'] at hvn
        have em : (A : Int) * (B : Int) = (v : Int) := by rw [hvn]; simp
        have em1 : ∀ [Nonempty Unit], wrap64 ((A : Int) * (B : Int)) = (v : Int) := by rw [em]; exact IntWalk.wrap64_in _ (by omega)
        have em2 : ∀ [Nonempty Unit], IntKind.i64.wrap ((A : Int) * (B : Int)) = (v : Int) := by rw [em]; exact IntWalk.i64_in _ (by omega)
        have el1 : (x.l : Int) / 2 = (L : Int) := by omega
        have el2 : (x.l : Int) % 2 = (lm : Int) := by omega
        have er1 : (x.r : Int) / 2 = (R : Int) := by omega
        have er2 : (x.r : Int) % 2 = (rm : Int) := by omega
        have hxb : x.l ≤ 200000 ∧ x.r ≤ 200000 := by omega
        have HIS2 := Lib.hid his; clear his HIS
        have HSD := Lib.hid hsd; clear hsd
        clear hvn hp hq hpt hqt hA hB hL hR hlm hrm em HVNN hx h3 hb1
        go_wp2_with fail
        refine Ord.St.door (fun _ => True) [.fl, .fl, .rd, .fl, .fl, .rd, .fl, .rd, .fl, .fl, .fl, .fl, .rd, .fl, .fl, .rd, .fl, .rd, .fl, .fl, .fl, .fl] [0, 0, 2, 6, 15, 31, 0, 64, 192, 511, 0, 0, 2048, 6144, 15360, 31744, 0, 65536, 196608, 523264, 1048575, 2097151] [0, 1, 2, 3, 4, 5, 6, 7, 8, 9, 10, 11, 12, 13, 14, 15, 16, 17, 18, 19, 20, 21] mixed (by kernel_rfl) rfl ?_
        refine Ord.St.fl2 (T' := ?_) 0 [1, 2, 3, 4, 5, 6, 7, 8, 9, 10, 11, 12, 13, 14, 15, 16, 17, 18, 19, 20, 21] _ _ rfl (by kernel_rfl) rfl rfl rfl rfl (fun K w' hk => ?_) ?_
        rotate_left
        · go_step; exact hk
        refine Ord.St.fl2 (T' := ?_) 1 [2, 3, 4, 5, 6, 7, 8, 9, 10, 11, 12, 13, 14, 15, 16, 17, 18, 19, 20, 21] _ _ rfl (by kernel_rfl) rfl rfl rfl rfl (fun K w' hk => ?_) ?_
        rotate_left
        · go_step; exact hk
        refine Ord.St.rd2 (T' := ?_) 2 [3, 4, 5, 6, 7, 8, 9, 10, 11, 12, 13, 14, 15, 16, 17, 18, 19, 20, 21] _ _ rfl (by kernel_rfl) rfl rfl rfl rfl (fun K hk => ?_) ?_
        rotate_left
        · go_step; exact hk
        refine Ord.St.fl2 (T' := ?_) 3 [4, 5, 6, 7, 8, 9, 10, 11, 12, 13, 14, 15, 16, 17, 18, 19, 20, 21] _ _ rfl (by kernel_rfl) rfl rfl rfl rfl (fun K w' hk => ?_) ?_
        rotate_left
        · go_step; exact hk
        refine Ord.St.fl2 (T' := ?_) 4 [5, 6, 7, 8, 9, 10, 11, 12, 13, 14, 15, 16, 17, 18, 19, 20, 21] _ _ rfl (by kernel_rfl) rfl rfl rfl rfl (fun K w' hk => ?_) ?_
        rotate_left
        · go_step; exact hk
        refine Ord.St.rd2 (T' := ?_) 5 [6, 7, 8, 9, 10, 11, 12, 13, 14, 15, 16, 17, 18, 19, 20, 21] _ _ rfl (by kernel_rfl) rfl rfl rfl rfl (fun K hk => ?_) ?_
        rotate_left
        · go_step; exact hk
        refine Ord.St.fl2 (T' := ?_) 6 [7, 8, 9, 10, 11, 12, 13, 14, 15, 16, 17, 18, 19, 20, 21] _ _ rfl (by kernel_rfl) rfl rfl rfl rfl (fun K w' hk => ?_) ?_
        rotate_left
        · go_step; exact hk
        refine Ord.St.rd2 (T' := ?_) 7 [8, 9, 10, 11, 12, 13, 14, 15, 16, 17, 18, 19, 20, 21] _ _ rfl (by kernel_rfl) rfl rfl rfl rfl (fun K hk => ?_) ?_
        rotate_left
        · go_step; exact hk
        refine Ord.St.fl2 (T' := ?_) 8 [9, 10, 11, 12, 13, 14, 15, 16, 17, 18, 19, 20, 21] _ _ rfl (by kernel_rfl) rfl rfl rfl rfl (fun K w' hk => ?_) ?_
        rotate_left
        · go_step; exact hk
        refine Ord.St.fl2 (T' := ?_) 9 [10, 11, 12, 13, 14, 15, 16, 17, 18, 19, 20, 21] _ _ rfl (by kernel_rfl) rfl rfl rfl rfl (fun K w' hk => ?_) ?_
        rotate_left
        · go_step; exact hk
        refine Ord.St.fl2 (T' := ?_) 10 [11, 12, 13, 14, 15, 16, 17, 18, 19, 20, 21] _ _ rfl (by kernel_rfl) rfl rfl rfl rfl (fun K w' hk => ?_) ?_
        rotate_left
        · go_step; exact hk
        refine Ord.St.fl2 (T' := ?_) 11 [12, 13, 14, 15, 16, 17, 18, 19, 20, 21] _ _ rfl (by kernel_rfl) rfl rfl rfl rfl (fun K w' hk => ?_) ?_
        rotate_left
        · go_step; exact hk
        refine Ord.St.rd2 (T' := ?_) 12 [13, 14, 15, 16, 17, 18, 19, 20, 21] _ _ rfl (by kernel_rfl) rfl rfl rfl rfl (fun K hk => ?_) ?_
        rotate_left
        · go_step; exact hk
        refine Ord.St.fl2 (T' := ?_) 13 [14, 15, 16, 17, 18, 19, 20, 21] _ _ rfl (by kernel_rfl) rfl rfl rfl rfl (fun K w' hk => ?_) ?_
        rotate_left
        · go_step; exact hk
        refine Ord.St.fl2 (T' := ?_) 14 [15, 16, 17, 18, 19, 20, 21] _ _ rfl (by kernel_rfl) rfl rfl rfl rfl (fun K w' hk => ?_) ?_
        rotate_left
        · go_step; exact hk
        refine Ord.St.rd2 (T' := ?_) 15 [16, 17, 18, 19, 20, 21] _ _ rfl (by kernel_rfl) rfl rfl rfl rfl (fun K hk => ?_) ?_
        rotate_left
        · go_step; exact hk
        refine Ord.St.fl2 (T' := ?_) 16 [17, 18, 19, 20, 21] _ _ rfl (by kernel_rfl) rfl rfl rfl rfl (fun K w' hk => ?_) ?_
        rotate_left
        · go_step; exact hk
        refine Ord.St.rd2 (T' := ?_) 17 [18, 19, 20, 21] _ _ rfl (by kernel_rfl) rfl rfl rfl rfl (fun K hk => ?_) ?_
        rotate_left
        · go_step; exact hk
        refine Ord.St.fl2 (T' := ?_) 18 [19, 20, 21] _ _ rfl (by kernel_rfl) rfl rfl rfl rfl (fun K w' hk => ?_) ?_
        rotate_left
        · go_step; exact hk
        refine Ord.St.fl2 (T' := ?_) 19 [20, 21] _ _ rfl (by kernel_rfl) rfl rfl rfl rfl (fun K w' hk => ?_) ?_
        rotate_left
        · go_step; exact hk
        refine Ord.St.fl2 (T' := ?_) 20 [21] _ _ rfl (by kernel_rfl) rfl rfl rfl rfl (fun K w' hk => ?_) ?_
        rotate_left
        · go_step; exact hk
        refine Ord.St.fl2 (T' := ?_) 21 [] _ _ rfl (by kernel_rfl) rfl rfl rfl rfl (fun K w' hk => ?_) ?_
        rotate_left
        · go_step; exact hk
        refine Ord.St.nil ?_
        clear cp cq d0 d1 d2 ex1 ex2 em1 em2 el1 el2 er1 er2
        have hcA : Ch [] W1.drew (W1.drew.alloc (.cells #[.int .i64 v] 3)) := (Ch.refl _ _).alloc _
        have hrA := (HROW.out.ch (hc1'.out.drew) (by simp)).ch hcA (by simp)
        have hbA : blk (W1.drew.alloc (.cells #[.int .i64 v] 3)) W1.drew.heap.size [.int .i64 v] := blk.new' _ _ rfl
        have HRA := Lib.hid hrA; clear hrA
        have HBA := Lib.hid hbA; clear hbA
        have HCA := Lib.hid hcA; clear hcA
        go_wp2_with (at_builtin; go_loud (refine wpList_append_row slInts rfl _ _ rfl (v := .slice (some ⟨ob, 0, none⟩) n oc) (n := n) (xs := refsCells (V.take n)) rfl HRA.out (ad := ⟨W1.drew.heap.size, 0, none⟩) (m := 1) (c := 1) (news := [.int .i64 v]) rfl rfl (news_blk HBA.out) (by simp [Value.oneCell']) (by omega) (by omega) ?_; intro v' w4 hown4 hC4 hf4; have HO4 := Lib.hid hown4; clear hown4; have HC4 := Lib.hid hC4; clear hC4; have HF4 := Lib.hid hf4; clear hf4))
        go_roundw
        case rel =>
          obtain ⟨q1, q2⟩ := app_step (HC.out.trans (hc1'.out.drew) (by simp)) HCA.out HLO.out HC4.out HF4.out
          refine ⟨n + 1, by omega, by go_num, by rw [HIS2.out]; rfl, q1, ?_, q2⟩
          rw [HTS.out, show refsCells (V.take n ++ [v]) = refsCells (V.take n) ++ [.int .i64 v] by simp [refsCells]]
          exact HO4.out
        case measure => simp [intOf]; omega
      · by_cases h2 : x.k = 2
        · have q2 : ((x.k : Int) == 2) = true := by rw [h2]; rfl
          have q3 : ((x.k : Int) == 3) = false := by rw [h2]; rfl
          have hvn := HVNN.out
          rw [if_neg h3, if_pos h2] at hvn
          have his := HIS.out
          rw [if_pos h2] at his
          obtain ⟨h5, _⟩ := HIN.out n x hx h2
          obtain ⟨K, hK⟩ : ∃ K, (inputs (G.nodes.take n)).length = K := ⟨_, rfl⟩
          rw [hK] at hvn his h5 hins ⊢
          obtain ⟨iv, hiv⟩ : ∃ iv, I[K]? = some iv := ⟨_, List.getElem?_eq_getElem (by rw [HM.out]; omega)⟩
          rw [List.getD_eq_getElem?_getD, hiv] at hvn
          replace hvn : v = iv := hvn
          subst hvn
          obtain ⟨b1, o1, rfl, ci⟩ := ((HI0.out.ch HC.out (by simp)).ch hc1'.out (by simp)).cells K (.int .i64 v) (by unfold refsCells; rw [List.getElem?_map, hiv]; rfl)
          have HIS2 := Lib.hid his; clear his HIS
          have hKm : K < m := by omega
          have hK2 : K ≤ 65536 := by omega
          clear hiv HVNN hx h2 h3 hb1 hK hv HXX hwf h5 hlen
          have hcA : Ch [] W1 (W1.alloc (.cells #[.int .i64 v] 3)) := (Ch.refl _ _).alloc _
          have hrA := (HROW.out.ch hc1'.out (by simp)).ch hcA (by simp)
          have hbA : blk (W1.alloc (.cells #[.int .i64 v] 3)) W1.heap.size [.int .i64 v] := blk.new' _ _ rfl
          have HRA := Lib.hid hrA; clear hrA
          have HBA := Lib.hid hbA; clear hbA
          have HCA := Lib.hid hcA; clear hcA
          go_wp2_with (at_builtin; go_loud (refine wpList_append_row slInts rfl _ _ rfl (v := .slice oa n oc) (n := n) (xs := refsCells (V.take n)) rfl HRA.out (ad := ⟨W1.heap.size, 0, none⟩) (m := 1) (c := 1) (news := [.int .i64 v]) rfl rfl (news_blk HBA.out) (by simp [Value.oneCell']) (by omega) (by omega) ?_; intro v' w4 hown4 hC4 hf4; have HO4 := Lib.hid hown4; clear hown4; have HC4 := Lib.hid hC4; clear hC4; have HF4 := Lib.hid hf4; clear hf4))
          go_roundw
          case rel =>
            obtain ⟨q1, q2⟩ := app_step (HC.out.trans hc1'.out (by simp)) HCA.out HLO.out HC4.out HF4.out
            refine ⟨n + 1, by omega, by go_num, by rw [HIS2.out]; go_num, q1, ?_, q2⟩
            rw [HTS.out, show refsCells (V.take n ++ [v]) = refsCells (V.take n) ++ [.int .i64 v] by simp [refsCells]]
            exact HO4.out
          case measure => simp [intOf]; omega
        · have q2 : ((x.k : Int) == 2) = false := by rw [beq_eq_false_iff_ne]; omega
          have q3 : ((x.k : Int) == 3) = false := by rw [beq_eq_false_iff_ne]; omega
          have hvn := HVNN.out
          rw [if_neg h3, if_neg h2] at hvn
          replace hvn : v = 0 := hvn
          subst hvn
          have his := HIS.out
          rw [if_neg h2, Nat.add_zero] at his
          have HIS2 := Lib.hid his; clear his HIS
          clear HVNN hx h2 h3 hb1
          have hcA : Ch [] W1 (W1.alloc (.cells #[.int .i64 0] 3)) := (Ch.refl _ _).alloc _
          have hrA := (HROW.out.ch hc1'.out (by simp)).ch hcA (by simp)
          have hbA : blk (W1.alloc (.cells #[.int .i64 0] 3)) W1.heap.size [.int .i64 0] := blk.new' _ _ rfl
          have HRA := Lib.hid hrA; clear hrA
          have HBA := Lib.hid hbA; clear hbA
          have HCA := Lib.hid hcA; clear hcA
          go_wp2_with (at_builtin; go_loud (refine wpList_append_row slInts rfl _ _ rfl (v := .slice oa n oc) (n := n) (xs := refsCells (V.take n)) rfl HRA.out (ad := ⟨W1.heap.size, 0, none⟩) (m := 1) (c := 1) (news := [.int .i64 0]) rfl rfl (news_blk HBA.out) (by simp [Value.oneCell']) (by omega) (by omega) ?_; intro v' w4 hown4 hC4 hf4; have HO4 := Lib.hid hown4; clear hown4; have HC4 := Lib.hid hC4; clear hC4; have HF4 := Lib.hid hf4; clear hf4))
          go_roundw
          case rel =>
            obtain ⟨q1, q2⟩ := app_step (HC.out.trans hc1'.out (by simp)) HCA.out HLO.out HC4.out HF4.out
            refine ⟨n + 1, by omega, by go_num, by rw [HIS2.out]; rfl, q1, ?_, q2⟩
            rw [HTS.out, show refsCells (V.take n ++ [0]) = refsCells (V.take n) ++ [.int .i64 0] by simp [refsCells]]
            exact HO4.out
          case measure => simp [intOf]; omega
    · have hnl : n = G.nodes.length := by omega
      have hrow' := hrow
      rw [hnl, List.take_of_length_le (by rw [HVL.out]; omega)] at hrow'
      have HROW := Lib.hid hrow'; clear hrow' hrow
      have HLO := Lib.hid hlo; clear hlo
      have HC := Lib.hid hc; clear hc
      go_wp2_with fail
      go_ret
      refine ⟨_, rfl, ?_, fun q hq => Nat.le_trans HC0.out.size (HLO.out q hq), HC0.out.trans HC.out (by simp)⟩
      have := HROW.out
      rwa [← hnl] at this ⊢
end
end Go.Proofs.Ytkedpifopclipaa
namespace Go.Aig
theorem bit_of {v : Nat} (h : v ≤ 1) : v = (v.testBit 0).toNat := by
  rcases (by omega : v = 0 ∨ v = 1) with rfl | rfl <;> rfl
/-- what a reference is, 0 or 1 -/
theorem vals_bv {I : List Nat} (hI : ∀ v ∈ I, v ≤ 1) (ns : List Nd) (r : Nat) : wref 1 (Go.Proofs.Ytkedpifopclipaa.valsN I ns) r = (bv (fun i => (I.getD i 0).testBit 0) ns r).toNat := by
  have h := wv_bv (N := 1) (k := 0) (by omega) I ns r
  have h2 : wref 1 (Go.Proofs.Ytkedpifopclipaa.valsN I ns) r ≤ 1 := by
    have : wref 1 (Go.Proofs.Ytkedpifopclipaa.valsN I ns) r < 2 := wref_lt (N := 1) (vs := Go.Proofs.Ytkedpifopclipaa.valsN I ns) (fun v hv => by have := Go.Proofs.Ytkedpifopclipaa.valsN_le hI ns v hv; omega) r
    omega
  rw [bit_of h2]
  congr 1
end Go.Aig
namespace Go.Proofs.Ytkedpifopclipaa
open Go.RowKit Go.Mem Go.Aig
section
variable {w : World}
end
end Go.Proofs.Ytkedpifopclipaa
namespace Go.Aig
/-- the numbers for which something is true -/
def trueL (n : Nat) (p : Nat → Bool) : List Nat := (List.range (2 ^ n)).filter p
end Go.Aig
namespace Go.Proofs.Ytkedpifopclipaa
open Go.RowKit Go.Mem Go.Aig
section
variable {w : World}
end
end Go.Proofs.Ytkedpifopclipaa
namespace Go.Aig
theorem inputs_even {ns : List Nd} {i z : Nat} (h : (inputs ns)[i]? = some z) : z % 2 = 0 ∧ z < 2 * ns.length := by
  have := inputsFrom_ge ns 0 z (List.mem_of_getElem? h)
  exact ⟨this.2.1, by omega⟩
end Go.Aig
namespace Go.Proofs.Ytkedpifopclipaa
open Go.RowKit Go.Mem Go.Aig
section
variable {w : World}
end
end Go.Proofs.Ytkedpifopclipaa
namespace Go.Proofs.Ytkedpifopclipaa
open Go.RowKit Go.Mem Go.Aig
/-- a graph, and the same one of the reference, apart from each other, made since a world -/
structure Both (w0 w : World) (g rb cap : Nat) (G : Gra) (F : List Nat) : Prop where
  gin : GIn w g G F
  rg : RG w rb cap G
  ap : rb ∉ F
  own : ∀ k ∈ F, w0.heap.size ≤ k
  rlo : w0.heap.size ≤ rb
  ch : Ch [] w0 w
theorem Both.same {w0 w w' : World} {g rb cap : Nat} {G : Gra} {F : List Nat} (h : Both w0 w g rb cap G F) (hc : Ch [] w w') : Both w0 w' g rb cap G F :=
  ⟨h.gin.same hc (by simp), h.rg.ch hc (by simp), h.ap, h.own, h.rlo, h.ch.trans hc (by simp)⟩
/-- both graphs are changed in the same way -/
theorem Both.next {w0 w w1 w2 : World} {g rb cap : Nat} {G G' : Gra} {F F' : List Nat} (h : Both w0 w g rb cap G F) (hg : GIn w1 g G' F') (hc1 : Ch F w w1) (hF : ∀ k ∈ F', k ∈ F ∨ w.heap.size ≤ k) {rb' cap' : Nat} (hr : RG w2 rb' cap' G') (hc2 : Ch [] w1 w2) (hb : rb' = rb ∨ w1.heap.size ≤ rb') : Both w0 w2 g rb' cap' G' F' := by
  have hrl := h.rg.lt
  have hz := hc1.size
  refine ⟨hg.same hc2 (by simp), hr, fun hin => ?_, fun k hk => (hF k hk).elim (h.own k) (fun e => Nat.le_trans h.ch.size e), ?_, (h.ch.trans hc1 (fun k hk => .inr (h.own k hk))).trans hc2 (by simp)⟩
  · have hlt := hg.lt _ hin
    rcases hb with rfl | e
    · rcases hF _ hin with e | e
      · exact h.ap e
      · omega
    · omega
  · rcases hb with rfl | e
    · exact h.rlo
    · have := h.ch.size; omega
theorem Both.set {w0 w w' : World} {g rb cap b : Nat} {G : Gra} {F : List Nat} (h : Both w0 w g rb cap G F) (hc : Ch [b] w w') (hb : b ∉ F) (hr : rb ≠ b) (hlo : w0.heap.size ≤ b) : Both w0 w' g rb cap G F :=
  ⟨h.gin.same hc (fun k hk hk2 => hb (by rw [List.mem_singleton.1 hk2] at hk; exact hk)), h.rg.ch hc (by simpa using hr), h.ap, h.own, h.rlo, h.ch.trans hc (fun k hk => .inr (by rw [List.mem_singleton.1 hk]; exact hlo))⟩
section
end
end Go.Proofs.Ytkedpifopclipaa
namespace Go.Proofs.Ytkedpifopclipaa
open Go.RowKit Go.Mem Go.Aig
/-- a graph of inputs alone -/
def inK : Nat → Gra
  | 0 => newG 200
  | k + 1 => (put (inK k) ⟨2, 0, 0, 0⟩).1
def AllI (l : List N21) (k : Nat) (G : Gra) : Prop := (∀ x ∈ l.take k, x.inp = true) → G = inK k
section
variable {w : World}
end
end Go.Proofs.Ytkedpifopclipaa
namespace Go.Proofs.Ytkedpifopclipaa
open Go.RowKit Go.Mem Go.Aig
section
variable {w : World}
set_option maxRecDepth 100000 in
set_option maxHeartbeats 8000000 in
theorem build27_full {a : Option Addr} {n ncap : Nat} {l : List N21} (hS : NodeS w a n ncap l) (hn : n ≤ 61) :
    Calls Try.prog 72 #[.slice a n ncap] w fun e w' => ∃ g F rb cap G, e = .returned (.tuple #[.pointer (some ⟨g, 0, none⟩), .agg #[.int .i64 G.most, .slice (some ⟨rb, 0, none⟩) G.nodes.length cap], .bool true]) ∧ Both w w' g rb cap G F ∧ G.most = 200 ∧ G.nodes.length ≤ n + 1 ∧ (inputs G.nodes).length = cntI l ∧ AllI l n G := by
  have hlen := hS.len
  have hbd := hS.bd
  have hN := fun W => New_yes (w := W) 200 (by decide) (by decide)
  have hR := fun W => rNew_yes W 200 (by decide) (by decide)
  have hcn : ∀ k x, l[k]? = some x → cntI (l.take (k + 1)) = cntI (l.take k) + x.inp.toNat := fun k x hx => by rw [List.take_add_one, hx]; exact cntI_snoc _ _
  have hfull : cntI (l.take n) = cntI l := by rw [List.take_of_length_le (by omega)]
  have HN := Lib.hid hN; clear hN
  have HR := Lib.hid hR; clear hR
  have HS := Lib.hid hS; clear hS
  have HLEN := Lib.hid hlen; clear hlen
  have HBD := Lib.hid hbd; clear hbd
  have HCN := Lib.hid hcn; clear hcn
  have HFULL := Lib.hid hfull; clear hfull
  go_enter Try.func72, Try.ntmps72
  go_wp2_with fail
  refine calls_named fun W hW => ?_
  have b3 : blk W w.heap.size [.int .i64 0, .slice none 0 0] := by rw [hW]; exact blk.new' _ _ (by simp)
  have hc : Ch [] w W := by rw [hW]; exact (Ch.refl _ _).alloc _
  have hz : W.heap.size = w.heap.size + 1 := by rw [hW]; simp
  clear hW
  refine (HN.out W).mono ?_
  rintro e w1 ⟨g, F1, rfl, hg1, hF1, hc1⟩
  have b3 := b3.ch hc1 (by simp)
  have hc := hc.trans hc1 (by simp)
  have hF2 : ∀ k ∈ F1, w.heap.size + 1 ≤ k ∧ k < w1.heap.size := fun k hk => ⟨by have := hF1 k hk; omega, hg1.lt k hk⟩
  have HF2 := Lib.hid hF2; clear hF2 hF1 hc1
  have HC := Lib.hid hc; clear hc
  have HG1 := Lib.hid hg1; clear hg1
  have B3 := Lib.hid b3; clear b3
  go_wp2_with fail
  refine (HR.out _).mono ?_
  rintro e w2 ⟨rb, cap, rfl, hrg, hc2, hlo⟩
  have hz2 := hc2.size
  have hz3 := B3.out.lt
  have hbt : Both w w2 g rb cap (newG 200) F1 := ⟨HG1.out.same hc2 (by simp), hrg, fun hin => by have := HF2.out _ hin; omega, fun k hk => by have := HF2.out k hk; omega, by omega, HC.out.trans hc2 (by simp)⟩
  have b3 := B3.out.ch hc2 (by simp)
  have hG0 : (newG 200).most = 200 ∧ (newG 200).nodes.length = 1 ∧ (inputs (newG 200).nodes).length = 0 ∧ newG 200 = inK 0 := ⟨rfl, rfl, rfl, rfl⟩
  generalize newG 200 = G0 at *
  have HBT := Lib.hid hbt; clear hbt hrg hc2 HC HG1
  clear B3
  have B3 := Lib.hid b3; clear b3
  go_upto_region 3 with fail
  refine wp_alw ?_
  intro W3 hW3
  have hb6 : blk W3 w2.heap.size [.int .i64 G0.most, .slice (some ⟨rb, 0, none⟩) G0.nodes.length cap] := by
    rw [hG0.1, hG0.2.1]
    exact alw_blk (xs := [.int .i64 200, .slice (some ⟨rb, 0, none⟩) 1 cap]) hW3
  have hc3 := alw_ch hW3
  have hbt := HBT.out.same hc3
  have b3 := B3.out.ch hc3 (by simp)
  have hrb6 : rb ≠ w2.heap.size := rg_ne HBT.out.rg
  have hlo2 : w.heap.size + 1 ≤ rb := by omega
  have h6F : w2.heap.size ∉ F1 := fun hin => by have := HF2.out _ hin; omega
  have h3F : w.heap.size ∉ F1 := fun hin => by have := HF2.out _ hin; omega
  have h6lo : w.heap.size + 1 ≤ w2.heap.size := by omega
  clear hW3 hc3 HBT B3 hlo
  generalize w2.heap.size = b6 at *
  have HBT := Lib.hid hbt; clear hbt
  have B6 := Lib.hid hb6; clear hb6
  have B3 := Lib.hid b3; clear b3
  have HG0 := Lib.hid hG0; clear hG0
  go_wp2_with fail
  go_loopw [31] (fun i wr => ∃ (k : Nat) (G : Gra) (F : List Nat) (rb cap : Nat), k ≤ n ∧ i = .int .i64 k ∧ Both w wr g rb cap G F ∧ b6 ∉ F ∧ w.heap.size ∉ F ∧ rb ≠ b6 ∧ w.heap.size + 1 ≤ rb ∧ blk wr b6 [.int .i64 G.most, .slice (some ⟨rb, 0, none⟩) G.nodes.length cap] ∧ blk wr w.heap.size [.int .i64 0, .slice none 0 0] ∧ G.most = 200 ∧ G.nodes.length ≤ k + 1 ∧ (inputs G.nodes).length = cntI (l.take k) ∧ AllI l k G) (fun i _ => n - (intOf i).toNat)
  case atStart => exact ⟨0, G0, F1, rb, cap, by omega, rfl, HBT.out, h6F, h3F, hrb6, hlo2, B6.out, B3.out, HG0.out.1, by rw [HG0.out.2.1]; omega, HG0.out.2.2.1, fun _ => HG0.out.2.2.2⟩
  case round =>
    clear HBT B6 B3 h6F h3F hrb6 hlo2 HN HR HF2 HG0
    obtain ⟨k, G, F, rb, cap, hk, rfl, hbt, h6F, h3F, hrb6, hlo2, b6c, b3, hm, hnl, hil⟩ := hrel
    have hwr6 := b6c.lt
    have HM := Lib.hid hm; clear hm
    have HIL := Lib.hid hil; clear hil
    by_cases hlt : k < n
    · obtain ⟨x, hx⟩ : ∃ x, l[k]? = some x := ⟨_, List.getElem?_eq_getElem (by rw [HLEN.out]; omega)⟩
      obtain ⟨ab, ao, rfl, d0, d1, d2⟩ := (HS.out.ch hbt.ch).cells k x hx
      have hxb := HBD.out x (List.mem_of_getElem? hx)
      have hcn := HCN.out k x hx
      have hmem : x ∈ l.take (k + 1) := by rw [List.take_add_one, hx]; simp
      have HMEM := Lib.hid hmem; clear hmem
      have HCNK := Lib.hid hcn; clear hcn hx
      obtain ⟨inp, xl, xr⟩ := x
      simp only at d0 d1 d2 hxb HCNK HMEM
      have HBT := Lib.hid hbt; clear hbt
      have B6 := Lib.hid b6c; clear b6c
      have B3 := Lib.hid b3; clear b3
      go_upto_region 8 with fail
      refine wp_named fun W1 hW1 => ?_
      have hcA : Ch [] wr W1 := by rw [hW1]; exact (Ch.refl _ _).alloc _
      have hb1 : blk W1 wr.heap.size [.bool inp, .int .i64 xl, .int .i64 xr] := by rw [hW1]; exact blk.new' _ _ rfl
      have e0 := hb1.cell (i := 0) rfl
      have hbt := HBT.out.same hcA
      have b6c := B6.out.ch hcA (by simp)
      have b3 := B3.out.ch hcA (by simp)
      have hzA := hcA.size
      clear hW1 d0 d1 d2 HBT B6 B3 hcA
      have HBT := Lib.hid hbt; clear hbt
      have B6 := Lib.hid b6c
      have B3 := Lib.hid b3; clear b3
      have y0 := b6c.cell (i := 0) rfl
      have y1 := b6c.cell (i := 1) rfl
      have hwr6 := b6c.lt
      have hpos := HBT.out.gin.ok.wf.pos
      clear b6c
      cases inp
      · obtain ⟨N, hN⟩ : ∃ N, G.nodes.length = N := ⟨_, rfl⟩
        rw [hN] at hnl hpos
        obtain ⟨p, hp, hpl⟩ : ∃ p : Nat, xl % ((2 * N : Nat) : Int) = p ∧ p < 2 * N := ⟨(xl % ((2 * N : Nat) : Int)).toNat, by
          have := Int.emod_nonneg xl (show ((2 * N : Nat) : Int) ≠ 0 by omega)
          omega, by
          have := Int.emod_nonneg xl (show ((2 * N : Nat) : Int) ≠ 0 by omega)
          have := Int.emod_lt_of_pos xl (show (0 : Int) < ((2 * N : Nat) : Int) by omega)
          omega⟩
        obtain ⟨q, hq, hql⟩ : ∃ q : Nat, xr % ((2 * N : Nat) : Int) = q ∧ q < 2 * N := ⟨(xr % ((2 * N : Nat) : Int)).toNat, by
          have := Int.emod_nonneg xr (show ((2 * N : Nat) : Int) ≠ 0 by omega)
          omega, by
          have := Int.emod_nonneg xr (show ((2 * N : Nat) : Int) ≠ 0 by omega)
          have := Int.emod_lt_of_pos xr (show (0 : Int) < ((2 * N : Nat) : Int) by omega)
          omega⟩
        have HI1 := fun W => index27_is W xl hxb.1 (2 * N) (by omega) (by omega)
        have HI2 := fun W => index27_is W xr hxb.2 (2 * N) (by omega) (by omega)
        simp only [hp] at HI1
        simp only [hq] at HI2
        rw [show ((2 * N : Nat) : Int) = 2 * (N : Int) by omega] at HI1 HI2
        have hroom := and_room21 (G := G) p q (by rw [hN, HM.out]; omega)
        have hand : doAnd G p q = Aig.and G p q := doAnd_r (by omega) (by omega)
        have HAN := fun (W : World) (hW : Ch [] W1 W) => And_g (HBT.out.same hW).gin p q (by omega) (by omega)
        simp only [hand, hroom.1] at HAN
        have HRA := fun (W : World) (F9 : List Nat) (hW : Ch F9 W1 W) (hF : rb ∉ F9) => rAnd_is (HBT.out.rg.ch hW hF) (a := p) (b := q) (by omega) (by omega)
        have HROOM := Lib.hid hroom; clear hroom
        have HI1 := Lib.hid HI1
        have HI2 := Lib.hid HI2
        have HAN := Lib.hid HAN
        have HRA := Lib.hid HRA
        have HBK := Lib.hid hb1; clear hb1
        have HNN := Lib.hid hN
        clear hand hp hq
        rw [hN] at y1
        clear hN
        have hp2 : p ≤ 1000 := by omega
        have hq2 : q ≤ 1000 := by omega
        go_wp2_with fail
        refine Ord.St.door (fun w' => w'.cell? ⟨wr.heap.size, 1, none⟩ = some (.int .i64 xl) ∧ w'.cell? ⟨wr.heap.size, 2, none⟩ = some (.int .i64 xr)) [.fl, .ho, .fl, .ef, .fl, .ho, .fl, .ef, .fl, .fl] [0, 1, 0, 7, 0, 16, 0, 127, 255, 511] [0, 1, 2, 3, 4, 5, 6, 7, 8, 9] mixed (by kernel_rfl) rfl ?_
        obtain ⟨Wc, hWc⟩ : ∃ Wc, Wc = W1.drew := ⟨_, rfl⟩
        rw [← hWc]
        have hcur : Ch [] W1 Wc := by rw [hWc]; exact (Ch.refl _ _).drew
        clear hWc
        have hbk := HBK.out.ch hcur (by simp)
        have HCUR := Lib.hid hcur
        refine Ord.St.fl2 (T' := ?_) 0 [1, 2, 3, 4, 5, 6, 7, 8, 9] _ _ rfl (by kernel_rfl) rfl rfl rfl rfl (fun K w' hk => ?_) ?_
        rotate_left
        · go_step; exact hk
        refine Ord.St.ho2 (T' := ?_) 1 [2, 3, 4, 5, 6, 7, 8, 9] _ _ rfl (by kernel_rfl) rfl rfl rfl rfl ?_ (fun K w' hw' hk => ?_) ?_
        rotate_left
        · exact ⟨hbk.cell rfl, hbk.cell rfl⟩
        · obtain ⟨q1, q2⟩ := hw'; go_step; exact hk
        refine Ord.St.fl2 (T' := ?_) 2 [3, 4, 5, 6, 7, 8, 9] _ _ rfl (by kernel_rfl) rfl rfl rfl rfl (fun K w' hk => ?_) ?_
        rotate_left
        · go_step; exact hk
        refine Ord.St.fl2 (T' := ?_) 4 [3, 5, 6, 7, 8, 9] _ _ rfl (by kernel_rfl) rfl rfl rfl rfl (fun K w' hk => ?_) ?_
        rotate_left
        · go_step; exact hk
        refine Ord.St.ho2 (T' := ?_) 5 [3, 6, 7, 8, 9] _ _ rfl (by kernel_rfl) rfl rfl rfl rfl ?_ (fun K w' hw' hk => ?_) ?_
        rotate_left
        · exact ⟨hbk.cell rfl, hbk.cell rfl⟩
        · obtain ⟨q1, q2⟩ := hw'; go_step; exact hk
        refine Ord.St.fl2 (T' := ?_) 6 [3, 7, 8, 9] _ _ rfl (by kernel_rfl) rfl rfl rfl rfl (fun K w' hk => ?_) ?_
        rotate_left
        · go_step; exact hk
        refine Ord.St.efC 3 [7, 8, 9] _ rfl (by kernel_rfl) (fun K hK => ?_)
        go_wp2_with fail
        refine (HI1.out _).mono ?_
        rintro e w' ⟨rfl, rfl⟩
        go_wp2_with fail
        refine ⟨rfl, hK _ _ ?_ ?_⟩
        · exact ⟨hbk.cell rfl, hbk.cell rfl⟩
        clear hK K
        refine Ord.St.ef 7 [8, 9] _ rfl (by kernel_rfl) (fun K hK => ?_)
        go_wp2_with fail
        refine (HI2.out _).mono ?_
        rintro e w' ⟨rfl, rfl⟩
        go_wp2_with fail
        refine ⟨rfl, hK _ _ ?_⟩; clear hK K
        refine Ord.St.fl2 (T' := ?_) 8 [9] _ _ rfl (by kernel_rfl) rfl rfl rfl rfl (fun K w' hk => ?_) ?_
        rotate_left
        · go_step; exact hk
        refine Ord.St.fl2 (T' := ?_) 9 [] _ _ rfl (by kernel_rfl) rfl rfl rfl rfl (fun K w' hk => ?_) ?_
        rotate_left
        · go_step; exact hk
        refine Ord.St.nil ?_
        have han := HAN.out Wc HCUR.out
        have HAN1 := Lib.hid han; clear han HAN
        have hbtc := HBT.out.same HCUR.out
        have B6c := Lib.hid (B6.out.ch HCUR.out (by simp))
        have B3c := Lib.hid (B3.out.ch HCUR.out (by simp))
        have hzc := HCUR.out.size
        have HBTc := Lib.hid hbtc; clear hbtc hbk
        go_wp2_with fail
        refine HAN1.out.mono ?_
        rintro e w5 ⟨rfl, F', hg5, hc5, hF5, _⟩
        have hB5 := HRA.out w5 F (HCUR.out.mono (by simp) |>.trans hc5 (fun k hk => .inl hk)) HBT.out.ap
        have b6c := B6c.out.ch hc5 h6F
        have b3 := B3c.out.ch hc5 h3F
        have y0 := b6c.cell (i := 0) rfl
        have y1 := b6c.cell (i := 1) rfl
        have h6F' : b6 ∉ F' := fun hin => by rcases hF5 _ hin with e | e; exact h6F e; have := B6c.out.lt; omega
        have h3F' : w.heap.size ∉ F' := fun hin => by rcases hF5 _ hin with e | e; exact h3F e; have := B3c.out.lt; omega
        have hz5 := b6c.lt
        have HB5 := Lib.hid hB5; clear hB5 HRA
        have HG5 := Lib.hid hg5; clear hg5
        have HC5 := Lib.hid hc5; clear hc5
        have HF5 := Lib.hid hF5; clear hF5
        have BB6 := Lib.hid b6c; clear b6c
        have BB3 := Lib.hid b3; clear b3
        clear B6 B3 B6c B3c HAN1
        go_wp2_with fail
        refine HB5.out.mono ?_
        rintro e w6 ⟨rb', cap', rfl, hrg6, hc6, hfr⟩
        have hbt6 := HBTc.out.next (G' := (Aig.and G p q).1) HG5.out HC5.out HF5.out hrg6 hc6 hfr
        clear HB5 HG5 HC5 HF5 HBTc HBT
        obtain ⟨G1, hG1⟩ : ∃ G1, (Aig.and G p q).1 = G1 := ⟨_, rfl⟩
        have hrm := HROOM.out
        rw [hG1] at hbt6 hrg6 hrm ⊢
        have HRM := Lib.hid hrm; clear hrm HROOM hG1
        have hrb' : rb' ≠ b6 := by rcases hfr with e | e <;> omega
        have hlo' : w.heap.size + 1 ≤ rb' := by rcases hfr with e | e <;> omega
        have b6c := BB6.out.ch hc6 (by simp)
        have b3 := BB3.out.ch hc6 (by simp)
        have f0 := b6c.frozen (i := 0)
        have f1 := b6c.frozen (i := 1)
        have y0 := b6c.cell (i := 0) rfl
        have y1 := b6c.cell (i := 1) rfl
        have HBT6 := Lib.hid hbt6; clear hbt6
        have BC6 := Lib.hid b6c; clear b6c
        have BC3 := Lib.hid b3; clear b3
        clear BB6 BB3 hrg6 hc6 hfr
        go_upto_region 15 with fail
        refine wp_named fun W7 hW7 => ?_
        have hcs : Ch [b6] w6 W7 := set2_ch (u := .int .i64 G1.most) (v := .slice (some ⟨rb', 0, none⟩) G1.nodes.length cap') hW7
        have hbt7 := HBT6.out.set hcs h6F' hrb' (by omega)
        have b67 : blk W7 b6 [.int .i64 G1.most, .slice (some ⟨rb', 0, none⟩) G1.nodes.length cap'] := by rw [hW7]; exact (BC6.out.set (i := 0) _).set (i := 1) _
        have b37 := BC3.out.ch hcs (by simp; omega)
        clear hW7 hcs y0 y1 f0 f1 BC6 BC3 HBT6
        have y1 := b67.cell (i := 1) rfl
        have HBT7 := Lib.hid hbt7; clear hbt7
        have B67 := Lib.hid b67; clear b67
        have B37 := Lib.hid b37; clear b37
        have hLn := fun (W : World) (hW : Ch [] W7 W) => Len_g (HBT7.out.same hW).gin
        have HLN := Lib.hid hLn; clear hLn
        obtain ⟨N1, hN1⟩ : ∃ N1, G1.nodes.length = N1 := ⟨_, rfl⟩
        rw [hN1] at HLN y1
        have e9 : ((N1 : Int) != (N1 : Int)) = false := by simp
        have HN1 := Lib.hid hN1; clear hN1
        refine Ord.St.door (fun _ => True) [.fl, .fl, .fl, .fl, .rd, .fl, .rd, .rd, .fl, .fl] [0, 1, 3, 7, 15, 7, 39, 103, 255, 511] [0, 1, 2, 3, 4, 5, 6, 7, 8, 9] mixed (by kernel_rfl) rfl ?_
        refine Ord.St.fl2 (T' := ?_) 0 [1, 2, 3, 4, 5, 6, 7, 8, 9] _ _ rfl (by kernel_rfl) rfl rfl rfl rfl (fun K w' hk => ?_) ?_
        rotate_left
        · go_step; exact hk
        refine Ord.St.fl2 (T' := ?_) 1 [2, 3, 4, 5, 6, 7, 8, 9] _ _ rfl (by kernel_rfl) rfl rfl rfl rfl (fun K w' hk => ?_) ?_
        rotate_left
        · go_step; exact hk
        refine Ord.St.fl2 (T' := ?_) 2 [3, 4, 5, 6, 7, 8, 9] _ _ rfl (by kernel_rfl) rfl rfl rfl rfl (fun K w' hk => ?_) ?_
        rotate_left
        · go_step; exact hk
        first | (refine Ord.St.fl2 (T' := ?_) 3 [4, 5, 6, 7, 8, 9] _ _ rfl (by kernel_rfl) ?_ rfl rfl rfl (fun K w' hk => ?_) ?_; rotate_left; (first | rfl | (simp [Region.wanted, yielded, *]; done)); focus (go_step; exact hk)) | (refine Ord.St.skip 3 [4, 5, 6, 7, 8, 9] _ rfl (by kernel_rfl) ?_ (fun K hK => ?_); (first | rfl | (simp [Region.wanted, yielded, *]; done)); go_simp; refine hK _ ?_; clear hK K)
        first | (refine Ord.St.rd2 (T' := ?_) 4 [5, 6, 7, 8, 9] _ _ rfl (by kernel_rfl) ?_ rfl rfl rfl (fun K hk => ?_) ?_; rotate_left; (first | rfl | (simp [Region.wanted, yielded, *]; done)); focus (go_step; refine (HLN.out _ (Ch.refl _ _).drew).mono ?_; rintro e w' ⟨rfl, rfl⟩; exact hk)) | (refine Ord.St.skipr 4 [5, 6, 7, 8, 9] _ rfl (by kernel_rfl) ?_ (fun K hK => ?_); (first | rfl | (simp [Region.wanted, yielded, *]; done)); go_simp; refine hK _ ?_; clear hK K)
        first | (refine Ord.St.fl2 (T' := ?_) 5 [6, 7, 8, 9] _ _ rfl (by kernel_rfl) ?_ rfl rfl rfl (fun K w' hk => ?_) ?_; rotate_left; (first | rfl | (simp [Region.wanted, yielded, *]; done)); focus (go_step; exact hk)) | (refine Ord.St.skip 5 [6, 7, 8, 9] _ rfl (by kernel_rfl) ?_ (fun K hK => ?_); (first | rfl | (simp [Region.wanted, yielded, *]; done)); go_simp; refine hK _ ?_; clear hK K)
        first | (refine Ord.St.rd2 (T' := ?_) 6 [7, 8, 9] _ _ rfl (by kernel_rfl) ?_ rfl rfl rfl (fun K hk => ?_) ?_; rotate_left; (first | rfl | (simp [Region.wanted, yielded, *]; done)); focus (go_step; exact hk)) | (refine Ord.St.skipr 6 [7, 8, 9] _ rfl (by kernel_rfl) ?_ (fun K hK => ?_); (first | rfl | (simp [Region.wanted, yielded, *]; done)); go_simp; refine hK _ ?_; clear hK K)
        first | (refine Ord.St.rd2 (T' := ?_) 7 [8, 9] _ _ rfl (by kernel_rfl) ?_ rfl rfl rfl (fun K hk => ?_) ?_; rotate_left; (first | rfl | (simp [Region.wanted, yielded, *]; done)); focus (go_step; exact hk)) | (refine Ord.St.skipr 7 [8, 9] _ rfl (by kernel_rfl) ?_ (fun K hK => ?_); (first | rfl | (simp [Region.wanted, yielded, *]; done)); go_simp; refine hK _ ?_; clear hK K)
        first | (refine Ord.St.fl2 (T' := ?_) 8 [9] _ _ rfl (by kernel_rfl) ?_ rfl rfl rfl (fun K w' hk => ?_) ?_; rotate_left; (first | rfl | (simp [Region.wanted, yielded, *]; done)); focus (go_step; exact hk)) | (refine Ord.St.skip 8 [9] _ rfl (by kernel_rfl) ?_ (fun K hK => ?_); (first | rfl | (simp [Region.wanted, yielded, *]; done)); go_simp; refine hK _ ?_; clear hK K)
        refine Ord.St.fl2 (T' := ?_) 9 [] _ _ rfl (by kernel_rfl) rfl rfl rfl rfl (fun K w' hk => ?_) ?_
        rotate_left
        · go_step; exact hk
        refine Ord.St.nil ?_
        go_wp2_with fail
        go_roundw
        case rel => exact ⟨k + 1, G1, F', rb', cap', by omega, by go_num, HBT7.out.same (Ch.refl _ _).drew, h6F', h3F', hrb', hlo', B67.out.ch (Ch.refl [] _).drew (by simp), B37.out.ch (Ch.refl [] _).drew (by simp), by rw [HRM.out.2.1]; exact HM.out, by have := HRM.out.2.2.1; have := HNN.out; omega, by rw [HRM.out.2.2.2, HCNK.out, HIL.out.1]; rfl, fun hh => by have := hh _ HMEM.out; simp at this⟩
        case measure => simp [intOf]; omega
      · have hroom := input_room (G := G) (by rw [HM.out]; omega)
        have hI := Input_g HBT.out.gin
        rw [hroom.1] at hI
        have HI := Lib.hid hI; clear hI
        have HROOM := Lib.hid hroom; clear hroom hb1
        go_wp2_with fail
        refine HI.out.mono ?_
        rintro e w5 ⟨rfl, F', hg5, hc5, hF5, _⟩
        have hB5 := rPut_is (HBT.out.rg.ch hc5 HBT.out.ap) ⟨2, 0, 0, 0⟩ (fun hm => by
          have hok := hg5.ok
          unfold doInput put at hok
          rw [if_neg (by omega)] at hok
          exact hok)
        have b6c := B6.out.ch hc5 h6F
        have b3 := B3.out.ch hc5 h3F
        have y0 := b6c.cell (i := 0) rfl
        have y1 := b6c.cell (i := 1) rfl
        have h6F' : b6 ∉ F' := fun hin => by rcases hF5 _ hin with e | e; exact h6F e; have := B6.out.lt; omega
        have h3F' : w.heap.size ∉ F' := fun hin => by rcases hF5 _ hin with e | e; exact h3F e; have := B3.out.lt; omega
        have hz5 := b6c.lt
        have HB5 := Lib.hid hB5; clear hB5
        have HG5 := Lib.hid hg5; clear hg5
        have HC5 := Lib.hid hc5; clear hc5
        have HF5 := Lib.hid hF5; clear hF5
        have BB6 := Lib.hid b6c; clear b6c
        have BB3 := Lib.hid b3; clear b3
        clear B6 B3 HI
        go_wp2_with fail
        refine HB5.out.mono ?_
        rintro e w6 ⟨rb', cap', rfl, hrg6, hc6, hfr⟩
        have hbt6 := HBT.out.next (G' := (put G ⟨2, 0, 0, 0⟩).1) HG5.out HC5.out HF5.out hrg6 hc6 hfr
        clear HB5 HG5 HC5 HF5 HBT
        obtain ⟨G1, hG1⟩ : ∃ G1, (put G ⟨2, 0, 0, 0⟩).1 = G1 := ⟨_, rfl⟩
        have hrm := HROOM.out
        change (put G ⟨2, 0, 0, 0⟩).2.2 = 0 ∧ (put G ⟨2, 0, 0, 0⟩).1.most = G.most ∧ (put G ⟨2, 0, 0, 0⟩).1.nodes.length = G.nodes.length + 1 ∧ (inputs (put G ⟨2, 0, 0, 0⟩).1.nodes).length = (inputs G.nodes).length + 1 at hrm
        rw [hG1] at hbt6 hrg6 hrm ⊢
        have HPG := Lib.hid hG1
        have HRM := Lib.hid hrm; clear hrm HROOM hG1
        have hrb' : rb' ≠ b6 := by rcases hfr with e | e <;> omega
        have hlo' : w.heap.size + 1 ≤ rb' := by rcases hfr with e | e <;> omega
        have b6c := BB6.out.ch hc6 (by simp)
        have b3 := BB3.out.ch hc6 (by simp)
        have f0 := b6c.frozen (i := 0)
        have f1 := b6c.frozen (i := 1)
        have y0 := b6c.cell (i := 0) rfl
        have y1 := b6c.cell (i := 1) rfl
        have HBT6 := Lib.hid hbt6; clear hbt6
        have BC6 := Lib.hid b6c; clear b6c
        have BC3 := Lib.hid b3; clear b3
        clear BB6 BB3 hrg6 hc6 hfr
        go_upto_region 15 with fail
        refine wp_named fun W7 hW7 => ?_
        have hcs : Ch [b6] w6 W7 := set2_ch (u := .int .i64 G1.most) (v := .slice (some ⟨rb', 0, none⟩) G1.nodes.length cap') hW7
        have hbt7 := HBT6.out.set hcs h6F' hrb' (by omega)
        have b67 : blk W7 b6 [.int .i64 G1.most, .slice (some ⟨rb', 0, none⟩) G1.nodes.length cap'] := by rw [hW7]; exact (BC6.out.set (i := 0) _).set (i := 1) _
        have b37 := BC3.out.ch hcs (by simp; omega)
        clear hW7 hcs y0 y1 f0 f1 BC6 BC3 HBT6
        have y1 := b67.cell (i := 1) rfl
        have HBT7 := Lib.hid hbt7; clear hbt7
        have B67 := Lib.hid b67; clear b67
        have B37 := Lib.hid b37; clear b37
        have hLn := fun (W : World) (hW : Ch [] W7 W) => Len_g (HBT7.out.same hW).gin
        have HLN := Lib.hid hLn; clear hLn
        obtain ⟨N1, hN1⟩ : ∃ N1, G1.nodes.length = N1 := ⟨_, rfl⟩
        rw [hN1] at HLN y1
        have e9 : ((N1 : Int) != (N1 : Int)) = false := by simp
        have HN1 := Lib.hid hN1; clear hN1
        refine Ord.St.door (fun _ => True) [.fl, .fl, .fl, .fl, .rd, .fl, .rd, .rd, .fl, .fl] [0, 1, 3, 7, 15, 7, 39, 103, 255, 511] [0, 1, 2, 3, 4, 5, 6, 7, 8, 9] mixed (by kernel_rfl) rfl ?_
        refine Ord.St.fl2 (T' := ?_) 0 [1, 2, 3, 4, 5, 6, 7, 8, 9] _ _ rfl (by kernel_rfl) rfl rfl rfl rfl (fun K w' hk => ?_) ?_
        rotate_left
        · go_step; exact hk
        refine Ord.St.fl2 (T' := ?_) 1 [2, 3, 4, 5, 6, 7, 8, 9] _ _ rfl (by kernel_rfl) rfl rfl rfl rfl (fun K w' hk => ?_) ?_
        rotate_left
        · go_step; exact hk
        refine Ord.St.fl2 (T' := ?_) 2 [3, 4, 5, 6, 7, 8, 9] _ _ rfl (by kernel_rfl) rfl rfl rfl rfl (fun K w' hk => ?_) ?_
        rotate_left
        · go_step; exact hk
        first | (refine Ord.St.fl2 (T' := ?_) 3 [4, 5, 6, 7, 8, 9] _ _ rfl (by kernel_rfl) ?_ rfl rfl rfl (fun K w' hk => ?_) ?_; rotate_left; (first | rfl | (simp [Region.wanted, yielded, *]; done)); focus (go_step; exact hk)) | (refine Ord.St.skip 3 [4, 5, 6, 7, 8, 9] _ rfl (by kernel_rfl) ?_ (fun K hK => ?_); (first | rfl | (simp [Region.wanted, yielded, *]; done)); go_simp; refine hK _ ?_; clear hK K)
        first | (refine Ord.St.rd2 (T' := ?_) 4 [5, 6, 7, 8, 9] _ _ rfl (by kernel_rfl) ?_ rfl rfl rfl (fun K hk => ?_) ?_; rotate_left; (first | rfl | (simp [Region.wanted, yielded, *]; done)); focus (go_step; refine (HLN.out _ (Ch.refl _ _).drew).mono ?_; rintro e w' ⟨rfl, rfl⟩; exact hk)) | (refine Ord.St.skipr 4 [5, 6, 7, 8, 9] _ rfl (by kernel_rfl) ?_ (fun K hK => ?_); (first | rfl | (simp [Region.wanted, yielded, *]; done)); go_simp; refine hK _ ?_; clear hK K)
        first | (refine Ord.St.fl2 (T' := ?_) 5 [6, 7, 8, 9] _ _ rfl (by kernel_rfl) ?_ rfl rfl rfl (fun K w' hk => ?_) ?_; rotate_left; (first | rfl | (simp [Region.wanted, yielded, *]; done)); focus (go_step; exact hk)) | (refine Ord.St.skip 5 [6, 7, 8, 9] _ rfl (by kernel_rfl) ?_ (fun K hK => ?_); (first | rfl | (simp [Region.wanted, yielded, *]; done)); go_simp; refine hK _ ?_; clear hK K)
        first | (refine Ord.St.rd2 (T' := ?_) 6 [7, 8, 9] _ _ rfl (by kernel_rfl) ?_ rfl rfl rfl (fun K hk => ?_) ?_; rotate_left; (first | rfl | (simp [Region.wanted, yielded, *]; done)); focus (go_step; exact hk)) | (refine Ord.St.skipr 6 [7, 8, 9] _ rfl (by kernel_rfl) ?_ (fun K hK => ?_); (first | rfl | (simp [Region.wanted, yielded, *]; done)); go_simp; refine hK _ ?_; clear hK K)
        first | (refine Ord.St.rd2 (T' := ?_) 7 [8, 9] _ _ rfl (by kernel_rfl) ?_ rfl rfl rfl (fun K hk => ?_) ?_; rotate_left; (first | rfl | (simp [Region.wanted, yielded, *]; done)); focus (go_step; exact hk)) | (refine Ord.St.skipr 7 [8, 9] _ rfl (by kernel_rfl) ?_ (fun K hK => ?_); (first | rfl | (simp [Region.wanted, yielded, *]; done)); go_simp; refine hK _ ?_; clear hK K)
        first | (refine Ord.St.fl2 (T' := ?_) 8 [9] _ _ rfl (by kernel_rfl) ?_ rfl rfl rfl (fun K w' hk => ?_) ?_; rotate_left; (first | rfl | (simp [Region.wanted, yielded, *]; done)); focus (go_step; exact hk)) | (refine Ord.St.skip 8 [9] _ rfl (by kernel_rfl) ?_ (fun K hK => ?_); (first | rfl | (simp [Region.wanted, yielded, *]; done)); go_simp; refine hK _ ?_; clear hK K)
        refine Ord.St.fl2 (T' := ?_) 9 [] _ _ rfl (by kernel_rfl) rfl rfl rfl rfl (fun K w' hk => ?_) ?_
        rotate_left
        · go_step; exact hk
        refine Ord.St.nil ?_
        go_wp2_with fail
        go_roundw
        case rel => exact ⟨k + 1, G1, F', rb', cap', by omega, by go_num, HBT7.out.same (Ch.refl _ _).drew, h6F', h3F', hrb', hlo', B67.out.ch (Ch.refl [] _).drew (by simp), B37.out.ch (Ch.refl [] _).drew (by simp), by rw [HRM.out.2.1]; exact HM.out, by have := HRM.out.2.2.1; omega, by rw [HRM.out.2.2.2, HCNK.out, HIL.out.1]; rfl, fun hh => by rw [← HPG.out, HIL.out.2 (fun x hx => hh x (by rw [List.take_add_one]; exact List.mem_append_left _ hx))]; rfl⟩
        case measure => simp [intOf]; omega
    · have hkn : k = n := by omega
      have HBT := Lib.hid hbt; clear hbt
      have z0 := b3.cell (i := 0) rfl
      have z1 := b3.cell (i := 1) rfl
      have g0 := b3.frozen (i := 0)
      have g1 := b3.frozen (i := 1)
      have y0 := b6c.cell (i := 0) rfl
      have y1 := b6c.cell (i := 1) rfl
      clear b6c b3
      go_wp2_with fail
      refine Ord.St.door (fun _ => True) [.fl, .rd, .fl, .ef, .fl] [0, 0, 1, 7, 15] [0, 1, 2, 3, 4] mixed (by kernel_rfl) rfl ?_
      refine Ord.St.fl2 (T' := ?_) 0 [1, 2, 3, 4] _ _ rfl (by kernel_rfl) rfl rfl rfl rfl (fun K w' hk => ?_) ?_
      rotate_left
      · go_step; exact hk
      refine Ord.St.rd2 (T' := ?_) 1 [2, 3, 4] _ _ rfl (by kernel_rfl) rfl rfl rfl rfl (fun K hk => ?_) ?_
      rotate_left
      · go_step; exact hk
      refine Ord.St.fl2 (T' := ?_) 2 [3, 4] _ _ rfl (by kernel_rfl) rfl rfl rfl rfl (fun K w' hk => ?_) ?_
      rotate_left
      · go_step; exact hk
      refine Ord.St.ef 3 [4] _ rfl (by kernel_rfl) (fun K hK => ?_)
      go_wp2_with fail
      refine ⟨rfl, hK _ _ ?_⟩; clear hK K
      refine Ord.St.fl2 (T' := ?_) 4 [] _ _ rfl (by kernel_rfl) rfl rfl rfl rfl (fun K w' hk => ?_) ?_
      rotate_left
      · go_step; exact hk
      refine Ord.St.nil ?_
      go_wp2_with fail
      have hcs : Ch [w.heap.size] wr ((wr.setCell ⟨w.heap.size, 0, none⟩ (.int .i64 G.most)).setCell ⟨w.heap.size, 1, none⟩ (.slice (some ⟨rb, 0, none⟩) G.nodes.length cap)).drew := (((Ch.refl _ _).setCell (by simp) _).setCell (by simp) _).drew
      refine bodyPost_ret (v := .tuple #[.pointer (some ⟨g, 0, none⟩), .agg #[.int .i64 G.most, .slice (some ⟨rb, 0, none⟩) G.nodes.length cap], .bool true]) (by simp [results, Try.results72, go_sem, z0, z1]) rfl ?_
      refine ⟨g, F, rb, cap, G, rfl, HBT.out.set hcs h3F (by omega) (by omega), HM.out, by omega, ?_, ?_⟩
      · rw [HIL.out.1, hkn, HFULL.out]
      · rw [← hkn]; exact HIL.out.2
theorem build27_is {a : Option Addr} {n ncap : Nat} {l : List N21} (hS : NodeS w a n ncap l) (hn : n ≤ 61) :
    Calls Try.prog 72 #[.slice a n ncap] w fun e w' => ∃ g F rb cap G, e = .returned (.tuple #[.pointer (some ⟨g, 0, none⟩), .agg #[.int .i64 G.most, .slice (some ⟨rb, 0, none⟩) G.nodes.length cap], .bool true]) ∧ Both w w' g rb cap G F ∧ G.most = 200 ∧ G.nodes.length ≤ n + 1 ∧ (inputs G.nodes).length = cntI l :=
  (build27_full hS hn).mono (by rintro e w' ⟨g, F, rb, cap, G, h1, h2, h3, h4, h5, _⟩; exact ⟨g, F, rb, cap, G, h1, h2, h3, h4, h5⟩)
end
end Go.Proofs.Ytkedpifopclipaa
namespace Go.Aig
theorem rising_snoc {l : List Int} {x : Int} (h : rising l = true) (hx : 0 < x ∧ x < 65536) (hl : ∀ k y, k + 1 = l.length → l[k]? = some y → y < x) : rising (l ++ [x]) = true := by
  obtain ⟨h1, h2⟩ := (rising_iff l).1 h
  rw [rising_iff]
  refine ⟨fun n hn => ?_, ?_⟩
  · rcases List.mem_append.1 hn with h | h
    · exact h1 n h
    · simp at h; subst h; exact hx
  · rw [List.pairwise_append]
    refine ⟨h2, by simp, fun y hy z hz => ?_⟩
    simp at hz
    subst hz
    obtain ⟨i, hi, rfl⟩ := List.getElem_of_mem hy
    have hk : l.length - 1 < l.length := by omega
    have h3 := hl (l.length - 1) l[l.length - 1] (by omega) (List.getElem?_eq_getElem hk)
    by_cases e : i = l.length - 1
    · subst e; exact h3
    · have h4 := (List.pairwise_iff_getElem.1 h2) i (l.length - 1) hi hk (by omega)
      omega
theorem rising_not {m : List Int} {k : Nat} {x : Int} (hx : m[k]? = some x) (h : x < 1 ∨ 65535 < x) : rising m = false := by
  rw [← Bool.not_eq_true]
  intro h2
  have := ((rising_iff m).1 h2).1 x (List.mem_of_getElem? hx)
  omega
theorem rising_not2 {m : List Int} {k : Nat} {x y : Int} (hy : m[k]? = some y) (hx : m[k + 1]? = some x) (h : x ≤ y) : rising m = false := by
  rw [← Bool.not_eq_true]
  intro h2
  have h3 := ((rising_iff m).1 h2).2
  obtain ⟨h4, e4⟩ := List.getElem?_eq_some_iff.1 hy
  obtain ⟨h5, e5⟩ := List.getElem?_eq_some_iff.1 hx
  have := (List.pairwise_iff_getElem.1 h3) k (k + 1) h4 h5 (by omega)
  omega
end Go.Aig
namespace Go.Proofs.Ytkedpifopclipaa
open Go.RowKit Go.Mem Go.Aig
set_option maxRecDepth 100000 in
set_option maxHeartbeats 4000000 in
theorem r27Rising_is {w : World} {a : Option Addr} {m : List Int} (n c : Nat) (hn : m.length = n) (hnl : n ≤ 1000000) (hS : Sl w a m) : Calls Try.prog 167 #[.slice a n c] w fun e w' => e = .returned (.bool (rising m)) ∧ Ch [] w w' := by
  have HS := Lib.hid hS; clear hS
  have HN := Lib.hid hn; clear hn
  go_enter Try.func167, Try.ntmps167
  go_wp2_with fail
  go_loopw [3] (fun i wr => ∃ k : Nat, k ≤ n ∧ i = .int .i64 k ∧ Ch [] w wr ∧ rising (m.take k) = true) (fun i _ => n - (intOf i).toNat)
  case atStart => exact ⟨0, by omega, rfl, Ch.refl _ _, by simp [rising, risingF]⟩
  case round =>
    obtain ⟨k, hk, rfl, hc, hr⟩ := hrel
    have HSW := Lib.hid (HS.out.ch hc (by simp))
    have HC := Lib.hid hc; clear hc
    by_cases hlt : k < n
    · obtain ⟨x, hx⟩ : ∃ x, m[k]? = some x := ⟨_, List.getElem?_eq_getElem (by have := HN.out; omega)⟩
      obtain ⟨xb, xo, rfl, hcl⟩ := HSW.out.cells k x hx
      have hts : m.take (k + 1) = m.take k ++ [x] := by rw [List.take_add_one, hx]; rfl
      have HX := Lib.hid hx; clear hx
      have HT := Lib.hid hts; clear hts
      have HR := Lib.hid hr; clear hr
      by_cases h1 : x < 1
      · have d1 : decide (x < 1) = true := decide_eq_true h1
        go_wp2_with fail
        refine Ord.St.door (fun _ => True) [.fl, .fl, .fl, .rd, .fl, .fl, .fl, .fl, .fl, .rd, .fl, .fl, .fl, .fl, .fl, .fl, .fl, .fl, .fl, .rd, .fl, .fl, .fl, .fl, .rd, .fl, .fl, .fl] [0, 0, 3, 7, 15, 31, 63, 63, 255, 511, 1023, 2047, 4095, 8191, 16383, 32767, 65535, 65535, 262143, 524287, 65535, 65535, 2162687, 7405567, 15794175, 33554431, 67108863, 134217727] [0, 1, 2, 3, 4, 5, 6, 7, 8, 9, 10, 11, 12, 13, 14, 15, 16, 17, 18, 19, 20, 21, 22, 23, 24, 25, 26, 27] mixed (by kernel_rfl) rfl ?_
        refine Ord.St.fl2 (T' := ?_) 0 [1, 2, 3, 4, 5, 6, 7, 8, 9, 10, 11, 12, 13, 14, 15, 16, 17, 18, 19, 20, 21, 22, 23, 24, 25, 26, 27] _ _ rfl (by kernel_rfl) rfl rfl rfl rfl (fun K w' hk => ?_) ?_
        rotate_left
        · go_step; exact hk
        refine Ord.St.fl2 (T' := ?_) 1 [2, 3, 4, 5, 6, 7, 8, 9, 10, 11, 12, 13, 14, 15, 16, 17, 18, 19, 20, 21, 22, 23, 24, 25, 26, 27] _ _ rfl (by kernel_rfl) rfl rfl rfl rfl (fun K w' hk => ?_) ?_
        rotate_left
        · go_step; exact hk
        refine Ord.St.fl2 (T' := ?_) 2 [3, 4, 5, 6, 7, 8, 9, 10, 11, 12, 13, 14, 15, 16, 17, 18, 19, 20, 21, 22, 23, 24, 25, 26, 27] _ _ rfl (by kernel_rfl) rfl rfl rfl rfl (fun K w' hk => ?_) ?_
        rotate_left
        · go_step; exact hk
        refine Ord.St.rd2 (T' := ?_) 3 [4, 5, 6, 7, 8, 9, 10, 11, 12, 13, 14, 15, 16, 17, 18, 19, 20, 21, 22, 23, 24, 25, 26, 27] _ _ rfl (by kernel_rfl) rfl rfl rfl rfl (fun K hk => ?_) ?_
        rotate_left
        · go_step; exact hk
        refine Ord.St.fl2 (T' := ?_) 4 [5, 6, 7, 8, 9, 10, 11, 12, 13, 14, 15, 16, 17, 18, 19, 20, 21, 22, 23, 24, 25, 26, 27] _ _ rfl (by kernel_rfl) rfl rfl rfl rfl (fun K w' hk => ?_) ?_
        rotate_left
        · go_step; exact hk
        refine Ord.St.fl2 (T' := ?_) 5 [6, 7, 8, 9, 10, 11, 12, 13, 14, 15, 16, 17, 18, 19, 20, 21, 22, 23, 24, 25, 26, 27] _ _ rfl (by kernel_rfl) rfl rfl rfl rfl (fun K w' hk => ?_) ?_
        rotate_left
        · go_step; exact hk
        first | (refine Ord.St.fl2 (T' := ?_) 6 [7, 8, 9, 10, 11, 12, 13, 14, 15, 16, 17, 18, 19, 20, 21, 22, 23, 24, 25, 26, 27] _ _ rfl (by kernel_rfl) ?_ rfl rfl rfl (fun K w' hk => ?_) ?_; rotate_left; (first | rfl | (simp [Region.wanted, yielded, *]; done)); focus (go_step; exact hk)) | (refine Ord.St.skip 6 [7, 8, 9, 10, 11, 12, 13, 14, 15, 16, 17, 18, 19, 20, 21, 22, 23, 24, 25, 26, 27] _ rfl (by kernel_rfl) ?_ (fun K hK => ?_); (first | rfl | (simp [Region.wanted, yielded, *]; done)); go_simp; refine hK _ ?_; clear hK K)
        first | (refine Ord.St.fl2 (T' := ?_) 7 [8, 9, 10, 11, 12, 13, 14, 15, 16, 17, 18, 19, 20, 21, 22, 23, 24, 25, 26, 27] _ _ rfl (by kernel_rfl) ?_ rfl rfl rfl (fun K w' hk => ?_) ?_; rotate_left; (first | rfl | (simp [Region.wanted, yielded, *]; done)); focus (go_step; exact hk)) | (refine Ord.St.skip 7 [8, 9, 10, 11, 12, 13, 14, 15, 16, 17, 18, 19, 20, 21, 22, 23, 24, 25, 26, 27] _ rfl (by kernel_rfl) ?_ (fun K hK => ?_); (first | rfl | (simp [Region.wanted, yielded, *]; done)); go_simp; refine hK _ ?_; clear hK K)
        first | (refine Ord.St.fl2 (T' := ?_) 8 [9, 10, 11, 12, 13, 14, 15, 16, 17, 18, 19, 20, 21, 22, 23, 24, 25, 26, 27] _ _ rfl (by kernel_rfl) ?_ rfl rfl rfl (fun K w' hk => ?_) ?_; rotate_left; (first | rfl | (simp [Region.wanted, yielded, *]; done)); focus (go_step; exact hk)) | (refine Ord.St.skip 8 [9, 10, 11, 12, 13, 14, 15, 16, 17, 18, 19, 20, 21, 22, 23, 24, 25, 26, 27] _ rfl (by kernel_rfl) ?_ (fun K hK => ?_); (first | rfl | (simp [Region.wanted, yielded, *]; done)); go_simp; refine hK _ ?_; clear hK K)
        first | (refine Ord.St.rd2 (T' := ?_) 9 [10, 11, 12, 13, 14, 15, 16, 17, 18, 19, 20, 21, 22, 23, 24, 25, 26, 27] _ _ rfl (by kernel_rfl) ?_ rfl rfl rfl (fun K hk => ?_) ?_; rotate_left; (first | rfl | (simp [Region.wanted, yielded, *]; done)); focus (go_step; exact hk)) | (refine Ord.St.skipr 9 [10, 11, 12, 13, 14, 15, 16, 17, 18, 19, 20, 21, 22, 23, 24, 25, 26, 27] _ rfl (by kernel_rfl) ?_ (fun K hK => ?_); (first | rfl | (simp [Region.wanted, yielded, *]; done)); go_simp; refine hK _ ?_; clear hK K)
        first | (refine Ord.St.fl2 (T' := ?_) 10 [11, 12, 13, 14, 15, 16, 17, 18, 19, 20, 21, 22, 23, 24, 25, 26, 27] _ _ rfl (by kernel_rfl) ?_ rfl rfl rfl (fun K w' hk => ?_) ?_; rotate_left; (first | rfl | (simp [Region.wanted, yielded, *]; done)); focus (go_step; exact hk)) | (refine Ord.St.skip 10 [11, 12, 13, 14, 15, 16, 17, 18, 19, 20, 21, 22, 23, 24, 25, 26, 27] _ rfl (by kernel_rfl) ?_ (fun K hK => ?_); (first | rfl | (simp [Region.wanted, yielded, *]; done)); go_simp; refine hK _ ?_; clear hK K)
        refine Ord.St.fl2 (T' := ?_) 11 [12, 13, 14, 15, 16, 17, 18, 19, 20, 21, 22, 23, 24, 25, 26, 27] _ _ rfl (by kernel_rfl) rfl rfl rfl rfl (fun K w' hk => ?_) ?_
        rotate_left
        · go_step; exact hk
        refine Ord.St.fl2 (T' := ?_) 12 [13, 14, 15, 16, 17, 18, 19, 20, 21, 22, 23, 24, 25, 26, 27] _ _ rfl (by kernel_rfl) rfl rfl rfl rfl (fun K w' hk => ?_) ?_
        rotate_left
        · go_step; exact hk
        first | (refine Ord.St.fl2 (T' := ?_) 13 [14, 15, 16, 17, 18, 19, 20, 21, 22, 23, 24, 25, 26, 27] _ _ rfl (by kernel_rfl) ?_ rfl rfl rfl (fun K w' hk => ?_) ?_; rotate_left; (first | rfl | (simp [Region.wanted, yielded, *]; done)); focus (go_step; exact hk)) | (refine Ord.St.skip 13 [14, 15, 16, 17, 18, 19, 20, 21, 22, 23, 24, 25, 26, 27] _ rfl (by kernel_rfl) ?_ (fun K hK => ?_); (first | rfl | (simp [Region.wanted, yielded, *]; done)); go_simp; refine hK _ ?_; clear hK K)
        first | (refine Ord.St.fl2 (T' := ?_) 14 [15, 16, 17, 18, 19, 20, 21, 22, 23, 24, 25, 26, 27] _ _ rfl (by kernel_rfl) ?_ rfl rfl rfl (fun K w' hk => ?_) ?_; rotate_left; (first | rfl | (simp [Region.wanted, yielded, *]; done)); focus (go_step; exact hk)) | (refine Ord.St.skip 14 [15, 16, 17, 18, 19, 20, 21, 22, 23, 24, 25, 26, 27] _ rfl (by kernel_rfl) ?_ (fun K hK => ?_); (first | rfl | (simp [Region.wanted, yielded, *]; done)); go_simp; refine hK _ ?_; clear hK K)
        first | (refine Ord.St.fl2 (T' := ?_) 15 [16, 17, 18, 19, 20, 21, 22, 23, 24, 25, 26, 27] _ _ rfl (by kernel_rfl) ?_ rfl rfl rfl (fun K w' hk => ?_) ?_; rotate_left; (first | rfl | (simp [Region.wanted, yielded, *]; done)); focus (go_step; exact hk)) | (refine Ord.St.skip 15 [16, 17, 18, 19, 20, 21, 22, 23, 24, 25, 26, 27] _ rfl (by kernel_rfl) ?_ (fun K hK => ?_); (first | rfl | (simp [Region.wanted, yielded, *]; done)); go_simp; refine hK _ ?_; clear hK K)
        first | (refine Ord.St.fl2 (T' := ?_) 16 [17, 18, 19, 20, 21, 22, 23, 24, 25, 26, 27] _ _ rfl (by kernel_rfl) ?_ rfl rfl rfl (fun K w' hk => ?_) ?_; rotate_left; (first | rfl | (simp [Region.wanted, yielded, *]; done)); focus (go_step; exact hk)) | (refine Ord.St.skip 16 [17, 18, 19, 20, 21, 22, 23, 24, 25, 26, 27] _ rfl (by kernel_rfl) ?_ (fun K hK => ?_); (first | rfl | (simp [Region.wanted, yielded, *]; done)); go_simp; refine hK _ ?_; clear hK K)
        first | (refine Ord.St.fl2 (T' := ?_) 17 [18, 19, 20, 21, 22, 23, 24, 25, 26, 27] _ _ rfl (by kernel_rfl) ?_ rfl rfl rfl (fun K w' hk => ?_) ?_; rotate_left; (first | rfl | (simp [Region.wanted, yielded, *]; done)); focus (go_step; exact hk)) | (refine Ord.St.skip 17 [18, 19, 20, 21, 22, 23, 24, 25, 26, 27] _ rfl (by kernel_rfl) ?_ (fun K hK => ?_); (first | rfl | (simp [Region.wanted, yielded, *]; done)); go_simp; refine hK _ ?_; clear hK K)
        first | (refine Ord.St.fl2 (T' := ?_) 18 [19, 20, 21, 22, 23, 24, 25, 26, 27] _ _ rfl (by kernel_rfl) ?_ rfl rfl rfl (fun K w' hk => ?_) ?_; rotate_left; (first | rfl | (simp [Region.wanted, yielded, *]; done)); focus (go_step; exact hk)) | (refine Ord.St.skip 18 [19, 20, 21, 22, 23, 24, 25, 26, 27] _ rfl (by kernel_rfl) ?_ (fun K hK => ?_); (first | rfl | (simp [Region.wanted, yielded, *]; done)); go_simp; refine hK _ ?_; clear hK K)
        first | (refine Ord.St.rd2 (T' := ?_) 19 [20, 21, 22, 23, 24, 25, 26, 27] _ _ rfl (by kernel_rfl) ?_ rfl rfl rfl (fun K hk => ?_) ?_; rotate_left; (first | rfl | (simp [Region.wanted, yielded, *]; done)); focus (go_step; exact hk)) | (refine Ord.St.skipr 19 [20, 21, 22, 23, 24, 25, 26, 27] _ rfl (by kernel_rfl) ?_ (fun K hK => ?_); (first | rfl | (simp [Region.wanted, yielded, *]; done)); go_simp; refine hK _ ?_; clear hK K)
        first | (refine Ord.St.fl2 (T' := ?_) 20 [21, 22, 23, 24, 25, 26, 27] _ _ rfl (by kernel_rfl) ?_ rfl rfl rfl (fun K w' hk => ?_) ?_; rotate_left; (first | rfl | (simp [Region.wanted, yielded, *]; done)); focus (go_step; exact hk)) | (refine Ord.St.skip 20 [21, 22, 23, 24, 25, 26, 27] _ rfl (by kernel_rfl) ?_ (fun K hK => ?_); (first | rfl | (simp [Region.wanted, yielded, *]; done)); go_simp; refine hK _ ?_; clear hK K)
        first | (refine Ord.St.fl2 (T' := ?_) 21 [22, 23, 24, 25, 26, 27] _ _ rfl (by kernel_rfl) ?_ rfl rfl rfl (fun K w' hk => ?_) ?_; rotate_left; (first | rfl | (simp [Region.wanted, yielded, *]; done)); focus (go_step; exact hk)) | (refine Ord.St.skip 21 [22, 23, 24, 25, 26, 27] _ rfl (by kernel_rfl) ?_ (fun K hK => ?_); (first | rfl | (simp [Region.wanted, yielded, *]; done)); go_simp; refine hK _ ?_; clear hK K)
        first | (refine Ord.St.fl2 (T' := ?_) 22 [23, 24, 25, 26, 27] _ _ rfl (by kernel_rfl) ?_ rfl rfl rfl (fun K w' hk => ?_) ?_; rotate_left; (first | rfl | (simp [Region.wanted, yielded, *]; done)); focus (go_step; exact hk)) | (refine Ord.St.skip 22 [23, 24, 25, 26, 27] _ rfl (by kernel_rfl) ?_ (fun K hK => ?_); (first | rfl | (simp [Region.wanted, yielded, *]; done)); go_simp; refine hK _ ?_; clear hK K)
        first | (refine Ord.St.fl2 (T' := ?_) 23 [24, 25, 26, 27] _ _ rfl (by kernel_rfl) ?_ rfl rfl rfl (fun K w' hk => ?_) ?_; rotate_left; (first | rfl | (simp [Region.wanted, yielded, *]; done)); focus (go_step; exact hk)) | (refine Ord.St.skip 23 [24, 25, 26, 27] _ rfl (by kernel_rfl) ?_ (fun K hK => ?_); (first | rfl | (simp [Region.wanted, yielded, *]; done)); go_simp; refine hK _ ?_; clear hK K)
        first | (refine Ord.St.rd2 (T' := ?_) 24 [25, 26, 27] _ _ rfl (by kernel_rfl) ?_ rfl rfl rfl (fun K hk => ?_) ?_; rotate_left; (first | rfl | (simp [Region.wanted, yielded, *]; done)); focus (go_step; exact hk)) | (refine Ord.St.skipr 24 [25, 26, 27] _ rfl (by kernel_rfl) ?_ (fun K hK => ?_); (first | rfl | (simp [Region.wanted, yielded, *]; done)); go_simp; refine hK _ ?_; clear hK K)
        first | (refine Ord.St.fl2 (T' := ?_) 25 [26, 27] _ _ rfl (by kernel_rfl) ?_ rfl rfl rfl (fun K w' hk => ?_) ?_; rotate_left; (first | rfl | (simp [Region.wanted, yielded, *]; done)); focus (go_step; exact hk)) | (refine Ord.St.skip 25 [26, 27] _ rfl (by kernel_rfl) ?_ (fun K hK => ?_); (first | rfl | (simp [Region.wanted, yielded, *]; done)); go_simp; refine hK _ ?_; clear hK K)
        first | (refine Ord.St.fl2 (T' := ?_) 26 [27] _ _ rfl (by kernel_rfl) ?_ rfl rfl rfl (fun K w' hk => ?_) ?_; rotate_left; (first | rfl | (simp [Region.wanted, yielded, *]; done)); focus (go_step; exact hk)) | (refine Ord.St.skip 26 [27] _ rfl (by kernel_rfl) ?_ (fun K hK => ?_); (first | rfl | (simp [Region.wanted, yielded, *]; done)); go_simp; refine hK _ ?_; clear hK K)
        refine Ord.St.fl2 (T' := ?_) 27 [] _ _ rfl (by kernel_rfl) rfl rfl rfl rfl (fun K w' hk => ?_) ?_
        rotate_left
        · go_step; exact hk
        refine Ord.St.nil ?_
        go_wp2_with fail
        go_ret
        exact ⟨by rw [rising_not HX.out (.inl h1)]; rfl, HC.out.drew⟩
      · have d1 : decide (x < 1) = false := decide_eq_false h1
        by_cases h2 : 65535 < x
        · have d2 : decide (65535 < x) = true := decide_eq_true h2
          go_wp2_with fail
          refine Ord.St.door (fun _ => True) [.fl, .fl, .fl, .rd, .fl, .fl, .fl, .fl, .fl, .rd, .fl, .fl, .fl, .fl, .fl, .fl, .fl, .fl, .fl, .rd, .fl, .fl, .fl, .fl, .rd, .fl, .fl, .fl] [0, 0, 3, 7, 15, 31, 63, 63, 255, 511, 1023, 2047, 4095, 8191, 16383, 32767, 65535, 65535, 262143, 524287, 65535, 65535, 2162687, 7405567, 15794175, 33554431, 67108863, 134217727] [0, 1, 2, 3, 4, 5, 6, 7, 8, 9, 10, 11, 12, 13, 14, 15, 16, 17, 18, 19, 20, 21, 22, 23, 24, 25, 26, 27] mixed (by kernel_rfl) rfl ?_
          refine Ord.St.fl2 (T' := ?_) 0 [1, 2, 3, 4, 5, 6, 7, 8, 9, 10, 11, 12, 13, 14, 15, 16, 17, 18, 19, 20, 21, 22, 23, 24, 25, 26, 27] _ _ rfl (by kernel_rfl) rfl rfl rfl rfl (fun K w' hk => ?_) ?_
          rotate_left
          · go_step; exact hk
          refine Ord.St.fl2 (T' := ?_) 1 [2, 3, 4, 5, 6, 7, 8, 9, 10, 11, 12, 13, 14, 15, 16, 17, 18, 19, 20, 21, 22, 23, 24, 25, 26, 27] _ _ rfl (by kernel_rfl) rfl rfl rfl rfl (fun K w' hk => ?_) ?_
          rotate_left
          · go_step; exact hk
          refine Ord.St.fl2 (T' := ?_) 2 [3, 4, 5, 6, 7, 8, 9, 10, 11, 12, 13, 14, 15, 16, 17, 18, 19, 20, 21, 22, 23, 24, 25, 26, 27] _ _ rfl (by kernel_rfl) rfl rfl rfl rfl (fun K w' hk => ?_) ?_
          rotate_left
          · go_step; exact hk
          refine Ord.St.rd2 (T' := ?_) 3 [4, 5, 6, 7, 8, 9, 10, 11, 12, 13, 14, 15, 16, 17, 18, 19, 20, 21, 22, 23, 24, 25, 26, 27] _ _ rfl (by kernel_rfl) rfl rfl rfl rfl (fun K hk => ?_) ?_
          rotate_left
          · go_step; exact hk
          refine Ord.St.fl2 (T' := ?_) 4 [5, 6, 7, 8, 9, 10, 11, 12, 13, 14, 15, 16, 17, 18, 19, 20, 21, 22, 23, 24, 25, 26, 27] _ _ rfl (by kernel_rfl) rfl rfl rfl rfl (fun K w' hk => ?_) ?_
          rotate_left
          · go_step; exact hk
          refine Ord.St.fl2 (T' := ?_) 5 [6, 7, 8, 9, 10, 11, 12, 13, 14, 15, 16, 17, 18, 19, 20, 21, 22, 23, 24, 25, 26, 27] _ _ rfl (by kernel_rfl) rfl rfl rfl rfl (fun K w' hk => ?_) ?_
          rotate_left
          · go_step; exact hk
          first | (refine Ord.St.fl2 (T' := ?_) 6 [7, 8, 9, 10, 11, 12, 13, 14, 15, 16, 17, 18, 19, 20, 21, 22, 23, 24, 25, 26, 27] _ _ rfl (by kernel_rfl) ?_ rfl rfl rfl (fun K w' hk => ?_) ?_; rotate_left; (first | rfl | (simp [Region.wanted, yielded, *]; done)); focus (go_step; exact hk)) | (refine Ord.St.skip 6 [7, 8, 9, 10, 11, 12, 13, 14, 15, 16, 17, 18, 19, 20, 21, 22, 23, 24, 25, 26, 27] _ rfl (by kernel_rfl) ?_ (fun K hK => ?_); (first | rfl | (simp [Region.wanted, yielded, *]; done)); go_simp; refine hK _ ?_; clear hK K)
          first | (refine Ord.St.fl2 (T' := ?_) 7 [8, 9, 10, 11, 12, 13, 14, 15, 16, 17, 18, 19, 20, 21, 22, 23, 24, 25, 26, 27] _ _ rfl (by kernel_rfl) ?_ rfl rfl rfl (fun K w' hk => ?_) ?_; rotate_left; (first | rfl | (simp [Region.wanted, yielded, *]; done)); focus (go_step; exact hk)) | (refine Ord.St.skip 7 [8, 9, 10, 11, 12, 13, 14, 15, 16, 17, 18, 19, 20, 21, 22, 23, 24, 25, 26, 27] _ rfl (by kernel_rfl) ?_ (fun K hK => ?_); (first | rfl | (simp [Region.wanted, yielded, *]; done)); go_simp; refine hK _ ?_; clear hK K)
          first | (refine Ord.St.fl2 (T' := ?_) 8 [9, 10, 11, 12, 13, 14, 15, 16, 17, 18, 19, 20, 21, 22, 23, 24, 25, 26, 27] _ _ rfl (by kernel_rfl) ?_ rfl rfl rfl (fun K w' hk => ?_) ?_; rotate_left; (first | rfl | (simp [Region.wanted, yielded, *]; done)); focus (go_step; exact hk)) | (refine Ord.St.skip 8 [9, 10, 11, 12, 13, 14, 15, 16, 17, 18, 19, 20, 21, 22, 23, 24, 25, 26, 27] _ rfl (by kernel_rfl) ?_ (fun K hK => ?_); (first | rfl | (simp [Region.wanted, yielded, *]; done)); go_simp; refine hK _ ?_; clear hK K)
          first | (refine Ord.St.rd2 (T' := ?_) 9 [10, 11, 12, 13, 14, 15, 16, 17, 18, 19, 20, 21, 22, 23, 24, 25, 26, 27] _ _ rfl (by kernel_rfl) ?_ rfl rfl rfl (fun K hk => ?_) ?_; rotate_left; (first | rfl | (simp [Region.wanted, yielded, *]; done)); focus (go_step; exact hk)) | (refine Ord.St.skipr 9 [10, 11, 12, 13, 14, 15, 16, 17, 18, 19, 20, 21, 22, 23, 24, 25, 26, 27] _ rfl (by kernel_rfl) ?_ (fun K hK => ?_); (first | rfl | (simp [Region.wanted, yielded, *]; done)); go_simp; refine hK _ ?_; clear hK K)
          first | (refine Ord.St.fl2 (T' := ?_) 10 [11, 12, 13, 14, 15, 16, 17, 18, 19, 20, 21, 22, 23, 24, 25, 26, 27] _ _ rfl (by kernel_rfl) ?_ rfl rfl rfl (fun K w' hk => ?_) ?_; rotate_left; (first | rfl | (simp [Region.wanted, yielded, *]; done)); focus (go_step; exact hk)) | (refine Ord.St.skip 10 [11, 12, 13, 14, 15, 16, 17, 18, 19, 20, 21, 22, 23, 24, 25, 26, 27] _ rfl (by kernel_rfl) ?_ (fun K hK => ?_); (first | rfl | (simp [Region.wanted, yielded, *]; done)); go_simp; refine hK _ ?_; clear hK K)
          refine Ord.St.fl2 (T' := ?_) 11 [12, 13, 14, 15, 16, 17, 18, 19, 20, 21, 22, 23, 24, 25, 26, 27] _ _ rfl (by kernel_rfl) rfl rfl rfl rfl (fun K w' hk => ?_) ?_
          rotate_left
          · go_step; exact hk
          refine Ord.St.fl2 (T' := ?_) 12 [13, 14, 15, 16, 17, 18, 19, 20, 21, 22, 23, 24, 25, 26, 27] _ _ rfl (by kernel_rfl) rfl rfl rfl rfl (fun K w' hk => ?_) ?_
          rotate_left
          · go_step; exact hk
          first | (refine Ord.St.fl2 (T' := ?_) 13 [14, 15, 16, 17, 18, 19, 20, 21, 22, 23, 24, 25, 26, 27] _ _ rfl (by kernel_rfl) ?_ rfl rfl rfl (fun K w' hk => ?_) ?_; rotate_left; (first | rfl | (simp [Region.wanted, yielded, *]; done)); focus (go_step; exact hk)) | (refine Ord.St.skip 13 [14, 15, 16, 17, 18, 19, 20, 21, 22, 23, 24, 25, 26, 27] _ rfl (by kernel_rfl) ?_ (fun K hK => ?_); (first | rfl | (simp [Region.wanted, yielded, *]; done)); go_simp; refine hK _ ?_; clear hK K)
          first | (refine Ord.St.fl2 (T' := ?_) 14 [15, 16, 17, 18, 19, 20, 21, 22, 23, 24, 25, 26, 27] _ _ rfl (by kernel_rfl) ?_ rfl rfl rfl (fun K w' hk => ?_) ?_; rotate_left; (first | rfl | (simp [Region.wanted, yielded, *]; done)); focus (go_step; exact hk)) | (refine Ord.St.skip 14 [15, 16, 17, 18, 19, 20, 21, 22, 23, 24, 25, 26, 27] _ rfl (by kernel_rfl) ?_ (fun K hK => ?_); (first | rfl | (simp [Region.wanted, yielded, *]; done)); go_simp; refine hK _ ?_; clear hK K)
          first | (refine Ord.St.fl2 (T' := ?_) 15 [16, 17, 18, 19, 20, 21, 22, 23, 24, 25, 26, 27] _ _ rfl (by kernel_rfl) ?_ rfl rfl rfl (fun K w' hk => ?_) ?_; rotate_left; (first | rfl | (simp [Region.wanted, yielded, *]; done)); focus (go_step; exact hk)) | (refine Ord.St.skip 15 [16, 17, 18, 19, 20, 21, 22, 23, 24, 25, 26, 27] _ rfl (by kernel_rfl) ?_ (fun K hK => ?_); (first | rfl | (simp [Region.wanted, yielded, *]; done)); go_simp; refine hK _ ?_; clear hK K)
          first | (refine Ord.St.fl2 (T' := ?_) 16 [17, 18, 19, 20, 21, 22, 23, 24, 25, 26, 27] _ _ rfl (by kernel_rfl) ?_ rfl rfl rfl (fun K w' hk => ?_) ?_; rotate_left; (first | rfl | (simp [Region.wanted, yielded, *]; done)); focus (go_step; exact hk)) | (refine Ord.St.skip 16 [17, 18, 19, 20, 21, 22, 23, 24, 25, 26, 27] _ rfl (by kernel_rfl) ?_ (fun K hK => ?_); (first | rfl | (simp [Region.wanted, yielded, *]; done)); go_simp; refine hK _ ?_; clear hK K)
          first | (refine Ord.St.fl2 (T' := ?_) 17 [18, 19, 20, 21, 22, 23, 24, 25, 26, 27] _ _ rfl (by kernel_rfl) ?_ rfl rfl rfl (fun K w' hk => ?_) ?_; rotate_left; (first | rfl | (simp [Region.wanted, yielded, *]; done)); focus (go_step; exact hk)) | (refine Ord.St.skip 17 [18, 19, 20, 21, 22, 23, 24, 25, 26, 27] _ rfl (by kernel_rfl) ?_ (fun K hK => ?_); (first | rfl | (simp [Region.wanted, yielded, *]; done)); go_simp; refine hK _ ?_; clear hK K)
          first | (refine Ord.St.fl2 (T' := ?_) 18 [19, 20, 21, 22, 23, 24, 25, 26, 27] _ _ rfl (by kernel_rfl) ?_ rfl rfl rfl (fun K w' hk => ?_) ?_; rotate_left; (first | rfl | (simp [Region.wanted, yielded, *]; done)); focus (go_step; exact hk)) | (refine Ord.St.skip 18 [19, 20, 21, 22, 23, 24, 25, 26, 27] _ rfl (by kernel_rfl) ?_ (fun K hK => ?_); (first | rfl | (simp [Region.wanted, yielded, *]; done)); go_simp; refine hK _ ?_; clear hK K)
          first | (refine Ord.St.rd2 (T' := ?_) 19 [20, 21, 22, 23, 24, 25, 26, 27] _ _ rfl (by kernel_rfl) ?_ rfl rfl rfl (fun K hk => ?_) ?_; rotate_left; (first | rfl | (simp [Region.wanted, yielded, *]; done)); focus (go_step; exact hk)) | (refine Ord.St.skipr 19 [20, 21, 22, 23, 24, 25, 26, 27] _ rfl (by kernel_rfl) ?_ (fun K hK => ?_); (first | rfl | (simp [Region.wanted, yielded, *]; done)); go_simp; refine hK _ ?_; clear hK K)
          first | (refine Ord.St.fl2 (T' := ?_) 20 [21, 22, 23, 24, 25, 26, 27] _ _ rfl (by kernel_rfl) ?_ rfl rfl rfl (fun K w' hk => ?_) ?_; rotate_left; (first | rfl | (simp [Region.wanted, yielded, *]; done)); focus (go_step; exact hk)) | (refine Ord.St.skip 20 [21, 22, 23, 24, 25, 26, 27] _ rfl (by kernel_rfl) ?_ (fun K hK => ?_); (first | rfl | (simp [Region.wanted, yielded, *]; done)); go_simp; refine hK _ ?_; clear hK K)
          first | (refine Ord.St.fl2 (T' := ?_) 21 [22, 23, 24, 25, 26, 27] _ _ rfl (by kernel_rfl) ?_ rfl rfl rfl (fun K w' hk => ?_) ?_; rotate_left; (first | rfl | (simp [Region.wanted, yielded, *]; done)); focus (go_step; exact hk)) | (refine Ord.St.skip 21 [22, 23, 24, 25, 26, 27] _ rfl (by kernel_rfl) ?_ (fun K hK => ?_); (first | rfl | (simp [Region.wanted, yielded, *]; done)); go_simp; refine hK _ ?_; clear hK K)
          first | (refine Ord.St.fl2 (T' := ?_) 22 [23, 24, 25, 26, 27] _ _ rfl (by kernel_rfl) ?_ rfl rfl rfl (fun K w' hk => ?_) ?_; rotate_left; (first | rfl | (simp [Region.wanted, yielded, *]; done)); focus (go_step; exact hk)) | (refine Ord.St.skip 22 [23, 24, 25, 26, 27] _ rfl (by kernel_rfl) ?_ (fun K hK => ?_); (first | rfl | (simp [Region.wanted, yielded, *]; done)); go_simp; refine hK _ ?_; clear hK K)
          first | (refine Ord.St.fl2 (T' := ?_) 23 [24, 25, 26, 27] _ _ rfl (by kernel_rfl) ?_ rfl rfl rfl (fun K w' hk => ?_) ?_; rotate_left; (first | rfl | (simp [Region.wanted, yielded, *]; done)); focus (go_step; exact hk)) | (refine Ord.St.skip 23 [24, 25, 26, 27] _ rfl (by kernel_rfl) ?_ (fun K hK => ?_); (first | rfl | (simp [Region.wanted, yielded, *]; done)); go_simp; refine hK _ ?_; clear hK K)
          first | (refine Ord.St.rd2 (T' := ?_) 24 [25, 26, 27] _ _ rfl (by kernel_rfl) ?_ rfl rfl rfl (fun K hk => ?_) ?_; rotate_left; (first | rfl | (simp [Region.wanted, yielded, *]; done)); focus (go_step; exact hk)) | (refine Ord.St.skipr 24 [25, 26, 27] _ rfl (by kernel_rfl) ?_ (fun K hK => ?_); (first | rfl | (simp [Region.wanted, yielded, *]; done)); go_simp; refine hK _ ?_; clear hK K)
          first | (refine Ord.St.fl2 (T' := ?_) 25 [26, 27] _ _ rfl (by kernel_rfl) ?_ rfl rfl rfl (fun K w' hk => ?_) ?_; rotate_left; (first | rfl | (simp [Region.wanted, yielded, *]; done)); focus (go_step; exact hk)) | (refine Ord.St.skip 25 [26, 27] _ rfl (by kernel_rfl) ?_ (fun K hK => ?_); (first | rfl | (simp [Region.wanted, yielded, *]; done)); go_simp; refine hK _ ?_; clear hK K)
          first | (refine Ord.St.fl2 (T' := ?_) 26 [27] _ _ rfl (by kernel_rfl) ?_ rfl rfl rfl (fun K w' hk => ?_) ?_; rotate_left; (first | rfl | (simp [Region.wanted, yielded, *]; done)); focus (go_step; exact hk)) | (refine Ord.St.skip 26 [27] _ rfl (by kernel_rfl) ?_ (fun K hK => ?_); (first | rfl | (simp [Region.wanted, yielded, *]; done)); go_simp; refine hK _ ?_; clear hK K)
          refine Ord.St.fl2 (T' := ?_) 27 [] _ _ rfl (by kernel_rfl) rfl rfl rfl rfl (fun K w' hk => ?_) ?_
          rotate_left
          · go_step; exact hk
          refine Ord.St.nil ?_
          go_wp2_with fail
          go_ret
          exact ⟨by rw [rising_not HX.out (.inr h2)]; rfl, HC.out.drew⟩
        · have d2 : decide (65535 < x) = false := decide_eq_false h2
          cases k with
          | zero =>
            have hr1 : rising (m.take (0 + 1)) = true := by
              rw [HT.out]
              exact rising_snoc HR.out (by omega) (fun k y h => by simp at h)
            have HR1 := Lib.hid hr1; clear hr1 h1 h2
            rw [Nat.add_zero] at hcl
            rw [show ((0 : Nat) : Int) = 0 from rfl]
            go_wp2_with fail
            refine Ord.St.door (fun _ => True) [.fl, .fl, .fl, .rd, .fl, .fl, .fl, .fl, .fl, .rd, .fl, .fl, .fl, .fl, .fl, .fl, .fl, .fl, .fl, .rd, .fl, .fl, .fl, .fl, .rd, .fl, .fl, .fl] [0, 0, 3, 7, 15, 31, 63, 63, 255, 511, 1023, 2047, 4095, 8191, 16383, 32767, 65535, 65535, 262143, 524287, 65535, 65535, 2162687, 7405567, 15794175, 33554431, 67108863, 134217727] [0, 1, 2, 3, 4, 5, 6, 7, 8, 9, 10, 11, 12, 13, 14, 15, 16, 17, 18, 19, 20, 21, 22, 23, 24, 25, 26, 27] mixed (by kernel_rfl) rfl ?_
            refine Ord.St.fl2 (T' := ?_) 0 [1, 2, 3, 4, 5, 6, 7, 8, 9, 10, 11, 12, 13, 14, 15, 16, 17, 18, 19, 20, 21, 22, 23, 24, 25, 26, 27] _ _ rfl (by kernel_rfl) rfl rfl rfl rfl (fun K w' hk => ?_) ?_
            rotate_left
            · go_step; exact hk
            refine Ord.St.fl2 (T' := ?_) 1 [2, 3, 4, 5, 6, 7, 8, 9, 10, 11, 12, 13, 14, 15, 16, 17, 18, 19, 20, 21, 22, 23, 24, 25, 26, 27] _ _ rfl (by kernel_rfl) rfl rfl rfl rfl (fun K w' hk => ?_) ?_
            rotate_left
            · go_step; exact hk
            refine Ord.St.fl2 (T' := ?_) 2 [3, 4, 5, 6, 7, 8, 9, 10, 11, 12, 13, 14, 15, 16, 17, 18, 19, 20, 21, 22, 23, 24, 25, 26, 27] _ _ rfl (by kernel_rfl) rfl rfl rfl rfl (fun K w' hk => ?_) ?_
            rotate_left
            · go_step; exact hk
            refine Ord.St.rd2 (T' := ?_) 3 [4, 5, 6, 7, 8, 9, 10, 11, 12, 13, 14, 15, 16, 17, 18, 19, 20, 21, 22, 23, 24, 25, 26, 27] _ _ rfl (by kernel_rfl) rfl rfl rfl rfl (fun K hk => ?_) ?_
            rotate_left
            · go_step; exact hk
            refine Ord.St.fl2 (T' := ?_) 4 [5, 6, 7, 8, 9, 10, 11, 12, 13, 14, 15, 16, 17, 18, 19, 20, 21, 22, 23, 24, 25, 26, 27] _ _ rfl (by kernel_rfl) rfl rfl rfl rfl (fun K w' hk => ?_) ?_
            rotate_left
            · go_step; exact hk
            refine Ord.St.fl2 (T' := ?_) 5 [6, 7, 8, 9, 10, 11, 12, 13, 14, 15, 16, 17, 18, 19, 20, 21, 22, 23, 24, 25, 26, 27] _ _ rfl (by kernel_rfl) rfl rfl rfl rfl (fun K w' hk => ?_) ?_
            rotate_left
            · go_step; exact hk
            first | (refine Ord.St.fl2 (T' := ?_) 6 [7, 8, 9, 10, 11, 12, 13, 14, 15, 16, 17, 18, 19, 20, 21, 22, 23, 24, 25, 26, 27] _ _ rfl (by kernel_rfl) ?_ rfl rfl rfl (fun K w' hk => ?_) ?_; rotate_left; (first | rfl | (simp [Region.wanted, yielded, *]; done)); focus (go_step; exact hk)) | (refine Ord.St.skip 6 [7, 8, 9, 10, 11, 12, 13, 14, 15, 16, 17, 18, 19, 20, 21, 22, 23, 24, 25, 26, 27] _ rfl (by kernel_rfl) ?_ (fun K hK => ?_); (first | rfl | (simp [Region.wanted, yielded, *]; done)); go_simp; refine hK _ ?_; clear hK K)
            first | (refine Ord.St.fl2 (T' := ?_) 7 [8, 9, 10, 11, 12, 13, 14, 15, 16, 17, 18, 19, 20, 21, 22, 23, 24, 25, 26, 27] _ _ rfl (by kernel_rfl) ?_ rfl rfl rfl (fun K w' hk => ?_) ?_; rotate_left; (first | rfl | (simp [Region.wanted, yielded, *]; done)); focus (go_step; exact hk)) | (refine Ord.St.skip 7 [8, 9, 10, 11, 12, 13, 14, 15, 16, 17, 18, 19, 20, 21, 22, 23, 24, 25, 26, 27] _ rfl (by kernel_rfl) ?_ (fun K hK => ?_); (first | rfl | (simp [Region.wanted, yielded, *]; done)); go_simp; refine hK _ ?_; clear hK K)
            first | (refine Ord.St.fl2 (T' := ?_) 8 [9, 10, 11, 12, 13, 14, 15, 16, 17, 18, 19, 20, 21, 22, 23, 24, 25, 26, 27] _ _ rfl (by kernel_rfl) ?_ rfl rfl rfl (fun K w' hk => ?_) ?_; rotate_left; (first | rfl | (simp [Region.wanted, yielded, *]; done)); focus (go_step; exact hk)) | (refine Ord.St.skip 8 [9, 10, 11, 12, 13, 14, 15, 16, 17, 18, 19, 20, 21, 22, 23, 24, 25, 26, 27] _ rfl (by kernel_rfl) ?_ (fun K hK => ?_); (first | rfl | (simp [Region.wanted, yielded, *]; done)); go_simp; refine hK _ ?_; clear hK K)
            first | (refine Ord.St.rd2 (T' := ?_) 9 [10, 11, 12, 13, 14, 15, 16, 17, 18, 19, 20, 21, 22, 23, 24, 25, 26, 27] _ _ rfl (by kernel_rfl) ?_ rfl rfl rfl (fun K hk => ?_) ?_; rotate_left; (first | rfl | (simp [Region.wanted, yielded, *]; done)); focus (go_step; exact hk)) | (refine Ord.St.skipr 9 [10, 11, 12, 13, 14, 15, 16, 17, 18, 19, 20, 21, 22, 23, 24, 25, 26, 27] _ rfl (by kernel_rfl) ?_ (fun K hK => ?_); (first | rfl | (simp [Region.wanted, yielded, *]; done)); go_simp; refine hK _ ?_; clear hK K)
            first | (refine Ord.St.fl2 (T' := ?_) 10 [11, 12, 13, 14, 15, 16, 17, 18, 19, 20, 21, 22, 23, 24, 25, 26, 27] _ _ rfl (by kernel_rfl) ?_ rfl rfl rfl (fun K w' hk => ?_) ?_; rotate_left; (first | rfl | (simp [Region.wanted, yielded, *]; done)); focus (go_step; exact hk)) | (refine Ord.St.skip 10 [11, 12, 13, 14, 15, 16, 17, 18, 19, 20, 21, 22, 23, 24, 25, 26, 27] _ rfl (by kernel_rfl) ?_ (fun K hK => ?_); (first | rfl | (simp [Region.wanted, yielded, *]; done)); go_simp; refine hK _ ?_; clear hK K)
            refine Ord.St.fl2 (T' := ?_) 11 [12, 13, 14, 15, 16, 17, 18, 19, 20, 21, 22, 23, 24, 25, 26, 27] _ _ rfl (by kernel_rfl) rfl rfl rfl rfl (fun K w' hk => ?_) ?_
            rotate_left
            · go_step; exact hk
            refine Ord.St.fl2 (T' := ?_) 12 [13, 14, 15, 16, 17, 18, 19, 20, 21, 22, 23, 24, 25, 26, 27] _ _ rfl (by kernel_rfl) rfl rfl rfl rfl (fun K w' hk => ?_) ?_
            rotate_left
            · go_step; exact hk
            first | (refine Ord.St.fl2 (T' := ?_) 13 [14, 15, 16, 17, 18, 19, 20, 21, 22, 23, 24, 25, 26, 27] _ _ rfl (by kernel_rfl) ?_ rfl rfl rfl (fun K w' hk => ?_) ?_; rotate_left; (first | rfl | (simp [Region.wanted, yielded, *]; done)); focus (go_step; exact hk)) | (refine Ord.St.skip 13 [14, 15, 16, 17, 18, 19, 20, 21, 22, 23, 24, 25, 26, 27] _ rfl (by kernel_rfl) ?_ (fun K hK => ?_); (first | rfl | (simp [Region.wanted, yielded, *]; done)); go_simp; refine hK _ ?_; clear hK K)
            first | (refine Ord.St.fl2 (T' := ?_) 14 [15, 16, 17, 18, 19, 20, 21, 22, 23, 24, 25, 26, 27] _ _ rfl (by kernel_rfl) ?_ rfl rfl rfl (fun K w' hk => ?_) ?_; rotate_left; (first | rfl | (simp [Region.wanted, yielded, *]; done)); focus (go_step; exact hk)) | (refine Ord.St.skip 14 [15, 16, 17, 18, 19, 20, 21, 22, 23, 24, 25, 26, 27] _ rfl (by kernel_rfl) ?_ (fun K hK => ?_); (first | rfl | (simp [Region.wanted, yielded, *]; done)); go_simp; refine hK _ ?_; clear hK K)
            first | (refine Ord.St.fl2 (T' := ?_) 15 [16, 17, 18, 19, 20, 21, 22, 23, 24, 25, 26, 27] _ _ rfl (by kernel_rfl) ?_ rfl rfl rfl (fun K w' hk => ?_) ?_; rotate_left; (first | rfl | (simp [Region.wanted, yielded, *]; done)); focus (go_step; exact hk)) | (refine Ord.St.skip 15 [16, 17, 18, 19, 20, 21, 22, 23, 24, 25, 26, 27] _ rfl (by kernel_rfl) ?_ (fun K hK => ?_); (first | rfl | (simp [Region.wanted, yielded, *]; done)); go_simp; refine hK _ ?_; clear hK K)
            first | (refine Ord.St.fl2 (T' := ?_) 16 [17, 18, 19, 20, 21, 22, 23, 24, 25, 26, 27] _ _ rfl (by kernel_rfl) ?_ rfl rfl rfl (fun K w' hk => ?_) ?_; rotate_left; (first | rfl | (simp [Region.wanted, yielded, *]; done)); focus (go_step; exact hk)) | (refine Ord.St.skip 16 [17, 18, 19, 20, 21, 22, 23, 24, 25, 26, 27] _ rfl (by kernel_rfl) ?_ (fun K hK => ?_); (first | rfl | (simp [Region.wanted, yielded, *]; done)); go_simp; refine hK _ ?_; clear hK K)
            first | (refine Ord.St.fl2 (T' := ?_) 17 [18, 19, 20, 21, 22, 23, 24, 25, 26, 27] _ _ rfl (by kernel_rfl) ?_ rfl rfl rfl (fun K w' hk => ?_) ?_; rotate_left; (first | rfl | (simp [Region.wanted, yielded, *]; done)); focus (go_step; exact hk)) | (refine Ord.St.skip 17 [18, 19, 20, 21, 22, 23, 24, 25, 26, 27] _ rfl (by kernel_rfl) ?_ (fun K hK => ?_); (first | rfl | (simp [Region.wanted, yielded, *]; done)); go_simp; refine hK _ ?_; clear hK K)
            first | (refine Ord.St.fl2 (T' := ?_) 18 [19, 20, 21, 22, 23, 24, 25, 26, 27] _ _ rfl (by kernel_rfl) ?_ rfl rfl rfl (fun K w' hk => ?_) ?_; rotate_left; (first | rfl | (simp [Region.wanted, yielded, *]; done)); focus (go_step; exact hk)) | (refine Ord.St.skip 18 [19, 20, 21, 22, 23, 24, 25, 26, 27] _ rfl (by kernel_rfl) ?_ (fun K hK => ?_); (first | rfl | (simp [Region.wanted, yielded, *]; done)); go_simp; refine hK _ ?_; clear hK K)
            first | (refine Ord.St.rd2 (T' := ?_) 19 [20, 21, 22, 23, 24, 25, 26, 27] _ _ rfl (by kernel_rfl) ?_ rfl rfl rfl (fun K hk => ?_) ?_; rotate_left; (first | rfl | (simp [Region.wanted, yielded, *]; done)); focus (go_step; exact hk)) | (refine Ord.St.skipr 19 [20, 21, 22, 23, 24, 25, 26, 27] _ rfl (by kernel_rfl) ?_ (fun K hK => ?_); (first | rfl | (simp [Region.wanted, yielded, *]; done)); go_simp; refine hK _ ?_; clear hK K)
            first | (refine Ord.St.fl2 (T' := ?_) 20 [21, 22, 23, 24, 25, 26, 27] _ _ rfl (by kernel_rfl) ?_ rfl rfl rfl (fun K w' hk => ?_) ?_; rotate_left; (first | rfl | (simp [Region.wanted, yielded, *]; done)); focus (go_step; exact hk)) | (refine Ord.St.skip 20 [21, 22, 23, 24, 25, 26, 27] _ rfl (by kernel_rfl) ?_ (fun K hK => ?_); (first | rfl | (simp [Region.wanted, yielded, *]; done)); go_simp; refine hK _ ?_; clear hK K)
            first | (refine Ord.St.fl2 (T' := ?_) 21 [22, 23, 24, 25, 26, 27] _ _ rfl (by kernel_rfl) ?_ rfl rfl rfl (fun K w' hk => ?_) ?_; rotate_left; (first | rfl | (simp [Region.wanted, yielded, *]; done)); focus (go_step; exact hk)) | (refine Ord.St.skip 21 [22, 23, 24, 25, 26, 27] _ rfl (by kernel_rfl) ?_ (fun K hK => ?_); (first | rfl | (simp [Region.wanted, yielded, *]; done)); go_simp; refine hK _ ?_; clear hK K)
            first | (refine Ord.St.fl2 (T' := ?_) 22 [23, 24, 25, 26, 27] _ _ rfl (by kernel_rfl) ?_ rfl rfl rfl (fun K w' hk => ?_) ?_; rotate_left; (first | rfl | (simp [Region.wanted, yielded, *]; done)); focus (go_step; exact hk)) | (refine Ord.St.skip 22 [23, 24, 25, 26, 27] _ rfl (by kernel_rfl) ?_ (fun K hK => ?_); (first | rfl | (simp [Region.wanted, yielded, *]; done)); go_simp; refine hK _ ?_; clear hK K)
            first | (refine Ord.St.fl2 (T' := ?_) 23 [24, 25, 26, 27] _ _ rfl (by kernel_rfl) ?_ rfl rfl rfl (fun K w' hk => ?_) ?_; rotate_left; (first | rfl | (simp [Region.wanted, yielded, *]; done)); focus (go_step; exact hk)) | (refine Ord.St.skip 23 [24, 25, 26, 27] _ rfl (by kernel_rfl) ?_ (fun K hK => ?_); (first | rfl | (simp [Region.wanted, yielded, *]; done)); go_simp; refine hK _ ?_; clear hK K)
            first | (refine Ord.St.rd2 (T' := ?_) 24 [25, 26, 27] _ _ rfl (by kernel_rfl) ?_ rfl rfl rfl (fun K hk => ?_) ?_; rotate_left; (first | rfl | (simp [Region.wanted, yielded, *]; done)); focus (go_step; exact hk)) | (refine Ord.St.skipr 24 [25, 26, 27] _ rfl (by kernel_rfl) ?_ (fun K hK => ?_); (first | rfl | (simp [Region.wanted, yielded, *]; done)); go_simp; refine hK _ ?_; clear hK K)
            first | (refine Ord.St.fl2 (T' := ?_) 25 [26, 27] _ _ rfl (by kernel_rfl) ?_ rfl rfl rfl (fun K w' hk => ?_) ?_; rotate_left; (first | rfl | (simp [Region.wanted, yielded, *]; done)); focus (go_step; exact hk)) | (refine Ord.St.skip 25 [26, 27] _ rfl (by kernel_rfl) ?_ (fun K hK => ?_); (first | rfl | (simp [Region.wanted, yielded, *]; done)); go_simp; refine hK _ ?_; clear hK K)
            first | (refine Ord.St.fl2 (T' := ?_) 26 [27] _ _ rfl (by kernel_rfl) ?_ rfl rfl rfl (fun K w' hk => ?_) ?_; rotate_left; (first | rfl | (simp [Region.wanted, yielded, *]; done)); focus (go_step; exact hk)) | (refine Ord.St.skip 26 [27] _ rfl (by kernel_rfl) ?_ (fun K hK => ?_); (first | rfl | (simp [Region.wanted, yielded, *]; done)); go_simp; refine hK _ ?_; clear hK K)
            refine Ord.St.fl2 (T' := ?_) 27 [] _ _ rfl (by kernel_rfl) rfl rfl rfl rfl (fun K w' hk => ?_) ?_
            rotate_left
            · go_step; exact hk
            refine Ord.St.nil ?_
            go_wp2_with fail
            go_roundw
            case rel => exact ⟨1, by omega, by go_num, HC.out.drew, HR1.out⟩
            case measure => simp [intOf]; omega
          | succ j =>
            obtain ⟨y, hy⟩ : ∃ y, m[j]? = some y := ⟨_, List.getElem?_eq_getElem (by have := HN.out; omega)⟩
            obtain ⟨yb, yo, e, hcy⟩ := HSW.out.cells j y hy
            cases e
            by_cases h3 : x ≤ y
            · have d3 : decide (x ≤ y) = true := decide_eq_true h3
              have HY := Lib.hid hy; clear hy
              go_wp2_with fail
              refine Ord.St.door (fun _ => True) [.fl, .fl, .fl, .rd, .fl, .fl, .fl, .fl, .fl, .rd, .fl, .fl, .fl, .fl, .fl, .fl, .fl, .fl, .fl, .rd, .fl, .fl, .fl, .fl, .rd, .fl, .fl, .fl] [0, 0, 3, 7, 15, 31, 63, 63, 255, 511, 1023, 2047, 4095, 8191, 16383, 32767, 65535, 65535, 262143, 524287, 65535, 65535, 2162687, 7405567, 15794175, 33554431, 67108863, 134217727] [0, 1, 2, 3, 4, 5, 6, 7, 8, 9, 10, 11, 12, 13, 14, 15, 16, 17, 18, 19, 20, 21, 22, 23, 24, 25, 26, 27] mixed (by kernel_rfl) rfl ?_
              refine Ord.St.fl2 (T' := ?_) 0 [1, 2, 3, 4, 5, 6, 7, 8, 9, 10, 11, 12, 13, 14, 15, 16, 17, 18, 19, 20, 21, 22, 23, 24, 25, 26, 27] _ _ rfl (by kernel_rfl) rfl rfl rfl rfl (fun K w' hk => ?_) ?_
              rotate_left
              · go_step; exact hk
              refine Ord.St.fl2 (T' := ?_) 1 [2, 3, 4, 5, 6, 7, 8, 9, 10, 11, 12, 13, 14, 15, 16, 17, 18, 19, 20, 21, 22, 23, 24, 25, 26, 27] _ _ rfl (by kernel_rfl) rfl rfl rfl rfl (fun K w' hk => ?_) ?_
              rotate_left
              · go_step; exact hk
              refine Ord.St.fl2 (T' := ?_) 2 [3, 4, 5, 6, 7, 8, 9, 10, 11, 12, 13, 14, 15, 16, 17, 18, 19, 20, 21, 22, 23, 24, 25, 26, 27] _ _ rfl (by kernel_rfl) rfl rfl rfl rfl (fun K w' hk => ?_) ?_
              rotate_left
              · go_step; exact hk
              refine Ord.St.rd2 (T' := ?_) 3 [4, 5, 6, 7, 8, 9, 10, 11, 12, 13, 14, 15, 16, 17, 18, 19, 20, 21, 22, 23, 24, 25, 26, 27] _ _ rfl (by kernel_rfl) rfl rfl rfl rfl (fun K hk => ?_) ?_
              rotate_left
              · go_step; exact hk
              refine Ord.St.fl2 (T' := ?_) 4 [5, 6, 7, 8, 9, 10, 11, 12, 13, 14, 15, 16, 17, 18, 19, 20, 21, 22, 23, 24, 25, 26, 27] _ _ rfl (by kernel_rfl) rfl rfl rfl rfl (fun K w' hk => ?_) ?_
              rotate_left
              · go_step; exact hk
              refine Ord.St.fl2 (T' := ?_) 5 [6, 7, 8, 9, 10, 11, 12, 13, 14, 15, 16, 17, 18, 19, 20, 21, 22, 23, 24, 25, 26, 27] _ _ rfl (by kernel_rfl) rfl rfl rfl rfl (fun K w' hk => ?_) ?_
              rotate_left
              · go_step; exact hk
              first | (refine Ord.St.fl2 (T' := ?_) 6 [7, 8, 9, 10, 11, 12, 13, 14, 15, 16, 17, 18, 19, 20, 21, 22, 23, 24, 25, 26, 27] _ _ rfl (by kernel_rfl) ?_ rfl rfl rfl (fun K w' hk => ?_) ?_; rotate_left; (first | rfl | (simp [Region.wanted, yielded, *]; done)); focus (go_step; exact hk)) | (refine Ord.St.skip 6 [7, 8, 9, 10, 11, 12, 13, 14, 15, 16, 17, 18, 19, 20, 21, 22, 23, 24, 25, 26, 27] _ rfl (by kernel_rfl) ?_ (fun K hK => ?_); (first | rfl | (simp [Region.wanted, yielded, *]; done)); go_simp; refine hK _ ?_; clear hK K)
              first | (refine Ord.St.fl2 (T' := ?_) 7 [8, 9, 10, 11, 12, 13, 14, 15, 16, 17, 18, 19, 20, 21, 22, 23, 24, 25, 26, 27] _ _ rfl (by kernel_rfl) ?_ rfl rfl rfl (fun K w' hk => ?_) ?_; rotate_left; (first | rfl | (simp [Region.wanted, yielded, *]; done)); focus (go_step; exact hk)) | (refine Ord.St.skip 7 [8, 9, 10, 11, 12, 13, 14, 15, 16, 17, 18, 19, 20, 21, 22, 23, 24, 25, 26, 27] _ rfl (by kernel_rfl) ?_ (fun K hK => ?_); (first | rfl | (simp [Region.wanted, yielded, *]; done)); go_simp; refine hK _ ?_; clear hK K)
              first | (refine Ord.St.fl2 (T' := ?_) 8 [9, 10, 11, 12, 13, 14, 15, 16, 17, 18, 19, 20, 21, 22, 23, 24, 25, 26, 27] _ _ rfl (by kernel_rfl) ?_ rfl rfl rfl (fun K w' hk => ?_) ?_; rotate_left; (first | rfl | (simp [Region.wanted, yielded, *]; done)); focus (go_step; exact hk)) | (refine Ord.St.skip 8 [9, 10, 11, 12, 13, 14, 15, 16, 17, 18, 19, 20, 21, 22, 23, 24, 25, 26, 27] _ rfl (by kernel_rfl) ?_ (fun K hK => ?_); (first | rfl | (simp [Region.wanted, yielded, *]; done)); go_simp; refine hK _ ?_; clear hK K)
              first | (refine Ord.St.rd2 (T' := ?_) 9 [10, 11, 12, 13, 14, 15, 16, 17, 18, 19, 20, 21, 22, 23, 24, 25, 26, 27] _ _ rfl (by kernel_rfl) ?_ rfl rfl rfl (fun K hk => ?_) ?_; rotate_left; (first | rfl | (simp [Region.wanted, yielded, *]; done)); focus (go_step; exact hk)) | (refine Ord.St.skipr 9 [10, 11, 12, 13, 14, 15, 16, 17, 18, 19, 20, 21, 22, 23, 24, 25, 26, 27] _ rfl (by kernel_rfl) ?_ (fun K hK => ?_); (first | rfl | (simp [Region.wanted, yielded, *]; done)); go_simp; refine hK _ ?_; clear hK K)
              first | (refine Ord.St.fl2 (T' := ?_) 10 [11, 12, 13, 14, 15, 16, 17, 18, 19, 20, 21, 22, 23, 24, 25, 26, 27] _ _ rfl (by kernel_rfl) ?_ rfl rfl rfl (fun K w' hk => ?_) ?_; rotate_left; (first | rfl | (simp [Region.wanted, yielded, *]; done)); focus (go_step; exact hk)) | (refine Ord.St.skip 10 [11, 12, 13, 14, 15, 16, 17, 18, 19, 20, 21, 22, 23, 24, 25, 26, 27] _ rfl (by kernel_rfl) ?_ (fun K hK => ?_); (first | rfl | (simp [Region.wanted, yielded, *]; done)); go_simp; refine hK _ ?_; clear hK K)
              refine Ord.St.fl2 (T' := ?_) 11 [12, 13, 14, 15, 16, 17, 18, 19, 20, 21, 22, 23, 24, 25, 26, 27] _ _ rfl (by kernel_rfl) rfl rfl rfl rfl (fun K w' hk => ?_) ?_
              rotate_left
              · go_step; exact hk
              refine Ord.St.fl2 (T' := ?_) 12 [13, 14, 15, 16, 17, 18, 19, 20, 21, 22, 23, 24, 25, 26, 27] _ _ rfl (by kernel_rfl) rfl rfl rfl rfl (fun K w' hk => ?_) ?_
              rotate_left
              · go_step; exact hk
              first | (refine Ord.St.fl2 (T' := ?_) 13 [14, 15, 16, 17, 18, 19, 20, 21, 22, 23, 24, 25, 26, 27] _ _ rfl (by kernel_rfl) ?_ rfl rfl rfl (fun K w' hk => ?_) ?_; rotate_left; (first | rfl | (simp [Region.wanted, yielded, *]; done)); focus (go_step; exact hk)) | (refine Ord.St.skip 13 [14, 15, 16, 17, 18, 19, 20, 21, 22, 23, 24, 25, 26, 27] _ rfl (by kernel_rfl) ?_ (fun K hK => ?_); (first | rfl | (simp [Region.wanted, yielded, *]; done)); go_simp; refine hK _ ?_; clear hK K)
              first | (refine Ord.St.fl2 (T' := ?_) 14 [15, 16, 17, 18, 19, 20, 21, 22, 23, 24, 25, 26, 27] _ _ rfl (by kernel_rfl) ?_ rfl rfl rfl (fun K w' hk => ?_) ?_; rotate_left; (first | rfl | (simp [Region.wanted, yielded, *]; done)); focus (go_step; exact hk)) | (refine Ord.St.skip 14 [15, 16, 17, 18, 19, 20, 21, 22, 23, 24, 25, 26, 27] _ rfl (by kernel_rfl) ?_ (fun K hK => ?_); (first | rfl | (simp [Region.wanted, yielded, *]; done)); go_simp; refine hK _ ?_; clear hK K)
              first | (refine Ord.St.fl2 (T' := ?_) 15 [16, 17, 18, 19, 20, 21, 22, 23, 24, 25, 26, 27] _ _ rfl (by kernel_rfl) ?_ rfl rfl rfl (fun K w' hk => ?_) ?_; rotate_left; (first | rfl | (simp [Region.wanted, yielded, *]; done)); focus (go_step; exact hk)) | (refine Ord.St.skip 15 [16, 17, 18, 19, 20, 21, 22, 23, 24, 25, 26, 27] _ rfl (by kernel_rfl) ?_ (fun K hK => ?_); (first | rfl | (simp [Region.wanted, yielded, *]; done)); go_simp; refine hK _ ?_; clear hK K)
              first | (refine Ord.St.fl2 (T' := ?_) 16 [17, 18, 19, 20, 21, 22, 23, 24, 25, 26, 27] _ _ rfl (by kernel_rfl) ?_ rfl rfl rfl (fun K w' hk => ?_) ?_; rotate_left; (first | rfl | (simp [Region.wanted, yielded, *]; done)); focus (go_step; exact hk)) | (refine Ord.St.skip 16 [17, 18, 19, 20, 21, 22, 23, 24, 25, 26, 27] _ rfl (by kernel_rfl) ?_ (fun K hK => ?_); (first | rfl | (simp [Region.wanted, yielded, *]; done)); go_simp; refine hK _ ?_; clear hK K)
              first | (refine Ord.St.fl2 (T' := ?_) 17 [18, 19, 20, 21, 22, 23, 24, 25, 26, 27] _ _ rfl (by kernel_rfl) ?_ rfl rfl rfl (fun K w' hk => ?_) ?_; rotate_left; (first | rfl | (simp [Region.wanted, yielded, *]; done)); focus (go_step; exact hk)) | (refine Ord.St.skip 17 [18, 19, 20, 21, 22, 23, 24, 25, 26, 27] _ rfl (by kernel_rfl) ?_ (fun K hK => ?_); (first | rfl | (simp [Region.wanted, yielded, *]; done)); go_simp; refine hK _ ?_; clear hK K)
              first | (refine Ord.St.fl2 (T' := ?_) 18 [19, 20, 21, 22, 23, 24, 25, 26, 27] _ _ rfl (by kernel_rfl) ?_ rfl rfl rfl (fun K w' hk => ?_) ?_; rotate_left; (first | rfl | (simp [Region.wanted, yielded, *]; done)); focus (go_step; exact hk)) | (refine Ord.St.skip 18 [19, 20, 21, 22, 23, 24, 25, 26, 27] _ rfl (by kernel_rfl) ?_ (fun K hK => ?_); (first | rfl | (simp [Region.wanted, yielded, *]; done)); go_simp; refine hK _ ?_; clear hK K)
              first | (refine Ord.St.rd2 (T' := ?_) 19 [20, 21, 22, 23, 24, 25, 26, 27] _ _ rfl (by kernel_rfl) ?_ rfl rfl rfl (fun K hk => ?_) ?_; rotate_left; (first | rfl | (simp [Region.wanted, yielded, *]; done)); focus (go_step; exact hk)) | (refine Ord.St.skipr 19 [20, 21, 22, 23, 24, 25, 26, 27] _ rfl (by kernel_rfl) ?_ (fun K hK => ?_); (first | rfl | (simp [Region.wanted, yielded, *]; done)); go_simp; refine hK _ ?_; clear hK K)
              first | (refine Ord.St.fl2 (T' := ?_) 20 [21, 22, 23, 24, 25, 26, 27] _ _ rfl (by kernel_rfl) ?_ rfl rfl rfl (fun K w' hk => ?_) ?_; rotate_left; (first | rfl | (simp [Region.wanted, yielded, *]; done)); focus (go_step; exact hk)) | (refine Ord.St.skip 20 [21, 22, 23, 24, 25, 26, 27] _ rfl (by kernel_rfl) ?_ (fun K hK => ?_); (first | rfl | (simp [Region.wanted, yielded, *]; done)); go_simp; refine hK _ ?_; clear hK K)
              first | (refine Ord.St.fl2 (T' := ?_) 21 [22, 23, 24, 25, 26, 27] _ _ rfl (by kernel_rfl) ?_ rfl rfl rfl (fun K w' hk => ?_) ?_; rotate_left; (first | rfl | (simp [Region.wanted, yielded, *]; done)); focus (go_step; exact hk)) | (refine Ord.St.skip 21 [22, 23, 24, 25, 26, 27] _ rfl (by kernel_rfl) ?_ (fun K hK => ?_); (first | rfl | (simp [Region.wanted, yielded, *]; done)); go_simp; refine hK _ ?_; clear hK K)
              first | (refine Ord.St.fl2 (T' := ?_) 22 [23, 24, 25, 26, 27] _ _ rfl (by kernel_rfl) ?_ rfl rfl rfl (fun K w' hk => ?_) ?_; rotate_left; (first | rfl | (simp [Region.wanted, yielded, *]; done)); focus (go_step; exact hk)) | (refine Ord.St.skip 22 [23, 24, 25, 26, 27] _ rfl (by kernel_rfl) ?_ (fun K hK => ?_); (first | rfl | (simp [Region.wanted, yielded, *]; done)); go_simp; refine hK _ ?_; clear hK K)
              first | (refine Ord.St.fl2 (T' := ?_) 23 [24, 25, 26, 27] _ _ rfl (by kernel_rfl) ?_ rfl rfl rfl (fun K w' hk => ?_) ?_; rotate_left; (first | rfl | (simp [Region.wanted, yielded, *]; done)); focus (go_step; exact hk)) | (refine Ord.St.skip 23 [24, 25, 26, 27] _ rfl (by kernel_rfl) ?_ (fun K hK => ?_); (first | rfl | (simp [Region.wanted, yielded, *]; done)); go_simp; refine hK _ ?_; clear hK K)
              first | (refine Ord.St.rd2 (T' := ?_) 24 [25, 26, 27] _ _ rfl (by kernel_rfl) ?_ rfl rfl rfl (fun K hk => ?_) ?_; rotate_left; (first | rfl | (simp [Region.wanted, yielded, *]; done)); focus (go_step; exact hk)) | (refine Ord.St.skipr 24 [25, 26, 27] _ rfl (by kernel_rfl) ?_ (fun K hK => ?_); (first | rfl | (simp [Region.wanted, yielded, *]; done)); go_simp; refine hK _ ?_; clear hK K)
              first | (refine Ord.St.fl2 (T' := ?_) 25 [26, 27] _ _ rfl (by kernel_rfl) ?_ rfl rfl rfl (fun K w' hk => ?_) ?_; rotate_left; (first | rfl | (simp [Region.wanted, yielded, *]; done)); focus (go_step; exact hk)) | (refine Ord.St.skip 25 [26, 27] _ rfl (by kernel_rfl) ?_ (fun K hK => ?_); (first | rfl | (simp [Region.wanted, yielded, *]; done)); go_simp; refine hK _ ?_; clear hK K)
              first | (refine Ord.St.fl2 (T' := ?_) 26 [27] _ _ rfl (by kernel_rfl) ?_ rfl rfl rfl (fun K w' hk => ?_) ?_; rotate_left; (first | rfl | (simp [Region.wanted, yielded, *]; done)); focus (go_step; exact hk)) | (refine Ord.St.skip 26 [27] _ rfl (by kernel_rfl) ?_ (fun K hK => ?_); (first | rfl | (simp [Region.wanted, yielded, *]; done)); go_simp; refine hK _ ?_; clear hK K)
              refine Ord.St.fl2 (T' := ?_) 27 [] _ _ rfl (by kernel_rfl) rfl rfl rfl rfl (fun K w' hk => ?_) ?_
              rotate_left
              · go_step; exact hk
              refine Ord.St.nil ?_
              go_wp2_with fail
              go_ret
              exact ⟨by rw [rising_not2 HY.out HX.out h3]; rfl, HC.out.drew⟩
            · have d3 : decide (x ≤ y) = false := decide_eq_false h3
              have hr1 : rising (m.take (j + 1 + 1)) = true := by
                rw [HT.out]
                refine rising_snoc HR.out (by omega) (fun i z h hz => ?_)
                rw [List.length_take, HN.out] at h
                obtain rfl : i = j := by omega
                rw [List.getElem?_take_of_lt (by omega), hy] at hz
                cases hz
                omega
              have HR1 := Lib.hid hr1; clear hr1 h1 h2 h3 hy
              go_wp2_with fail
              refine Ord.St.door (fun _ => True) [.fl, .fl, .fl, .rd, .fl, .fl, .fl, .fl, .fl, .rd, .fl, .fl, .fl, .fl, .fl, .fl, .fl, .fl, .fl, .rd, .fl, .fl, .fl, .fl, .rd, .fl, .fl, .fl] [0, 0, 3, 7, 15, 31, 63, 63, 255, 511, 1023, 2047, 4095, 8191, 16383, 32767, 65535, 65535, 262143, 524287, 65535, 65535, 2162687, 7405567, 15794175, 33554431, 67108863, 134217727] [0, 1, 2, 3, 4, 5, 6, 7, 8, 9, 10, 11, 12, 13, 14, 15, 16, 17, 18, 19, 20, 21, 22, 23, 24, 25, 26, 27] mixed (by kernel_rfl) rfl ?_
              refine Ord.St.fl2 (T' := ?_) 0 [1, 2, 3, 4, 5, 6, 7, 8, 9, 10, 11, 12, 13, 14, 15, 16, 17, 18, 19, 20, 21, 22, 23, 24, 25, 26, 27] _ _ rfl (by kernel_rfl) rfl rfl rfl rfl (fun K w' hk => ?_) ?_
              rotate_left
              · go_step; exact hk
              refine Ord.St.fl2 (T' := ?_) 1 [2, 3, 4, 5, 6, 7, 8, 9, 10, 11, 12, 13, 14, 15, 16, 17, 18, 19, 20, 21, 22, 23, 24, 25, 26, 27] _ _ rfl (by kernel_rfl) rfl rfl rfl rfl (fun K w' hk => ?_) ?_
              rotate_left
              · go_step; exact hk
              refine Ord.St.fl2 (T' := ?_) 2 [3, 4, 5, 6, 7, 8, 9, 10, 11, 12, 13, 14, 15, 16, 17, 18, 19, 20, 21, 22, 23, 24, 25, 26, 27] _ _ rfl (by kernel_rfl) rfl rfl rfl rfl (fun K w' hk => ?_) ?_
              rotate_left
              · go_step; exact hk
              refine Ord.St.rd2 (T' := ?_) 3 [4, 5, 6, 7, 8, 9, 10, 11, 12, 13, 14, 15, 16, 17, 18, 19, 20, 21, 22, 23, 24, 25, 26, 27] _ _ rfl (by kernel_rfl) rfl rfl rfl rfl (fun K hk => ?_) ?_
              rotate_left
              · go_step; exact hk
              refine Ord.St.fl2 (T' := ?_) 4 [5, 6, 7, 8, 9, 10, 11, 12, 13, 14, 15, 16, 17, 18, 19, 20, 21, 22, 23, 24, 25, 26, 27] _ _ rfl (by kernel_rfl) rfl rfl rfl rfl (fun K w' hk => ?_) ?_
              rotate_left
              · go_step; exact hk
              refine Ord.St.fl2 (T' := ?_) 5 [6, 7, 8, 9, 10, 11, 12, 13, 14, 15, 16, 17, 18, 19, 20, 21, 22, 23, 24, 25, 26, 27] _ _ rfl (by kernel_rfl) rfl rfl rfl rfl (fun K w' hk => ?_) ?_
              rotate_left
              · go_step; exact hk
              first | (refine Ord.St.fl2 (T' := ?_) 6 [7, 8, 9, 10, 11, 12, 13, 14, 15, 16, 17, 18, 19, 20, 21, 22, 23, 24, 25, 26, 27] _ _ rfl (by kernel_rfl) ?_ rfl rfl rfl (fun K w' hk => ?_) ?_; rotate_left; (first | rfl | (simp [Region.wanted, yielded, *]; done)); focus (go_step; exact hk)) | (refine Ord.St.skip 6 [7, 8, 9, 10, 11, 12, 13, 14, 15, 16, 17, 18, 19, 20, 21, 22, 23, 24, 25, 26, 27] _ rfl (by kernel_rfl) ?_ (fun K hK => ?_); (first | rfl | (simp [Region.wanted, yielded, *]; done)); go_simp; refine hK _ ?_; clear hK K)
              first | (refine Ord.St.fl2 (T' := ?_) 7 [8, 9, 10, 11, 12, 13, 14, 15, 16, 17, 18, 19, 20, 21, 22, 23, 24, 25, 26, 27] _ _ rfl (by kernel_rfl) ?_ rfl rfl rfl (fun K w' hk => ?_) ?_; rotate_left; (first | rfl | (simp [Region.wanted, yielded, *]; done)); focus (go_step; exact hk)) | (refine Ord.St.skip 7 [8, 9, 10, 11, 12, 13, 14, 15, 16, 17, 18, 19, 20, 21, 22, 23, 24, 25, 26, 27] _ rfl (by kernel_rfl) ?_ (fun K hK => ?_); (first | rfl | (simp [Region.wanted, yielded, *]; done)); go_simp; refine hK _ ?_; clear hK K)
              first | (refine Ord.St.fl2 (T' := ?_) 8 [9, 10, 11, 12, 13, 14, 15, 16, 17, 18, 19, 20, 21, 22, 23, 24, 25, 26, 27] _ _ rfl (by kernel_rfl) ?_ rfl rfl rfl (fun K w' hk => ?_) ?_; rotate_left; (first | rfl | (simp [Region.wanted, yielded, *]; done)); focus (go_step; exact hk)) | (refine Ord.St.skip 8 [9, 10, 11, 12, 13, 14, 15, 16, 17, 18, 19, 20, 21, 22, 23, 24, 25, 26, 27] _ rfl (by kernel_rfl) ?_ (fun K hK => ?_); (first | rfl | (simp [Region.wanted, yielded, *]; done)); go_simp; refine hK _ ?_; clear hK K)
              first | (refine Ord.St.rd2 (T' := ?_) 9 [10, 11, 12, 13, 14, 15, 16, 17, 18, 19, 20, 21, 22, 23, 24, 25, 26, 27] _ _ rfl (by kernel_rfl) ?_ rfl rfl rfl (fun K hk => ?_) ?_; rotate_left; (first | rfl | (simp [Region.wanted, yielded, *]; done)); focus (go_step; exact hk)) | (refine Ord.St.skipr 9 [10, 11, 12, 13, 14, 15, 16, 17, 18, 19, 20, 21, 22, 23, 24, 25, 26, 27] _ rfl (by kernel_rfl) ?_ (fun K hK => ?_); (first | rfl | (simp [Region.wanted, yielded, *]; done)); go_simp; refine hK _ ?_; clear hK K)
              first | (refine Ord.St.fl2 (T' := ?_) 10 [11, 12, 13, 14, 15, 16, 17, 18, 19, 20, 21, 22, 23, 24, 25, 26, 27] _ _ rfl (by kernel_rfl) ?_ rfl rfl rfl (fun K w' hk => ?_) ?_; rotate_left; (first | rfl | (simp [Region.wanted, yielded, *]; done)); focus (go_step; exact hk)) | (refine Ord.St.skip 10 [11, 12, 13, 14, 15, 16, 17, 18, 19, 20, 21, 22, 23, 24, 25, 26, 27] _ rfl (by kernel_rfl) ?_ (fun K hK => ?_); (first | rfl | (simp [Region.wanted, yielded, *]; done)); go_simp; refine hK _ ?_; clear hK K)
              refine Ord.St.fl2 (T' := ?_) 11 [12, 13, 14, 15, 16, 17, 18, 19, 20, 21, 22, 23, 24, 25, 26, 27] _ _ rfl (by kernel_rfl) rfl rfl rfl rfl (fun K w' hk => ?_) ?_
              rotate_left
              · go_step; exact hk
              refine Ord.St.fl2 (T' := ?_) 12 [13, 14, 15, 16, 17, 18, 19, 20, 21, 22, 23, 24, 25, 26, 27] _ _ rfl (by kernel_rfl) rfl rfl rfl rfl (fun K w' hk => ?_) ?_
              rotate_left
              · go_step; exact hk
              first | (refine Ord.St.fl2 (T' := ?_) 13 [14, 15, 16, 17, 18, 19, 20, 21, 22, 23, 24, 25, 26, 27] _ _ rfl (by kernel_rfl) ?_ rfl rfl rfl (fun K w' hk => ?_) ?_; rotate_left; (first | rfl | (simp [Region.wanted, yielded, *]; done)); focus (go_step; exact hk)) | (refine Ord.St.skip 13 [14, 15, 16, 17, 18, 19, 20, 21, 22, 23, 24, 25, 26, 27] _ rfl (by kernel_rfl) ?_ (fun K hK => ?_); (first | rfl | (simp [Region.wanted, yielded, *]; done)); go_simp; refine hK _ ?_; clear hK K)
              first | (refine Ord.St.fl2 (T' := ?_) 14 [15, 16, 17, 18, 19, 20, 21, 22, 23, 24, 25, 26, 27] _ _ rfl (by kernel_rfl) ?_ rfl rfl rfl (fun K w' hk => ?_) ?_; rotate_left; (first | rfl | (simp [Region.wanted, yielded, *]; done)); focus (go_step; exact hk)) | (refine Ord.St.skip 14 [15, 16, 17, 18, 19, 20, 21, 22, 23, 24, 25, 26, 27] _ rfl (by kernel_rfl) ?_ (fun K hK => ?_); (first | rfl | (simp [Region.wanted, yielded, *]; done)); go_simp; refine hK _ ?_; clear hK K)
              first | (refine Ord.St.fl2 (T' := ?_) 15 [16, 17, 18, 19, 20, 21, 22, 23, 24, 25, 26, 27] _ _ rfl (by kernel_rfl) ?_ rfl rfl rfl (fun K w' hk => ?_) ?_; rotate_left; (first | rfl | (simp [Region.wanted, yielded, *]; done)); focus (go_step; exact hk)) | (refine Ord.St.skip 15 [16, 17, 18, 19, 20, 21, 22, 23, 24, 25, 26, 27] _ rfl (by kernel_rfl) ?_ (fun K hK => ?_); (first | rfl | (simp [Region.wanted, yielded, *]; done)); go_simp; refine hK _ ?_; clear hK K)
              first | (refine Ord.St.fl2 (T' := ?_) 16 [17, 18, 19, 20, 21, 22, 23, 24, 25, 26, 27] _ _ rfl (by kernel_rfl) ?_ rfl rfl rfl (fun K w' hk => ?_) ?_; rotate_left; (first | rfl | (simp [Region.wanted, yielded, *]; done)); focus (go_step; exact hk)) | (refine Ord.St.skip 16 [17, 18, 19, 20, 21, 22, 23, 24, 25, 26, 27] _ rfl (by kernel_rfl) ?_ (fun K hK => ?_); (first | rfl | (simp [Region.wanted, yielded, *]; done)); go_simp; refine hK _ ?_; clear hK K)
              first | (refine Ord.St.fl2 (T' := ?_) 17 [18, 19, 20, 21, 22, 23, 24, 25, 26, 27] _ _ rfl (by kernel_rfl) ?_ rfl rfl rfl (fun K w' hk => ?_) ?_; rotate_left; (first | rfl | (simp [Region.wanted, yielded, *]; done)); focus (go_step; exact hk)) | (refine Ord.St.skip 17 [18, 19, 20, 21, 22, 23, 24, 25, 26, 27] _ rfl (by kernel_rfl) ?_ (fun K hK => ?_); (first | rfl | (simp [Region.wanted, yielded, *]; done)); go_simp; refine hK _ ?_; clear hK K)
              first | (refine Ord.St.fl2 (T' := ?_) 18 [19, 20, 21, 22, 23, 24, 25, 26, 27] _ _ rfl (by kernel_rfl) ?_ rfl rfl rfl (fun K w' hk => ?_) ?_; rotate_left; (first | rfl | (simp [Region.wanted, yielded, *]; done)); focus (go_step; exact hk)) | (refine Ord.St.skip 18 [19, 20, 21, 22, 23, 24, 25, 26, 27] _ rfl (by kernel_rfl) ?_ (fun K hK => ?_); (first | rfl | (simp [Region.wanted, yielded, *]; done)); go_simp; refine hK _ ?_; clear hK K)
              first | (refine Ord.St.rd2 (T' := ?_) 19 [20, 21, 22, 23, 24, 25, 26, 27] _ _ rfl (by kernel_rfl) ?_ rfl rfl rfl (fun K hk => ?_) ?_; rotate_left; (first | rfl | (simp [Region.wanted, yielded, *]; done)); focus (go_step; exact hk)) | (refine Ord.St.skipr 19 [20, 21, 22, 23, 24, 25, 26, 27] _ rfl (by kernel_rfl) ?_ (fun K hK => ?_); (first | rfl | (simp [Region.wanted, yielded, *]; done)); go_simp; refine hK _ ?_; clear hK K)
              first | (refine Ord.St.fl2 (T' := ?_) 20 [21, 22, 23, 24, 25, 26, 27] _ _ rfl (by kernel_rfl) ?_ rfl rfl rfl (fun K w' hk => ?_) ?_; rotate_left; (first | rfl | (simp [Region.wanted, yielded, *]; done)); focus (go_step; exact hk)) | (refine Ord.St.skip 20 [21, 22, 23, 24, 25, 26, 27] _ rfl (by kernel_rfl) ?_ (fun K hK => ?_); (first | rfl | (simp [Region.wanted, yielded, *]; done)); go_simp; refine hK _ ?_; clear hK K)
              first | (refine Ord.St.fl2 (T' := ?_) 21 [22, 23, 24, 25, 26, 27] _ _ rfl (by kernel_rfl) ?_ rfl rfl rfl (fun K w' hk => ?_) ?_; rotate_left; (first | rfl | (simp [Region.wanted, yielded, *]; done)); focus (go_step; exact hk)) | (refine Ord.St.skip 21 [22, 23, 24, 25, 26, 27] _ rfl (by kernel_rfl) ?_ (fun K hK => ?_); (first | rfl | (simp [Region.wanted, yielded, *]; done)); go_simp; refine hK _ ?_; clear hK K)
              first | (refine Ord.St.fl2 (T' := ?_) 22 [23, 24, 25, 26, 27] _ _ rfl (by kernel_rfl) ?_ rfl rfl rfl (fun K w' hk => ?_) ?_; rotate_left; (first | rfl | (simp [Region.wanted, yielded, *]; done)); focus (go_step; exact hk)) | (refine Ord.St.skip 22 [23, 24, 25, 26, 27] _ rfl (by kernel_rfl) ?_ (fun K hK => ?_); (first | rfl | (simp [Region.wanted, yielded, *]; done)); go_simp; refine hK _ ?_; clear hK K)
              first | (refine Ord.St.fl2 (T' := ?_) 23 [24, 25, 26, 27] _ _ rfl (by kernel_rfl) ?_ rfl rfl rfl (fun K w' hk => ?_) ?_; rotate_left; (first | rfl | (simp [Region.wanted, yielded, *]; done)); focus (go_step; exact hk)) | (refine Ord.St.skip 23 [24, 25, 26, 27] _ rfl (by kernel_rfl) ?_ (fun K hK => ?_); (first | rfl | (simp [Region.wanted, yielded, *]; done)); go_simp; refine hK _ ?_; clear hK K)
              first | (refine Ord.St.rd2 (T' := ?_) 24 [25, 26, 27] _ _ rfl (by kernel_rfl) ?_ rfl rfl rfl (fun K hk => ?_) ?_; rotate_left; (first | rfl | (simp [Region.wanted, yielded, *]; done)); focus (go_step; exact hk)) | (refine Ord.St.skipr 24 [25, 26, 27] _ rfl (by kernel_rfl) ?_ (fun K hK => ?_); (first | rfl | (simp [Region.wanted, yielded, *]; done)); go_simp; refine hK _ ?_; clear hK K)
              first | (refine Ord.St.fl2 (T' := ?_) 25 [26, 27] _ _ rfl (by kernel_rfl) ?_ rfl rfl rfl (fun K w' hk => ?_) ?_; rotate_left; (first | rfl | (simp [Region.wanted, yielded, *]; done)); focus (go_step; exact hk)) | (refine Ord.St.skip 25 [26, 27] _ rfl (by kernel_rfl) ?_ (fun K hK => ?_); (first | rfl | (simp [Region.wanted, yielded, *]; done)); go_simp; refine hK _ ?_; clear hK K)
              first | (refine Ord.St.fl2 (T' := ?_) 26 [27] _ _ rfl (by kernel_rfl) ?_ rfl rfl rfl (fun K w' hk => ?_) ?_; rotate_left; (first | rfl | (simp [Region.wanted, yielded, *]; done)); focus (go_step; exact hk)) | (refine Ord.St.skip 26 [27] _ rfl (by kernel_rfl) ?_ (fun K hK => ?_); (first | rfl | (simp [Region.wanted, yielded, *]; done)); go_simp; refine hK _ ?_; clear hK K)
              refine Ord.St.fl2 (T' := ?_) 27 [] _ _ rfl (by kernel_rfl) rfl rfl rfl rfl (fun K w' hk => ?_) ?_
              rotate_left
              · go_step; exact hk
              refine Ord.St.nil ?_
              go_wp2_with fail
              go_roundw
              case rel => exact ⟨j + 2, by omega, by go_num, HC.out.drew, HR1.out⟩
              case measure => simp [intOf]; omega
    · have hkn : k = n := by omega
      subst hkn
      rw [List.take_of_length_le (by have := HN.out; omega)] at hr
      have HR := Lib.hid hr; clear hr
      go_wp2_with fail
      go_ret
      exact ⟨by rw [HR.out]; rfl, HC.out⟩
end Go.Proofs.Ytkedpifopclipaa
namespace Go.Proofs.Ytkedpifopclipaa
open Go.RowKit Go.Mem Go.Aig
set_option maxRecDepth 100000 in
set_option maxHeartbeats 4000000 in
theorem r27Lit_is {w : World} {a : Option Addr} {m : List Int} (n c : Nat) (hn : m.length = n) (hnl : n ≤ 1000000) (hS : Sl w a m) (r : Int) (hr : -9223372036854775808 ≤ r ∧ r ≤ 9223372036854775807) :
    Calls Try.prog 153 #[.slice a n c, .int .i64 r] w fun e w' => e = .returned (.int .i64 (litF m r)) ∧ Ch [] w w' := by
  have HRI := Lib.hid (r27Rising_is n c hn hnl hS)
  obtain ⟨E, hE⟩ : ∃ E, litF m r = E := ⟨_, rfl⟩
  rw [hE]
  have HE := Lib.hid hE; clear hE
  have HS := Lib.hid hS; clear hS
  have HN := Lib.hid hn; clear hn
  go_enter Try.func153, Try.ntmps153
  go_wp2_with fail
  refine HRI.out.mono ?_
  rintro e w1 ⟨rfl, hc1⟩
  have HC1 := Lib.hid hc1; clear hc1 HRI
  cases hri : rising m
  · have hz : E = 0 := by rw [← HE.out]; unfold litF; rw [if_neg (by rw [hri]; simp)]
    subst hz
    clear hri
    go_wp2_with fail
    go_ret
    exact ⟨rfl, HC1.out⟩
  by_cases h0 : r < 0
  · have hz : E = 0 := by rw [← HE.out]; unfold litF; rw [if_neg (by omega)]
    have d1 : decide (r < 0) = true := decide_eq_true h0
    subst hz
    clear hri
    go_wp2_with fail
    go_ret
    exact ⟨rfl, HC1.out⟩
  have hz : E = litOf m r := by rw [← HE.out]; unfold litF; rw [if_pos ⟨hri, by omega⟩]
  have d1 : decide (r < 0) = false := decide_eq_false h0
  obtain ⟨q, hq⟩ : ∃ q, r / 2 = q := ⟨_, rfl⟩
  have hq0 : 0 ≤ q ∧ q ≤ 9223372036854775807 := by omega
  have hp := ((rising_iff m).1 hri).2
  have HEZ := Lib.hid hz
  have HP := Lib.hid hp; clear hp hz hri HE
  have HQ := Lib.hid hq
  go_wp2_with fail
  go_loopw [5] (fun i wr => ∃ k : Nat, k ≤ n ∧ i = .int .i64 k ∧ Ch [] w wr ∧ ∀ j, j < k → m[j]? ≠ some q) (fun i _ => n - (intOf i).toNat)
  case atStart => exact ⟨0, by omega, rfl, HC1.out, fun j h => by omega⟩
  case round =>
    clear HC1
    obtain ⟨k, hk, rfl, hc, hno⟩ := hrel
    have HSW := Lib.hid (HS.out.ch hc (by simp))
    have HC := Lib.hid hc; clear hc
    have HNO := Lib.hid hno; clear hno
    have d5 : decide ((k : Int) < 1048576) = true := decide_eq_true (by omega)
    by_cases hlt : k < n
    · obtain ⟨x, hx⟩ : ∃ x, m[k]? = some x := ⟨_, List.getElem?_eq_getElem (by have := HN.out; omega)⟩
      obtain ⟨xb, xo, rfl, hcl⟩ := HSW.out.cells k x hx
      have HX := Lib.hid hx; clear hx
      by_cases h1 : x = q
      · have hv : varOf m (r / 2) = k + 1 := varOf_at HP.out (by rw [HX.out, h1, HQ.out])
        have d2 : (x == q) = true := by rw [h1]; simp
        by_cases h2 : r % 2 = 1
        · have d3 : (r % 2 == 1) = true := by rw [h2]; rfl
          have hz : litOf m r = -(k : Int) - 1 := by unfold litOf; rw [if_pos h2, hv]; omega
          have HZ := Lib.hid hz; clear hz hv h1
          go_wp2_with fail
          go_ret
          exact ⟨by rw [HEZ.out, HZ.out]; rfl, HC.out⟩
        · have d3 : (r % 2 == 1) = false := by rw [beq_eq_false_iff_ne]; exact h2
          have hz : litOf m r = (k : Int) + 1 := by unfold litOf; rw [if_neg h2, hv]; omega
          have HZ := Lib.hid hz; clear hz hv h1
          go_wp2_with fail
          go_ret
          exact ⟨by rw [HEZ.out, HZ.out]; rfl, HC.out⟩
      · have d2 : (x == q) = false := by rw [beq_eq_false_iff_ne]; exact h1
        go_wp2_with fail
        go_roundw
        case rel =>
          refine ⟨k + 1, by omega, by go_num, HC.out, fun j h => ?_⟩
          by_cases e : j = k
          · subst e; rw [HX.out]; simpa using h1
          · exact HNO.out j (by omega)
        case measure => simp [intOf]; omega
    · have hkn : k = n := by omega
      subst hkn
      have hz : litOf m r = 0 := (litOf_zero m r).2 (varOf_none (fun h => by
        obtain ⟨i, hi⟩ := List.getElem?_of_mem h
        have h5 := (List.getElem?_eq_some_iff.1 hi).1
        exact HNO.out i (by rw [← HN.out]; exact h5) (by rw [hi, HQ.out])))
      have HZ := Lib.hid hz; clear hz
      go_wp2_with fail
      go_ret
      exact ⟨by rw [HEZ.out, HZ.out]; rfl, HC.out⟩
end Go.Proofs.Ytkedpifopclipaa
namespace Go.Aig
theorem refF_no {m : List Int} {l : Int} (h : rising m = false ∨ l.natAbs < 1 ∨ m.length < l.natAbs ∨ 1048576 < l.natAbs) : refF m l = -1 := by
  unfold refF
  rw [if_neg]
  rintro ⟨h1, h2, h3, h4⟩
  rcases h with h | h | h | h
  · rw [h1] at h; cases h
  all_goals omega
theorem refF_yes {m : List Int} {l : Int} {j : Nat} {x : Int} (hr : rising m = true) (ha : l.natAbs = j + 1) (hx : m[j]? = some x) (hb : j < 1048576) : refF m l = 2 * x + (if l < 0 then 1 else 0) := by
  unfold refF
  have h5 := (List.getElem?_eq_some_iff.1 hx).1
  rw [if_pos ⟨hr, by omega, by omega, by omega⟩, ha, Nat.add_sub_cancel, List.getD_eq_getElem?_getD, hx]
  rfl
end Go.Aig
namespace Go.Proofs.Ytkedpifopclipaa
open Go.RowKit Go.Mem Go.Aig
set_option maxRecDepth 100000 in
set_option maxHeartbeats 4000000 in
theorem r27Ref_pos {w : World} {a : Option Addr} {m : List Int} (n c : Nat) (hn : m.length = n) (hnl : n ≤ 1000000) (hS : Sl w a m) (A : Nat) (hA : A ≤ 9223372036854775807) :
    Calls Try.prog 158 #[.slice a n c, .int .i64 ((A : Int))] w fun e w' => e = .returned (.int .i64 (refF m ((A : Int)))) ∧ Ch [] w w' := by
  have HRI := Lib.hid (r27Rising_is n c hn hnl hS)
  obtain ⟨E, hE⟩ : ∃ E, refF m ((A : Int)) = E := ⟨_, rfl⟩
  rw [hE]
  have hab : (((A : Int)) : Int).natAbs = A := by omega
  have HAB := Lib.hid hab; clear hab
  have HE := Lib.hid hE; clear hE
  have HS := Lib.hid hS; clear hS
  have HN := Lib.hid hn; clear hn
  have dn : decide (((A : Int)) < (0 : Int)) = false := by exact decide_eq_false (by omega)
  go_enter Try.func158, Try.ntmps158
  go_wp2_with fail
  refine HRI.out.mono ?_
  rintro e w1 ⟨rfl, hc1⟩
  have HC1 := Lib.hid hc1; clear hc1 HRI
  cases hri : rising m
  · have hz : E = -1 := by rw [← HE.out]; exact refF_no (.inl hri)
    subst hz
    clear hri
    go_wp2_with fail
    go_ret
    exact ⟨rfl, HC1.out⟩
  by_cases h1 : A < 1
  · have hz : E = -1 := by rw [← HE.out]; exact refF_no (.inr (.inl (by rw [HAB.out]; exact h1)))
    have d1 : decide ((A : Int) < 1) = true := decide_eq_true (by omega)
    subst hz
    clear hri
    go_wp2_with fail
    go_ret
    exact ⟨rfl, HC1.out⟩
  have d1 : decide ((A : Int) < 1) = false := decide_eq_false (by omega)
  by_cases h2 : n < A
  · have hz : E = -1 := by rw [← HE.out]; exact refF_no (.inr (.inr (.inl (by rw [HAB.out, HN.out]; exact h2))))
    have d2 : decide ((n : Int) < (A : Int)) = true := decide_eq_true (by omega)
    subst hz
    clear hri
    go_wp2_with fail
    go_ret
    exact ⟨rfl, HC1.out⟩
  have d2 : decide ((n : Int) < (A : Int)) = false := decide_eq_false (by omega)
  have d3 : decide ((1048576 : Int) < (A : Int)) = false := decide_eq_false (by omega)
  clear d1 d2 d3
  have hjn : A - 1 < n := by omega
  obtain ⟨j, rfl⟩ : ∃ j, A = j + 1 := ⟨A - 1, by omega⟩
  rw [Nat.add_sub_cancel] at hjn
  have d1 : decide ((j : Int) + 1 < 1) = false := decide_eq_false (by omega)
  have d2 : decide ((n : Int) < (j : Int) + 1) = false := decide_eq_false (by omega)
  have d3 : decide ((1048576 : Int) < (j : Int) + 1) = false := decide_eq_false (by omega)
  obtain ⟨x, hx⟩ : ∃ x, m[j]? = some x := ⟨_, List.getElem?_eq_getElem (by have := HN.out; omega)⟩
  have hxb := ((rising_iff m).1 hri).1 x (List.mem_of_getElem? hx)
  have hz : E = 2 * x + 0 := by
    rw [← HE.out, refF_yes hri HAB.out hx (by omega)]
    rw [if_neg (by omega)]
  obtain ⟨xb, xo, rfl, hcl⟩ := (HS.out.ch HC1.out (by simp)).cells j x hx
  have HZ := Lib.hid hz; clear hz hx hri h1 h2
  go_wp2_with fail
  go_ret
  exact ⟨by rw [HZ.out]; simp, HC1.out⟩
set_option maxRecDepth 100000 in
set_option maxHeartbeats 4000000 in
theorem r27Ref_neg {w : World} {a : Option Addr} {m : List Int} (n c : Nat) (hn : m.length = n) (hnl : n ≤ 1000000) (hS : Sl w a m) (A : Nat) (hA : 0 < A ∧ A ≤ 9223372036854775807) :
    Calls Try.prog 158 #[.slice a n c, .int .i64 (-(A : Int))] w fun e w' => e = .returned (.int .i64 (refF m (-(A : Int)))) ∧ Ch [] w w' := by
  have HRI := Lib.hid (r27Rising_is n c hn hnl hS)
  obtain ⟨E, hE⟩ : ∃ E, refF m (-(A : Int)) = E := ⟨_, rfl⟩
  rw [hE]
  have hab : ((-(A : Int)) : Int).natAbs = A := by omega
  have HAB := Lib.hid hab; clear hab
  have HE := Lib.hid hE; clear hE
  have HS := Lib.hid hS; clear hS
  have HN := Lib.hid hn; clear hn
  have dn : decide ((-(A : Int)) < (0 : Int)) = true := by exact decide_eq_true (by omega)
  go_enter Try.func158, Try.ntmps158
  go_wp2_with fail
  refine HRI.out.mono ?_
  rintro e w1 ⟨rfl, hc1⟩
  have HC1 := Lib.hid hc1; clear hc1 HRI
  cases hri : rising m
  · have hz : E = -1 := by rw [← HE.out]; exact refF_no (.inl hri)
    subst hz
    clear hri
    go_wp2_with fail
    go_ret
    exact ⟨rfl, HC1.out⟩
  by_cases h1 : A < 1
  · have hz : E = -1 := by rw [← HE.out]; exact refF_no (.inr (.inl (by rw [HAB.out]; exact h1)))
    have d1 : decide ((A : Int) < 1) = true := decide_eq_true (by omega)
    subst hz
    clear hri
    go_wp2_with fail
    go_ret
    exact ⟨rfl, HC1.out⟩
  have d1 : decide ((A : Int) < 1) = false := decide_eq_false (by omega)
  by_cases h2 : n < A
  · have hz : E = -1 := by rw [← HE.out]; exact refF_no (.inr (.inr (.inl (by rw [HAB.out, HN.out]; exact h2))))
    have d2 : decide ((n : Int) < (A : Int)) = true := decide_eq_true (by omega)
    subst hz
    clear hri
    go_wp2_with fail
    go_ret
    exact ⟨rfl, HC1.out⟩
  have d2 : decide ((n : Int) < (A : Int)) = false := decide_eq_false (by omega)
  have d3 : decide ((1048576 : Int) < (A : Int)) = false := decide_eq_false (by omega)
  clear d1 d2 d3
  have hjn : A - 1 < n := by omega
  obtain ⟨j, rfl⟩ : ∃ j, A = j + 1 := ⟨A - 1, by omega⟩
  rw [Nat.add_sub_cancel] at hjn
  have d1 : decide ((j : Int) + 1 < 1) = false := decide_eq_false (by omega)
  have d2 : decide ((n : Int) < (j : Int) + 1) = false := decide_eq_false (by omega)
  have d3 : decide ((1048576 : Int) < (j : Int) + 1) = false := decide_eq_false (by omega)
  obtain ⟨x, hx⟩ : ∃ x, m[j]? = some x := ⟨_, List.getElem?_eq_getElem (by have := HN.out; omega)⟩
  have hxb := ((rising_iff m).1 hri).1 x (List.mem_of_getElem? hx)
  have hz : E = 2 * x + 1 := by
    rw [← HE.out, refF_yes hri HAB.out hx (by omega)]
    rw [if_pos (by omega)]
  obtain ⟨xb, xo, rfl, hcl⟩ := (HS.out.ch HC1.out (by simp)).cells j x hx
  have HZ := Lib.hid hz; clear hz hx hri h1 h2
  go_wp2_with fail
  go_ret
  exact ⟨by rw [HZ.out]; rfl, HC1.out⟩
end Go.Proofs.Ytkedpifopclipaa
namespace Go.Proofs.Ytkedpifopclipaa
open Go.RowKit Go.Mem Go.Aig
set_option maxRecDepth 100000 in
set_option maxHeartbeats 4000000 in
theorem r27Right_is {w : World} {rb cap : Nat} {G : Gra} (h : RG w rb cap G) {a : Option Addr} {m : List Int} (n c : Nat) (hn : m.length = n) (hnl : n ≤ 100000) (hS : Sl w a m) :
    Calls Try.prog 97 #[.agg #[.int .i64 G.most, .slice (some ⟨rb, 0, none⟩) G.nodes.length cap], .slice a n c] w fun e w' => e = .returned (.bool (rightM G.nodes m)) ∧ Ch [] w w' := by
  obtain ⟨hl, hp, hmo⟩ := h.len
  have hle0 := h.le
  have hmx := h.mx
  have hrl := h.lt
  have hri := fun (W : World) (hc : Ch [] w W) => r27Rising_is (w := W) n c hn (by omega) (hS.ch hc (by simp))
  have hlit := fun (W : World) (hc : Ch [] w W) (r : Int) (hr : -9223372036854775808 ≤ r ∧ r ≤ 9223372036854775807) => r27Lit_is (w := W) n c hn (by omega) (hS.ch hc (by simp)) r hr
  have hside := fun (j : Nat) (x : Nd) (hx : G.nodes[j]? = some x) => side_of h.ok.wf hx
  have hsd := fun (j : Nat) (x : Nd) (hx : G.nodes[j]? = some x) (h3 : x.k = 3) => h.ok.wf.sides hx h3
  obtain ⟨RM, hrm⟩ : ∃ RM, rightM G.nodes m = RM := ⟨_, rfl⟩
  have hrm2 := rightM_eq G.nodes m
  rw [hrm] at hrm2 ⊢
  have HRM := Lib.hid hrm2; clear hrm2 hrm
  have H := Lib.hid h; clear h
  have HS := Lib.hid hS; clear hS
  have HN := Lib.hid hn; clear hn
  have HRI := Lib.hid hri; clear hri
  have HLIT := Lib.hid hlit; clear hlit
  have HSIDE := Lib.hid hside; clear hside
  have HSD := Lib.hid hsd; clear hsd
  go_enter Try.func97, Try.ntmps97
  go_wp2_with fail
  refine calls_named fun W0 hW0 => ?_
  have b2 := alw_blk (xs := [.int .i64 G.most, .slice (some ⟨rb, 0, none⟩) G.nodes.length cap]) hW0
  have hc0 := alw_ch hW0
  clear hW0
  obtain ⟨bx, hbx⟩ : ∃ bx, bx = w.heap.size := ⟨_, rfl⟩
  rw [← hbx] at b2 ⊢
  have hbr : ¬ rb = bx := by omega
  clear hbx
  refine (HRI.out W0 hc0).mono ?_
  rintro e w1 ⟨rfl, hc1⟩
  have B2 := Lib.hid (b2.ch hc1 (by simp)); clear b2
  have HC1 := Lib.hid (hc0.trans hc1 (by simp)); clear hc1 hc0 HRI
  cases hri : rising m
  · have hz : RM = false := by rw [HRM.out, hri]; rfl
    subst hz
    clear hri
    go_wp2_with fail
    go_ret
    exact ⟨rfl, HC1.out⟩
  have hrp := ((rising_iff m).1 hri).1
  have hRM : RM = m.all (rightAt G.nodes m) := by rw [HRM.out, hri]; rfl
  have HRP := Lib.hid hrp; clear hrp hri HRM
  have HRM := Lib.hid hRM; clear hRM
  go_wp2_with fail
  go_loopw [5] (fun i wr => ∃ k : Nat, k ≤ n ∧ i = .int .i64 k ∧ Ch [] w1 wr ∧ (m.take k).all (rightAt G.nodes m) = true) (fun i _ => n - (intOf i).toNat)
  case atStart => exact ⟨0, by omega, rfl, Ch.refl _ _, by simp⟩
  case round =>
    obtain ⟨k, hk, rfl, hc, hall⟩ := hrel
    by_cases hlt : k < n
    · obtain ⟨x, hx⟩ : ∃ x, m[k]? = some x := ⟨_, List.getElem?_eq_getElem (by have := HN.out; omega)⟩
      have hxb := HRP.out x (List.mem_of_getElem? hx)
      have hno : rightAt G.nodes m x = false → RM = false := fun h9 => by
        rw [HRM.out, ← Bool.not_eq_true, List.all_eq_true]
        intro h8
        have := h8 x (List.mem_of_getElem? hx)
        rw [h9] at this
        cases this
      have htk : rightAt G.nodes m x = true → (m.take (k + 1)).all (rightAt G.nodes m) = true := fun h9 => by
        rw [List.take_add_one, hx, List.all_append, hall]
        simp [h9]
      have hcw := HC1.out.trans hc (by simp)
      obtain ⟨xb, xo, rfl, c9⟩ := (HS.out.ch hcw (by simp)).cells k x hx
      obtain ⟨nd, rfl⟩ : ∃ nd : Nat, x = (nd : Int) := ⟨x.toNat, by omega⟩
      have y1 := (B2.out.ch hc (by simp)).cell (i := 1) rfl
      have HNO := Lib.hid hno; clear hno
      have HTK := Lib.hid htk; clear htk hall
      have HC := Lib.hid hc; clear hc
      by_cases hnl2 : nd < G.nodes.length
      · obtain ⟨z, hz⟩ : ∃ z, G.nodes[nd]? = some z := ⟨_, List.getElem?_eq_getElem hnl2⟩
        obtain ⟨e0, e1, e2⟩ := (H.out.ch hcw (by simp)).node hz
        obtain ⟨s1, s2⟩ := HSIDE.out nd z hz
        have hsd := HSD.out nd z hz
        have hrat : rightAt G.nodes m (nd : Int) = (!isAndAt G.nodes (2 * (nd : Int)) || litF m (lOf G.nodes (2 * (nd : Int))) != 0 && litF m (rOf G.nodes (2 * (nd : Int))) != 0) := by
          unfold rightAt
          rw [decide_eq_true (by omega), Bool.true_and]
        rw [s1] at hrat
        have d3 : decide (G.nodes.length ≤ nd) = false := decide_eq_false (by omega)
        have HZ := Lib.hid hz; clear hz hx
        have HCW := Lib.hid hcw; clear hcw
        have HRAT := Lib.hid hrat; clear hrat
        have HS1 := Lib.hid s1; clear s1
        have HS2 := Lib.hid s2; clear s2
        have HSDX := Lib.hid hsd; clear hsd
        go_wp2_with fail
        refine Ord.St.door (fun _ => True) [.fl, .fl, .fl, .rd, .fl, .rd, .rd, .fl] [0, 0, 3, 7, 0, 16, 48, 127] [0, 1, 2, 3, 4, 5, 6, 7] mixed (by kernel_rfl) rfl ?_
        refine Ord.St.fl2 (T' := ?_) 0 [1, 2, 3, 4, 5, 6, 7] _ _ rfl (by kernel_rfl) rfl rfl rfl rfl (fun K w' hk => ?_) ?_
        rotate_left
        · go_step; exact hk
        refine Ord.St.fl2 (T' := ?_) 1 [2, 3, 4, 5, 6, 7] _ _ rfl (by kernel_rfl) rfl rfl rfl rfl (fun K w' hk => ?_) ?_
        rotate_left
        · go_step; exact hk
        refine Ord.St.fl2 (T' := ?_) 2 [3, 4, 5, 6, 7] _ _ rfl (by kernel_rfl) rfl rfl rfl rfl (fun K w' hk => ?_) ?_
        rotate_left
        · go_step; exact hk
        refine Ord.St.rd2 (T' := ?_) 3 [4, 5, 6, 7] _ _ rfl (by kernel_rfl) rfl rfl rfl rfl (fun K hk => ?_) ?_
        rotate_left
        · go_step; exact hk
        refine Ord.St.fl2 (T' := ?_) 4 [5, 6, 7] _ _ rfl (by kernel_rfl) rfl rfl rfl rfl (fun K w' hk => ?_) ?_
        rotate_left
        · go_step; exact hk
        refine Ord.St.rd2 (T' := ?_) 5 [6, 7] _ _ rfl (by kernel_rfl) rfl rfl rfl rfl (fun K hk => ?_) ?_
        rotate_left
        · go_step; exact hk
        refine Ord.St.rd2 (T' := ?_) 6 [7] _ _ rfl (by kernel_rfl) rfl rfl rfl rfl (fun K hk => ?_) ?_
        rotate_left
        · go_step; exact hk
        refine Ord.St.fl2 (T' := ?_) 7 [] _ _ rfl (by kernel_rfl) rfl rfl rfl rfl (fun K w' hk => ?_) ?_
        rotate_left
        · go_step; exact hk
        refine Ord.St.nil ?_
        go_wp2_with fail
        refine Ord.St.door (fun w' => Ch [] wr w') [.fl, .ho, .fl, .fl, .fl, .ho, .fl, .ho, .ef, .ef] [0, 1, 0, 0, 12, 28, 63, 127, 0, 511] [0, 1, 2, 3, 4, 5, 6, 7, 8, 9] mixed (by kernel_rfl) rfl ?_
        refine Ord.St.fl2 (T' := ?_) 0 [1, 2, 3, 4, 5, 6, 7, 8, 9] _ _ rfl (by kernel_rfl) rfl rfl rfl rfl (fun K w' hk => ?_) ?_
        rotate_left
        · go_step; exact hk
        refine Ord.St.ho2 (T' := ?_) 1 [2, 3, 4, 5, 6, 7, 8, 9] _ _ rfl (by kernel_rfl) rfl rfl rfl rfl ?_ (fun K w' hw' hk => ?_) ?_
        rotate_left
        · first | exact (Ch.refl _ _).drew | exact (Ch.refl _ _).drew.drew | exact ((Ch.refl _ _).alloc _).drew.drew | exact (((Ch.refl _ _).drew).drew).alloc _ | exact ((Ch.refl _ _).drew).alloc _
        · have y1' := (hw'.cell (cell_lt y1) (by simp)).trans y1; have c9' := (hw'.cell (cell_lt c9) (by simp)).trans c9; have e0' := (hw'.cell (cell_lt e0) (by simp)).trans e0; have e1' := (hw'.cell (cell_lt e1) (by simp)).trans e1; have e2' := (hw'.cell (cell_lt e2) (by simp)).trans e2; go_step; exact hk
        refine Ord.St.fl2 (T' := ?_) 2 [3, 4, 5, 6, 7, 8, 9] _ _ rfl (by kernel_rfl) rfl rfl rfl rfl (fun K w' hk => ?_) ?_
        rotate_left
        · go_step; exact hk
        refine Ord.St.fl2 (T' := ?_) 3 [4, 5, 6, 7, 8, 9] _ _ rfl (by kernel_rfl) rfl rfl rfl rfl (fun K w' hk => ?_) ?_
        rotate_left
        · go_step; exact hk
        refine Ord.St.fl2 (T' := ?_) 4 [5, 6, 7, 8, 9] _ _ rfl (by kernel_rfl) rfl rfl rfl rfl (fun K w' hk => ?_) ?_
        rotate_left
        · go_step; exact hk
        refine Ord.St.ho2 (T' := ?_) 5 [6, 7, 8, 9] _ _ rfl (by kernel_rfl) rfl rfl rfl rfl ?_ (fun K w' hw' hk => ?_) ?_
        rotate_left
        · first | exact (Ch.refl _ _).drew | exact (Ch.refl _ _).drew.drew | exact ((Ch.refl _ _).alloc _).drew.drew | exact (((Ch.refl _ _).drew).drew).alloc _ | exact ((Ch.refl _ _).drew).alloc _
        · have y1' := (hw'.cell (cell_lt y1) (by simp)).trans y1; have c9' := (hw'.cell (cell_lt c9) (by simp)).trans c9; have e0' := (hw'.cell (cell_lt e0) (by simp)).trans e0; have e1' := (hw'.cell (cell_lt e1) (by simp)).trans e1; have e2' := (hw'.cell (cell_lt e2) (by simp)).trans e2; go_step; exact hk
        refine Ord.St.fl2 (T' := ?_) 6 [7, 8, 9] _ _ rfl (by kernel_rfl) rfl rfl rfl rfl (fun K w' hk => ?_) ?_
        rotate_left
        · go_step; exact hk
        refine Ord.St.ho2 (T' := ?_) 7 [8, 9] _ _ rfl (by kernel_rfl) rfl rfl rfl rfl ?_ (fun K w' hw' hk => ?_) ?_
        rotate_left
        · first | exact (Ch.refl _ _).drew | exact (Ch.refl _ _).drew.drew | exact ((Ch.refl _ _).alloc _).drew.drew | exact (((Ch.refl _ _).drew).drew).alloc _ | exact ((Ch.refl _ _).drew).alloc _
        · have y1' := (hw'.cell (cell_lt y1) (by simp)).trans y1; have c9' := (hw'.cell (cell_lt c9) (by simp)).trans c9; have e0' := (hw'.cell (cell_lt e0) (by simp)).trans e0; have e1' := (hw'.cell (cell_lt e1) (by simp)).trans e1; have e2' := (hw'.cell (cell_lt e2) (by simp)).trans e2; go_step; exact hk
        refine Ord.St.efC 8 [9] _ rfl (by kernel_rfl) (fun K hK => ?_)
        go_wp2_with fail
        refine ⟨rfl, hK _ _ ?_ ?_⟩
        · first | exact (Ch.refl _ _).drew | exact (Ch.refl _ _).drew.drew | exact ((Ch.refl _ _).alloc _).drew.drew | exact (((Ch.refl _ _).drew).drew).alloc _ | exact ((Ch.refl _ _).drew).alloc _
        clear hK K
        refine Ord.St.ef 9 [] _ rfl (by kernel_rfl) (fun K hK => ?_)
        go_wp2_with fail
        refine ⟨rfl, hK _ _ ?_⟩; clear hK K
        refine Ord.St.nil ?_
        obtain ⟨W1, hW1⟩ : ∃ W1, W1 = (wr.alloc (.cells #[.int .i64 z.k, .int .i64 z.l, .int .i64 z.r] 229)).drew.drew := ⟨_, rfl⟩
        rw [← hW1]
        have hc1 : Ch [] wr W1 := by rw [hW1]; exact ((Ch.refl _ _).alloc _).drew.drew
        have hb1 : blk W1 wr.heap.size [.int .i64 z.k, .int .i64 z.l, .int .i64 z.r] := by rw [hW1]; exact ((blk.new' _ _ rfl).drew).drew
        clear hW1 c9 y1 e0 e1 e2
        have hc2 := HC.out.trans hc1 (by simp)
        have HCR := Lib.hid hc2; clear hc2
        have d0 := hb1.cell (i := 0) rfl
        have d1 := hb1.cell (i := 1) rfl
        have HB1 := Lib.hid hb1; clear hb1 hc1
        by_cases h3 : z.k = 3
        · have q3 : ((z.k : Int) == 3) = true := by rw [h3]; rfl
          obtain ⟨g1, g2, g3, g4, g5, g6⟩ := HS2.out h3
          have hrat := HRAT.out
          rw [g1, g2, show (z.k == 3) = true by rw [h3]; rfl, Bool.not_true, Bool.false_or] at hrat
          have hl1 := HLIT.out W1 (HC1.out.trans HCR.out (by simp)) z.l (by omega)
          have hl2 := fun W (h : Ch [] W1 W) => HLIT.out W ((HC1.out.trans HCR.out (by simp)).trans h (by simp)) z.r (by omega)
          clear g1 g2 h3
          generalize litF m z.l = A at *
          generalize litF m z.r = E at *
          have HL1 := Lib.hid hl1; clear hl1
          have HL2 := Lib.hid hl2; clear hl2
          have HR9 := Lib.hid hrat; clear hrat
          go_wp2_with fail
          refine HL1.out.mono ?_
          rintro e w5 ⟨rfl, hc5⟩
          have HCR2 := Lib.hid (HCR.out.trans hc5 (by simp))
          have d2 := (HB1.out.ch hc5 (by simp)).cell (i := 2) rfl
          have hl2 := HL2.out w5 hc5
          have HX := Lib.hid hl2; clear hl2 hc5 HL1 HL2
          by_cases hA : A = 0
          · have hf := HNO.out (by rw [HR9.out, hA]; rfl)
            have q1 : (A == 0) = true := by rw [hA]; rfl
            subst hf
            clear hA
            go_wp2_with fail
            try simp only [Exit.noGoto]
            go_ret
            exact ⟨rfl, HC1.out.trans HCR2.out (by simp)⟩
          · have q1 : (A == 0) = false := by rw [beq_eq_false_iff_ne]; exact hA
            have q1b : (A != 0) = true := by rw [bne_iff_ne]; exact hA
            go_wp2_with fail
            refine HX.out.mono ?_
            rintro e w6 ⟨rfl, hc6⟩
            have HCR3 := Lib.hid (HCR2.out.trans hc6 (by simp)); clear hc6 HX
            by_cases hE : E = 0
            · have hf := HNO.out (by rw [HR9.out, hE]; simp)
              have q2 : (E == 0) = true := by rw [hE]; rfl
              subst hf
              clear hE
              go_wp2_with fail
              try simp only [Exit.noGoto]
              go_ret
              exact ⟨rfl, HC1.out.trans HCR3.out (by simp)⟩
            · have q2 : (E == 0) = false := by rw [beq_eq_false_iff_ne]; exact hE
              have q2b : (E != 0) = true := by rw [bne_iff_ne]; exact hE
              have htk := HTK.out (by rw [HR9.out, q1b, q2b]; rfl)
              have HTK2 := Lib.hid htk; clear htk
              clear q1b q2b
              go_wp2_with fail
              go_roundw
              case rel => exact ⟨k + 1, by omega, by go_num, HCR3.out, HTK2.out⟩
              case measure => simp [intOf]; omega
        · have q3 : ((z.k : Int) == 3) = false := by rw [beq_eq_false_iff_ne]; omega
          have htk := HTK.out (by rw [HRAT.out, show (z.k == 3) = false by rw [beq_eq_false_iff_ne]; exact h3]; rfl)
          have HTK2 := Lib.hid htk; clear htk h3
          go_wp2_with fail
          go_roundw
          case rel => exact ⟨k + 1, by omega, by go_num, HCR.out, HTK2.out⟩
          case measure => simp [intOf]; omega
      · have hf := HNO.out (by unfold rightAt; rw [decide_eq_false (by omega), Bool.false_and])
        have d3 : decide (G.nodes.length ≤ nd) = true := decide_eq_true (by omega)
        subst hf
        have HCW := Lib.hid hcw; clear hcw
        clear hx
        go_wp2_with fail
        refine Ord.St.door (fun _ => True) [.fl, .fl, .fl, .rd, .fl, .rd, .rd, .fl] [0, 0, 3, 7, 0, 16, 48, 127] [0, 1, 2, 3, 4, 5, 6, 7] mixed (by kernel_rfl) rfl ?_
        refine Ord.St.fl2 (T' := ?_) 0 [1, 2, 3, 4, 5, 6, 7] _ _ rfl (by kernel_rfl) rfl rfl rfl rfl (fun K w' hk => ?_) ?_
        rotate_left
        · go_step; exact hk
        refine Ord.St.fl2 (T' := ?_) 1 [2, 3, 4, 5, 6, 7] _ _ rfl (by kernel_rfl) rfl rfl rfl rfl (fun K w' hk => ?_) ?_
        rotate_left
        · go_step; exact hk
        refine Ord.St.fl2 (T' := ?_) 2 [3, 4, 5, 6, 7] _ _ rfl (by kernel_rfl) rfl rfl rfl rfl (fun K w' hk => ?_) ?_
        rotate_left
        · go_step; exact hk
        refine Ord.St.rd2 (T' := ?_) 3 [4, 5, 6, 7] _ _ rfl (by kernel_rfl) rfl rfl rfl rfl (fun K hk => ?_) ?_
        rotate_left
        · go_step; exact hk
        refine Ord.St.fl2 (T' := ?_) 4 [5, 6, 7] _ _ rfl (by kernel_rfl) rfl rfl rfl rfl (fun K w' hk => ?_) ?_
        rotate_left
        · go_step; exact hk
        refine Ord.St.rd2 (T' := ?_) 5 [6, 7] _ _ rfl (by kernel_rfl) rfl rfl rfl rfl (fun K hk => ?_) ?_
        rotate_left
        · go_step; exact hk
        refine Ord.St.rd2 (T' := ?_) 6 [7] _ _ rfl (by kernel_rfl) rfl rfl rfl rfl (fun K hk => ?_) ?_
        rotate_left
        · go_step; exact hk
        refine Ord.St.fl2 (T' := ?_) 7 [] _ _ rfl (by kernel_rfl) rfl rfl rfl rfl (fun K w' hk => ?_) ?_
        rotate_left
        · go_step; exact hk
        refine Ord.St.nil ?_
        go_wp2_with fail
        try simp only [Exit.noGoto]
        go_ret
        exact ⟨rfl, HCW.out.drew⟩
    · have ht : RM = true := by
        rw [HRM.out]
        rwa [List.take_of_length_le (by have := HN.out; omega)] at hall
      subst ht
      have HC := Lib.hid (HC1.out.trans hc (by simp)); clear hc hall
      go_wp2_with fail
      go_ret
      exact ⟨rfl, HC.out⟩
end Go.Proofs.Ytkedpifopclipaa
namespace Go.Aig
/-- values as 0 and 1 -/
def bitsN (l : List Bool) : List Nat := l.map Bool.toNat
theorem bitsN_len (l : List Bool) : (bitsN l).length = l.length := by simp [bitsN]
theorem bitsN_le (l : List Bool) : ∀ v ∈ bitsN l, v ≤ 1 := fun v hv => by
  obtain ⟨b, _, rfl⟩ := List.mem_map.1 hv
  cases b <;> simp
theorem bitsN_at (l : List Bool) (i : Nat) : ((bitsN l).getD i 0).testBit 0 = l.getD i false := by
  unfold bitsN
  rw [List.getD_eq_getElem?_getD, List.getElem?_map, List.getD_eq_getElem?_getD]
  cases l[i]? with
  | none => rfl
  | some b => cases b <;> rfl
/-- a node's value, 0 or 1 -/
theorem vals_at {ns : List Nd} (ins : List Bool) {n : Nat} (hn : n < ns.length) : (Go.Proofs.Ytkedpifopclipaa.valsN (bitsN ins) ns)[n]? = some (bv (fun i => ins.getD i false) ns (2 * n)).toNat := by
  have h := vals_bv (bitsN_le ins) ns (2 * n)
  simp only [bitsN_at] at h
  rw [← h]
  unfold wref
  rw [if_neg (by omega), show 2 * n / 2 = n by omega, List.getD_eq_getElem?_getD]
  rw [List.getElem?_eq_getElem (by rw [Go.Proofs.Ytkedpifopclipaa.valsN_len]; exact hn)]
  rfl
theorem litF_even (m : List Int) (r : Nat) (h : r % 2 = 0) : 0 ≤ litF m r ∧ (litF m r).natAbs = (litF m r).toNat := by
  unfold litF litOf
  split
  · rw [if_neg (by omega)]
    omega
  · omega
end Go.Aig
namespace Go.Proofs.Ytkedpifopclipaa
open Go.RowKit Go.Mem Go.Aig
section
variable {w : World}
/-- a new slice of numbers of 0 and 1 -/
def NNew (w : World) (v : Value) (l : List Nat) (w' : World) : Prop := row w' 3 1 v l.length (refsCells l) ∧ (∀ q ∈ v.ownBlock.toList, w.heap.size ≤ q) ∧ Ch [] w w'
theorem NNew.nil (w w' : World) (h : Ch [] w w') : NNew w (.slice none 0 0) [] w' := ⟨⟨rfl, .inl ⟨rfl, rfl⟩⟩, by simp, h⟩
set_option maxRecDepth 100000 in
set_option maxHeartbeats 2000000 in
theorem bits27_is {a : Option Addr} {l : List Bool} (n c : Nat) (hn : l.length = n) (hnl : n ≤ 1000000) (hS : Sb w a l) :
    Calls Try.prog 99 #[.slice a n c] w fun e w' => ∃ v, e = .returned v ∧ NNew w v (bitsN l) w' := by
  unfold NNew
  rw [bitsN_len, hn]
  have HS := Lib.hid hS; clear hS
  have HN := Lib.hid hn; clear hn
  go_enter Try.func99, Try.ntmps99
  go_wp2_with fail
  go_loopw [3, 9] (fun o i wr => ∃ k : Nat, k ≤ n ∧ i = .int .i64 k ∧ Ch [] w wr ∧ row wr 3 1 o k (refsCells ((bitsN l).take k)) ∧ ∀ q ∈ o.ownBlock.toList, w.heap.size ≤ q) (fun _ i _ => n - (intOf i).toNat)
  case atStart => exact ⟨0, by omega, rfl, Ch.refl _ _, ⟨rfl, .inl ⟨rfl, rfl⟩⟩, by simp⟩
  case round =>
    obtain ⟨k, hk, rfl, hc, hrow, hlo⟩ := hrel
    obtain ⟨oa, oc, rfl⟩ := row.shape hrow
    by_cases hlt : k < n
    · obtain ⟨b, hb⟩ : ∃ b, l[k]? = some b := ⟨_, List.getElem?_eq_getElem (by rw [HN.out]; exact hlt)⟩
      obtain ⟨xb, xo, rfl, c0⟩ := (HS.out.ch hc (by simp)).cells k (.bool b) (by rw [List.getElem?_map, hb]; rfl)
      have hts : (bitsN l).take (k + 1) = (bitsN l).take k ++ [b.toNat] := by
        unfold bitsN
        rw [← List.map_take, ← List.map_take, List.take_add_one, hb]
        simp
      have HTS := Lib.hid hts; clear hts
      have HC := Lib.hid hc; clear hc
      have HLO := Lib.hid hlo; clear hlo hb
      have hcA : Ch [] wr (wr.alloc (.cells #[.int .i64 (b.toNat : Nat)] 3)) := (Ch.refl _ _).alloc _
      have hrA := hrow.ch hcA (by simp)
      have hbA : blk (wr.alloc (.cells #[.int .i64 (b.toNat : Nat)] 3)) wr.heap.size [.int .i64 (b.toNat : Nat)] := blk.new' _ _ rfl
      have HRA := Lib.hid hrA; clear hrA hrow
      have HBA := Lib.hid hbA; clear hbA
      have HCA := Lib.hid hcA; clear hcA
      cases b
      all_goals
        go_wp2_with (at_builtin; go_loud (refine wpList_append_row slInts rfl _ _ rfl (v := .slice oa k oc) (n := k) (xs := refsCells ((bitsN l).take k)) rfl HRA.out (ad := ⟨wr.heap.size, 0, none⟩) (m := 1) (c := 1) (news := [_]) rfl rfl (news_blk HBA.out) (by simp [Value.oneCell']) (by omega) (by omega) ?_; intro v' w5 hown4 hC4 hf4; have HO4 := Lib.hid hown4; clear hown4; have HCC4 := Lib.hid hC4; clear hC4; have HF4 := Lib.hid hf4; clear hf4))
        go_roundw
        case rel =>
          obtain ⟨q1, q2⟩ := app_step HC.out HCA.out HLO.out HCC4.out HF4.out
          refine ⟨k + 1, by omega, by go_num, q1, ?_, q2⟩
          rw [HTS.out, show ∀ (l : List Nat) (x : Nat), refsCells (l ++ [x]) = refsCells l ++ [.int .i64 x] from fun l x => by simp [refsCells]]
          exact HO4.out
        case measure => simp [intOf]; omega
    · have hkn : k = n := by omega
      subst hkn
      rw [List.take_of_length_le (by rw [bitsN_len, HN.out]; exact Nat.le_refl _)] at hrow
      have HC := Lib.hid hc; clear hc
      have HLO := Lib.hid hlo; clear hlo
      have HR := Lib.hid hrow; clear hrow
      go_wp2_with fail
      go_ret
      exact ⟨_, rfl, HR.out, HLO.out, HC.out⟩
end
end Go.Proofs.Ytkedpifopclipaa
namespace Go.Proofs.Ytkedpifopclipaa
open Go.RowKit Go.Mem Go.Aig
section
variable {w : World}
set_option maxRecDepth 100000 in
set_option maxHeartbeats 2000000 in
theorem r27Model_is {rb cap : Nat} {G : Gra} (h : RG w rb cap G) {a : Option Addr} {m : List Int} (n c : Nat) (hn : m.length = n) (hnl : n ≤ 100000) (hS : Sl w a m) (hrm : rightM G.nodes m = true) {xa : Option Addr} {ins : List Bool} (k xc : Nat) (hk : ins.length = k) (hkl : k ≤ 100000) (hI : Sv w xa (refsCells (bitsN ins))) :
    Calls Try.prog 98 #[.agg #[.int .i64 G.most, .slice (some ⟨rb, 0, none⟩) G.nodes.length cap], .slice a n c, .slice xa k xc] w fun e w' => ∃ v, e = .returned (.tuple #[v, .int .i64 (modelR G m ins).2]) ∧ NNew w v (bitsN (modelR G m ins).1) w' := by
  obtain ⟨hl, hp, hmo⟩ := h.len
  have hrl := h.lt
  have hin := fun (W : World) (hc : Ch [] w W) => rInputs_is (h.ch hc (by simp))
  have hva := fun (W : World) (hc : Ch [] w W) (hq : (inputs G.nodes).length ≤ k) => r21Values_is (h.ch hc (by simp)) (xa := xa) (I := bitsN ins) k xc (by rw [bitsN_len, hk]) (hI.ch hc (by simp)) (bitsN_le ins) hq
  have hmb := (rightM_all hrm).1
  obtain ⟨q, hq⟩ : ∃ q, (inputs G.nodes).length = q := ⟨_, rfl⟩
  have hMR : modelR G m ins = if k ≠ q then ([], 272) else (m.map fun n => bv (fun i => ins.getD i false) G.nodes (2 * n.toNat), 0) := by
    unfold modelR
    rw [if_neg (by rw [hrm]; simp), hk, hq]
  have hvt := fun (j : Nat) (hj : j < G.nodes.length) => vals_at (ns := G.nodes) ins hj
  obtain ⟨MR, hMRe⟩ : ∃ MR, modelR G m ins = MR := ⟨_, rfl⟩
  rw [hMRe] at hMR ⊢
  simp only [hq] at hin hva
  clear hMRe
  have HIN := Lib.hid hin; clear hin
  have HVA := Lib.hid hva; clear hva
  have HMB := Lib.hid hmb; clear hmb
  have HS := Lib.hid hS; clear hS
  have HN := Lib.hid hn; clear hn
  have HVT := Lib.hid hvt; clear hvt
  clear h hI hrm hk hq
  by_cases hkq : k = q
  · rw [if_neg (by simp [hkq])] at hMR
    have d1 : ((k : Int) != (q : Int)) = false := by rw [hkq]; simp
    subst hMR
    simp only
    obtain ⟨L, hL⟩ : ∃ L, (m.map fun n => bv (fun i => ins.getD i false) G.nodes (2 * n.toNat)) = L := ⟨_, rfl⟩
    have hLl : L.length = n := by rw [← hL, List.length_map]; exact HN.out
    have hLs := fun (j : Nat) (x : Int) (hx : m[j]? = some x) => show (bitsN L).take (j + 1) = (bitsN L).take j ++ [(bv (fun i => ins.getD i false) G.nodes (2 * x.toNat)).toNat] by
      rw [← hL]
      unfold bitsN
      rw [List.map_map, ← List.map_take, ← List.map_take, List.take_add_one, hx]
      simp
    rw [hL]
    have HLL := Lib.hid hLl; clear hLl
    have HLS := Lib.hid hLs; clear hLs hL
    go_enter Try.func98, Try.ntmps98
    go_upto_region 1 with fail
    refine wp_alw ?_
    intro W0 hW0
    have b2 := alw_blk (xs := [.int .i64 G.most, .slice (some ⟨rb, 0, none⟩) G.nodes.length cap]) hW0
    have hc0 := alw_ch hW0
    clear hW0
    obtain ⟨bx, hbx⟩ : ∃ bx, bx = w.heap.size := ⟨_, rfl⟩
    rw [← hbx] at b2 ⊢
    clear hbx
    have y0 := b2.cell (i := 0) rfl
    have y1 := b2.cell (i := 1) rfl
    have B2 := Lib.hid b2; clear b2
    have HC0 := Lib.hid hc0; clear hc0
    go_wp2_with fail
    refine (HIN.out W0 HC0.out).mono ?_
    rintro e w1 ⟨v, rfl, hrow, _, hc1⟩
    obtain ⟨ia, ic, rfl⟩ := row.shape hrow
    clear hrow y0 y1 HIN
    have hc01 := HC0.out.trans hc1 (by simp)
    have hb1 := B2.out.ch hc1 (by simp)
    have y0 := hb1.cell (i := 0) rfl
    have y1 := hb1.cell (i := 1) rfl
    have HC1 := Lib.hid hc01; clear hc01 hc1 hb1 B2 HC0
    have hva := HVA.out w1 HC1.out (by omega)
    have HX := Lib.hid hva; clear hva HVA
    clear hkq
    go_wp2_with fail
    clear y0 y1
    refine HX.out.mono ?_
    rintro e w2 ⟨v, rfl, hvr, _, hc2⟩
    obtain ⟨va, vc, rfl⟩ := row.shape hvr
    have HVR := Lib.hid (row.sv hvr rfl (by omega)); clear hvr
    have HC2 := Lib.hid (HC1.out.trans hc2 (by simp)); clear hc2 HX HC1
    go_wp2_with fail
    go_loopw [9, 10] (fun o i wr => ∃ j : Nat, j ≤ n ∧ i = .int .i64 j ∧ Ch [] w2 wr ∧ row wr 3 1 o j (refsCells ((bitsN L).take j)) ∧ ∀ q ∈ o.ownBlock.toList, w2.heap.size ≤ q) (fun _ i _ => n - (intOf i).toNat)
    case atStart => exact ⟨0, by omega, rfl, Ch.refl _ _, ⟨rfl, .inl ⟨rfl, rfl⟩⟩, by simp⟩
    case round =>
      obtain ⟨j, hj, rfl, hc, hrow, hlo⟩ := hrel
      obtain ⟨oa, oc, rfl⟩ := row.shape hrow
      by_cases hlt : j < n
      · obtain ⟨x, hx⟩ : ∃ x, m[j]? = some x := ⟨_, List.getElem?_eq_getElem (by rw [HN.out]; exact hlt)⟩
        have hxb := HMB.out x (List.mem_of_getElem? hx)
        have hls := HLS.out j x hx
        obtain ⟨xb, xo, rfl, c0⟩ := (HS.out.ch (HC2.out.trans hc (by simp)) (by simp)).cells j x hx
        obtain ⟨nd, rfl⟩ : ∃ nd : Nat, x = (nd : Int) := ⟨x.toNat, by omega⟩
        have hvt := HVT.out nd (by omega)
        rw [show ((nd : Int)).toNat = nd from rfl] at hls
        generalize (bv (fun i => ins.getD i false) G.nodes (2 * nd)).toNat = V at hls hvt
        obtain ⟨vb, vo, rfl, c1⟩ := (HVR.out.ch hc (by simp)).cells nd (.int .i64 V) (by unfold refsCells; rw [List.getElem?_map, hvt]; rfl)
        have HLS2 := Lib.hid hls; clear hls
        have HC := Lib.hid hc; clear hc
        have HLO := Lib.hid hlo; clear hlo hx hvt
        have hcA : Ch [] wr (wr.alloc (.cells #[.int .i64 V] 3)) := (Ch.refl _ _).alloc _
        have hrA := hrow.ch hcA (by simp)
        have hbA : blk (wr.alloc (.cells #[.int .i64 V] 3)) wr.heap.size [.int .i64 V] := blk.new' _ _ rfl
        have HRA := Lib.hid hrA; clear hrA hrow
        have HBA := Lib.hid hbA; clear hbA
        have HCA := Lib.hid hcA; clear hcA
        go_wp2_with (at_builtin; go_loud (refine wpList_append_row slInts rfl _ _ rfl (v := .slice oa j oc) (n := j) (xs := refsCells ((bitsN L).take j)) rfl HRA.out (ad := ⟨wr.heap.size, 0, none⟩) (m := 1) (c := 1) (news := [.int .i64 V]) rfl rfl (news_blk HBA.out) (by simp [Value.oneCell']) (by omega) (by omega) ?_; intro v' w5 hown4 hC4 hf4; have HO4 := Lib.hid hown4; clear hown4; have HCC4 := Lib.hid hC4; clear hC4; have HF4 := Lib.hid hf4; clear hf4))
        go_roundw
        case rel =>
          obtain ⟨q1, q2⟩ := app_step HC.out HCA.out HLO.out HCC4.out HF4.out
          refine ⟨j + 1, by omega, by go_num, q1, ?_, q2⟩
          rw [HLS2.out, show ∀ (l : List Nat) (x : Nat), refsCells (l ++ [x]) = refsCells l ++ [.int .i64 x] from fun l x => by simp [refsCells]]
          exact HO4.out
        case measure => simp [intOf]; omega
      · have hjn : j = n := by omega
        subst hjn
        rw [List.take_of_length_le (by rw [bitsN_len, HLL.out]; exact Nat.le_refl _)] at hrow
        have HC := Lib.hid hc; clear hc
        have HLO := Lib.hid hlo; clear hlo
        have HR := Lib.hid hrow; clear hrow
        go_wp2_with fail
        go_ret2
        have hz := HC2.out.size
        exact ⟨_, rfl, by rw [bitsN_len, HLL.out]; exact HR.out, fun q hq => Nat.le_trans hz (HLO.out q hq), HC2.out.trans HC.out (by simp)⟩
  · rw [if_pos hkq] at hMR
    have d1 : ((k : Int) != (q : Int)) = true := by rw [bne_iff_ne]; omega
    subst hMR
    clear HVA
    simp only
    go_enter Try.func98, Try.ntmps98
    go_upto_region 1 with fail
    refine wp_alw ?_
    intro W0 hW0
    have b2 := alw_blk (xs := [.int .i64 G.most, .slice (some ⟨rb, 0, none⟩) G.nodes.length cap]) hW0
    have hc0 := alw_ch hW0
    clear hW0
    obtain ⟨bx, hbx⟩ : ∃ bx, bx = w.heap.size := ⟨_, rfl⟩
    rw [← hbx] at b2 ⊢
    clear hbx
    have y0 := b2.cell (i := 0) rfl
    have y1 := b2.cell (i := 1) rfl
    have B2 := Lib.hid b2; clear b2
    have HC0 := Lib.hid hc0; clear hc0
    go_wp2_with fail
    refine (HIN.out W0 HC0.out).mono ?_
    rintro e w1 ⟨v, rfl, hrow, _, hc1⟩
    obtain ⟨ia, ic, rfl⟩ := row.shape hrow
    clear hrow y0 y1 HIN
    have hc01 := HC0.out.trans hc1 (by simp)
    have hb1 := B2.out.ch hc1 (by simp)
    have y0 := hb1.cell (i := 0) rfl
    have y1 := hb1.cell (i := 1) rfl
    have HC1 := Lib.hid hc01; clear hc01 hc1 hb1 B2 HC0
    go_wp2_with fail
    go_ret2
    exact ⟨_, rfl, NNew.nil _ _ HC1.out⟩
set_option maxRecDepth 100000 in
set_option maxHeartbeats 2000000 in
theorem r27Inputs_is {rb cap : Nat} {G : Gra} (h : RG w rb cap G) {a : Option Addr} {m : List Int} (n c : Nat) (hn : m.length = n) (hnl : n ≤ 100000) (hS : Sl w a m) (hrm : rightM G.nodes m = true) {xa : Option Addr} {mv : List Bool} (k xc : Nat) (hk : mv.length = k) (hkl : k ≤ 100000) (hI : Sv w xa (refsCells (bitsN mv))) :
    Calls Try.prog 100 #[.agg #[.int .i64 G.most, .slice (some ⟨rb, 0, none⟩) G.nodes.length cap], .slice a n c, .slice xa k xc] w fun e w' => ∃ v, e = .returned (.tuple #[v, .int .i64 (insR G m mv).2]) ∧ NNew w v (bitsN (insR G m mv).1) w' := by
  obtain ⟨hl, hp, hmo⟩ := h.len
  have hrl := h.lt
  have hin := fun (W : World) (hc : Ch [] w W) => rInputs_is (h.ch hc (by simp))
  have hlit := fun (W : World) (hc : Ch [] w W) (r : Int) (hr : -9223372036854775808 ≤ r ∧ r ≤ 9223372036854775807) => r27Lit_is (w := W) n c hn (by omega) (hS.ch hc (by simp)) r hr
  have hie := fun (i z : Nat) (hz : (inputs G.nodes)[i]? = some z) => inputs_even hz
  have hab := fun r : Int => litF_abs m r
  obtain ⟨q, hq⟩ : ∃ q, (inputs G.nodes).length = q := ⟨_, rfl⟩
  have hMR : insR G m mv = if k ≠ n then ([], 272) else (insV G.nodes m mv, 0) := by
    unfold insR
    rw [if_neg (by rw [hrm]; simp), hk, hn]
  obtain ⟨MR, hMRe⟩ : ∃ MR, insR G m mv = MR := ⟨_, rfl⟩
  rw [hMRe] at hMR ⊢
  simp only [hq] at hin
  rw [hn] at hab
  clear hMRe
  have HIN := Lib.hid hin; clear hin
  have HLIT := Lib.hid hlit; clear hlit
  have HIE := Lib.hid hie; clear hie
  have HAB := Lib.hid hab; clear hab
  have HI := Lib.hid hI; clear hI
  have HK := Lib.hid hk; clear hk
  have HQ := Lib.hid hq; clear hq
  clear h hS hrm hn
  by_cases hkn : k = n
  · rw [if_neg (by simp [hkn])] at hMR
    have d1 : ((k : Int) != (n : Int)) = false := by rw [hkn]; simp
    subst hMR
    simp only
    have hLl : (insV G.nodes m mv).length = q := by unfold insV; rw [List.length_map]; exact HQ.out
    have hLs := fun (j x : Nat) (hx : (inputs G.nodes)[j]? = some x) => show (bitsN (insV G.nodes m mv)).take (j + 1) = (bitsN (insV G.nodes m mv)).take j ++ [(litF m x != 0 && mv.getD ((litF m x).natAbs - 1) false).toNat] by
      unfold insV bitsN
      rw [List.map_map, ← List.map_take, ← List.map_take, List.take_add_one, hx]
      simp
    generalize insV G.nodes m mv = L at *
    have HLL := Lib.hid hLl; clear hLl
    have HLS := Lib.hid hLs; clear hLs
    have HKN := Lib.hid hkn; clear hkn
    go_enter Try.func100, Try.ntmps100
    go_upto_region 1 with fail
    refine wp_alw ?_
    intro W0 hW0
    have b2 := alw_blk (xs := [.int .i64 G.most, .slice (some ⟨rb, 0, none⟩) G.nodes.length cap]) hW0
    have hc0 := alw_ch hW0
    clear hW0
    obtain ⟨bx, hbx⟩ : ∃ bx, bx = w.heap.size := ⟨_, rfl⟩
    rw [← hbx] at b2 ⊢
    clear hbx
    have y0 := b2.cell (i := 0) rfl
    have y1 := b2.cell (i := 1) rfl
    have HC0 := Lib.hid hc0; clear hc0 b2
    go_wp2_with fail
    refine (HIN.out W0 HC0.out).mono ?_
    rintro e w1 ⟨v, rfl, hrow, _, hc1⟩
    obtain ⟨ia, ic, rfl⟩ := row.shape hrow
    have hql : q ≤ 65536 := by
      rw [← HQ.out]
      have : ∀ (l : List Nd) (k : Nat), (inputsFrom l k).length ≤ l.length := fun l => by
        induction l with
        | nil => intro n; simp [inputsFrom]
        | cons a l ih => intro n; unfold inputsFrom; split <;> simp <;> have := ih (n + 1) <;> omega
      have := this G.nodes 0
      unfold inputs
      omega
    have HIR := Lib.hid (row.sv hrow rfl (by omega)); clear hrow
    have HC1 := Lib.hid (HC0.out.trans hc1 (by simp)); clear hc1 HC0 HIN y0 y1
    go_wp2_with fail
    go_loopw [9, 10] (fun o i wr => ∃ j : Nat, j ≤ q ∧ i = .int .i64 j ∧ Ch [] w1 wr ∧ row wr 3 1 o j (refsCells ((bitsN L).take j)) ∧ ∀ q ∈ o.ownBlock.toList, w1.heap.size ≤ q) (fun _ i _ => q - (intOf i).toNat)
    case atStart => exact ⟨0, by omega, rfl, Ch.refl _ _, ⟨rfl, .inl ⟨rfl, rfl⟩⟩, by simp⟩
    case round =>
      obtain ⟨j, hj, rfl, hc, hrow, hlo⟩ := hrel
      obtain ⟨oa, oc, rfl⟩ := row.shape hrow
      by_cases hlt : j < q
      · obtain ⟨x, hx⟩ : ∃ x, (inputs G.nodes)[j]? = some x := ⟨_, List.getElem?_eq_getElem (by rw [HQ.out]; exact hlt)⟩
        obtain ⟨hx2, hxl⟩ := HIE.out j x hx
        have hls := HLS.out j x hx
        obtain ⟨zb, zo, rfl, c0⟩ := (HIR.out.ch hc (by simp)).cells j (.int .i64 x) (by unfold refsCells; rw [List.getElem?_map, hx]; rfl)
        have hlt2 := HLIT.out wr (HC1.out.trans hc (by simp)) x (by omega)
        obtain ⟨le1, le2⟩ := litF_even m x hx2
        have hab := HAB.out x
        generalize litF m x = A at *
        have HLT := Lib.hid hlt2; clear hlt2
        have HLS2 := Lib.hid hls; clear hls
        have HCP := Lib.hid hc; clear hc
        have HROW := Lib.hid hrow; clear hrow
        have HLO := Lib.hid hlo; clear hlo hx hx2
        go_wp2_with fail
        refine HLT.out.mono ?_
        rintro e w3 ⟨rfl, hc3⟩
        have HC := Lib.hid (HCP.out.trans hc3 (by simp))
        have hrow := HROW.out.ch hc3 (by simp)
        clear HLT HROW c0
        obtain ⟨V, hV⟩ : ∃ V, (A != 0 && mv.getD (A.natAbs - 1) false).toNat = V := ⟨_, rfl⟩
        have hls := HLS2.out
        rw [hV] at hls
        have HLS3 := Lib.hid hls; clear hls HLS2
        have hcA : Ch [] w3 (w3.alloc (.cells #[.int .i64 V] 3)) := (Ch.refl _ _).alloc _
        have hrA := hrow.ch hcA (by simp)
        have hbA : blk (w3.alloc (.cells #[.int .i64 V] 3)) w3.heap.size [.int .i64 V] := blk.new' _ _ rfl
        have HRA := Lib.hid hrA; clear hrA hrow
        have HBA := Lib.hid hbA; clear hbA
        have HCA := Lib.hid hcA; clear hcA
        by_cases hA : A = 0
        · have d5 : decide (0 < A) = false := decide_eq_false (by omega)
          have hV0 : V = 0 := by rw [← hV, hA]; rfl
          subst hV0
          clear hV hA
          go_wp2_with (at_builtin; go_loud (refine wpList_append_row slInts rfl _ _ rfl (v := .slice oa j oc) (n := j) (xs := refsCells ((bitsN L).take j)) rfl HRA.out (ad := ⟨w3.heap.size, 0, none⟩) (m := 1) (c := 1) (news := [_]) rfl rfl (news_blk HBA.out) (by simp [Value.oneCell']) (by omega) (by omega) ?_; intro v' w5 hown4 hC4 hf4; have HO4 := Lib.hid hown4; clear hown4; have HCC4 := Lib.hid hC4; clear hC4; have HF4 := Lib.hid hf4; clear hf4))
          go_roundw
          case rel =>
            obtain ⟨q1, q2⟩ := app_step HC.out HCA.out HLO.out HCC4.out HF4.out
            refine ⟨j + 1, by omega, by go_num, q1, ?_, q2⟩
            rw [HLS3.out, show ∀ (l : List Nat) (x : Nat), refsCells (l ++ [x]) = refsCells l ++ [.int .i64 x] from fun l x => by simp [refsCells]]
            exact HO4.out
          case measure => simp [intOf]; omega
        · have d5 : decide (0 < A) = true := decide_eq_true (by omega)
          obtain ⟨s, hs⟩ : ∃ s : Nat, A = (s : Int) + 1 := ⟨A.natAbs - 1, by omega⟩
          subst hs
          have hsk : s < k := by have := HKN.out; omega
          obtain ⟨b, hb⟩ : ∃ b, mv[s]? = some b := ⟨_, List.getElem?_eq_getElem (by rw [HK.out]; exact hsk)⟩
          have hVb : V = b.toNat := by
            rw [← hV, show ((s : Int) + 1).natAbs - 1 = s by omega, List.getD_eq_getElem?_getD, hb, show (((s : Int) + 1) != 0) = true by rw [bne_iff_ne]; omega]
            simp
          subst hVb
          obtain ⟨mb, mo, rfl, c1⟩ := (HI.out.ch (HC1.out.trans HC.out (by simp)) (by simp)).cells s (.int .i64 b.toNat) (by unfold refsCells bitsN; rw [List.getElem?_map, List.getElem?_map, hb]; rfl)
          have ds : (s : Int) + 1 - 1 = s := by omega
          clear hV hA hb
          go_wp2_with (at_builtin; go_loud (refine wpList_append_row slInts rfl _ _ rfl (v := .slice oa j oc) (n := j) (xs := refsCells ((bitsN L).take j)) rfl HRA.out (ad := ⟨w3.heap.size, 0, none⟩) (m := 1) (c := 1) (news := [_]) rfl rfl (news_blk HBA.out) (by simp [Value.oneCell']) (by omega) (by omega) ?_; intro v' w5 hown4 hC4 hf4; have HO4 := Lib.hid hown4; clear hown4; have HCC4 := Lib.hid hC4; clear hC4; have HF4 := Lib.hid hf4; clear hf4))
          go_roundw
          case rel =>
            obtain ⟨q1, q2⟩ := app_step HC.out HCA.out HLO.out HCC4.out HF4.out
            refine ⟨j + 1, by omega, by go_num, q1, ?_, q2⟩
            rw [HLS3.out, show ∀ (l : List Nat) (x : Nat), refsCells (l ++ [x]) = refsCells l ++ [.int .i64 x] from fun l x => by simp [refsCells]]
            exact HO4.out
          case measure => simp [intOf]; omega
      · have hjq : j = q := by omega
        subst hjq
        rw [List.take_of_length_le (by rw [bitsN_len, HLL.out]; exact Nat.le_refl _)] at hrow
        have HC := Lib.hid hc; clear hc
        have HLO := Lib.hid hlo; clear hlo
        have HR := Lib.hid hrow; clear hrow
        go_wp2_with fail
        go_ret2
        have hz := HC1.out.size
        exact ⟨_, rfl, by rw [bitsN_len, HLL.out]; exact HR.out, fun q hq => Nat.le_trans hz (HLO.out q hq), HC1.out.trans HC.out (by simp)⟩
  · rw [if_pos hkn] at hMR
    have d1 : ((k : Int) != (n : Int)) = true := by rw [bne_iff_ne]; omega
    subst hMR
    clear HIN
    simp only
    go_enter Try.func100, Try.ntmps100
    go_upto_region 1 with fail
    refine wp_alw ?_
    intro W0 hW0
    have b2 := alw_blk (xs := [.int .i64 G.most, .slice (some ⟨rb, 0, none⟩) G.nodes.length cap]) hW0
    have hc0 := alw_ch hW0
    clear hW0
    obtain ⟨bx, hbx⟩ : ∃ bx, bx = w.heap.size := ⟨_, rfl⟩
    rw [← hbx] at b2 ⊢
    clear hbx
    have y0 := b2.cell (i := 0) rfl
    have y1 := b2.cell (i := 1) rfl
    have HC0 := Lib.hid hc0; clear hc0 b2
    go_wp2_with fail
    go_ret2
    exact ⟨_, rfl, NNew.nil _ _ HC0.out⟩
end
end Go.Proofs.Ytkedpifopclipaa
namespace Go.Proofs.Ytkedpifopclipaa
open Go.RowKit Go.Mem Go.Aig
theorem r27Ref_is {w : World} {a : Option Addr} {m : List Int} (n c : Nat) (hn : m.length = n) (hnl : n ≤ 1000000) (hS : Sl w a m) (l : Int) (hl : -1048576 ≤ l ∧ l ≤ 1048576) :
    Calls Try.prog 158 #[.slice a n c, .int .i64 l] w fun e w' => e = .returned (.int .i64 (refF m l)) ∧ Ch [] w w' := by
  by_cases h : 0 ≤ l
  · obtain ⟨A, rfl⟩ : ∃ A : Nat, l = (A : Int) := ⟨l.toNat, by omega⟩
    exact r27Ref_pos n c hn hnl hS A (by omega)
  · obtain ⟨A, rfl⟩ : ∃ A : Nat, l = -(A : Int) := ⟨(-l).toNat, by omega⟩
    exact r27Ref_neg n c hn hnl hS A (by omega)
theorem refF_low (m : List Int) (l : Int) : 0 ≤ refF m l ∨ refF m l = -1 := by
  unfold refF
  split
  · rename_i h
    have hr := (rising_iff m).1 h.1
    obtain ⟨x, hx⟩ : ∃ x, m[l.natAbs - 1]? = some x := ⟨_, List.getElem?_eq_getElem (by omega)⟩
    have := hr.1 x (List.mem_of_getElem? hx)
    rw [List.getD_eq_getElem?_getD, hx]
    simp only [Option.getD_some]
    left
    split <;> omega
  · exact .inr rfl
theorem refF_high (m : List Int) (l : Int) : refF m l ≤ 200000 := by
  unfold refF
  split
  · rename_i h
    have hr := (rising_iff m).1 h.1
    obtain ⟨x, hx⟩ : ∃ x, m[l.natAbs - 1]? = some x := ⟨_, List.getElem?_eq_getElem (by omega)⟩
    have := hr.1 x (List.mem_of_getElem? hx)
    rw [List.getD_eq_getElem?_getD, hx]
    simp only [Option.getD_some]
    split <;> omega
  · omega
theorem refF_far (m : List Int) {l : Int} (h : l < -1048576 ∨ 1048576 < l) : refF m l = -1 := by
  unfold refF
  rw [if_neg (by omega)]
set_option maxRecDepth 100000 in
set_option maxHeartbeats 4000000 in
theorem refs27_is {w : World} {a : Option Addr} {m : List Int} (n c : Nat) (hn : m.length = n) (hnl : n ≤ 100000) (hS : Sl w a m) (r l : Int) (hr : -9223372036854775808 ≤ r ∧ r ≤ 9223372036854775807) (hl : -9223372036854775808 ≤ l ∧ l ≤ 9223372036854775807) :
    Calls Try.prog 77 #[.slice a n c, .int .i64 r, .int .i64 l] w fun e w' => e = .returned (.bool true) ∧ Ch [] w w' := by
  have hL1 := fun (W : World) (hc : Ch [] w W) (x : Int) (hx : -9223372036854775808 ≤ x ∧ x ≤ 9223372036854775807) => tsLit_is (w := W) n c hn (by omega) (hS.ch hc (by simp)) x hx
  have hL2 := fun (W : World) (hc : Ch [] w W) (x : Int) (hx : -9223372036854775808 ≤ x ∧ x ≤ 9223372036854775807) => r27Lit_is (w := W) n c hn (by omega) (hS.ch hc (by simp)) x hx
  have hR1 := fun (W : World) (hc : Ch [] w W) (x : Int) (hx : -9223372036854775808 ≤ x ∧ x ≤ 9223372036854775807) => tsRef_is (w := W) n c hn (by omega) (hS.ch hc (by simp)) x hx
  have hR2 := fun (W : World) (hc : Ch [] w W) (x : Int) (hx : -1048576 ≤ x ∧ x ≤ 1048576) => r27Ref_is (w := W) n c hn (by omega) (hS.ch hc (by simp)) x hx
  have hlo := refF_low m
  have hhi := refF_high m
  have hfar := fun (x : Int) (h : x < -1048576 ∨ 1048576 < x) => refF_far m h
  have hll := fun x => litF_abs m x
  rw [hn] at hll
  have HL1 := Lib.hid hL1; clear hL1
  have HL2 := Lib.hid hL2; clear hL2
  have HR1 := Lib.hid hR1; clear hR1
  have HR2 := Lib.hid hR2; clear hR2
  have HLO := Lib.hid hlo; clear hlo
  have HHI := Lib.hid hhi; clear hhi
  have HFAR := Lib.hid hfar; clear hfar
  have HLL := Lib.hid hll; clear hll
  clear hS hn
  obtain ⟨xs, hxs⟩ : ∃ xs : List Int, xs = [r, -1, 0, 1, 2, 3, 4, 5, 7, 9] := ⟨_, rfl⟩
  have hxb : ∀ x ∈ xs, -9223372036854775808 ≤ x ∧ x ≤ 9223372036854775807 := by
    rw [hxs]
    intro x hx
    simp only [List.mem_cons, List.not_mem_nil, or_false] at hx
    omega
  obtain ⟨ys, hys⟩ : ∃ ys : List Int, ys = [l, -2, -1, 0, 1, 2, 3] := ⟨_, rfl⟩
  have hyb : ∀ x ∈ ys, -9223372036854775808 ≤ x ∧ x ≤ 9223372036854775807 := by
    rw [hys]
    intro x hx
    simp only [List.mem_cons, List.not_mem_nil, or_false] at hx
    omega
  have hxl : xs.length = 10 := by rw [hxs]; rfl
  have hyl : ys.length = 7 := by rw [hys]; rfl
  have HXB := Lib.hid hxb; clear hxb
  have HYB := Lib.hid hyb; clear hyb
  have HXL := Lib.hid hxl; clear hxl
  have HYL := Lib.hid hyl; clear hyl
  have hxc : intCells xs = [.int .i64 r, .int .i64 (-1), .int .i64 0, .int .i64 1, .int .i64 2, .int .i64 3, .int .i64 4, .int .i64 5, .int .i64 7, .int .i64 9] := by rw [hxs]; rfl
  have hyc : intCells ys = [.int .i64 l, .int .i64 (-2), .int .i64 (-1), .int .i64 0, .int .i64 1, .int .i64 2, .int .i64 3] := by rw [hys]; rfl
  have HXC := Lib.hid hxc; clear hxc
  have HYC := Lib.hid hyc; clear hyc
  clear hxs hys
  go_enter Try.func77, Try.ntmps77
  go_upto_region 2 with fail
  refine wp_named fun W1 hW1 => ?_
  have hb := alw_blk (xs := [.int .i64 r, .int .i64 (-1), .int .i64 0, .int .i64 1, .int .i64 2, .int .i64 3, .int .i64 4, .int .i64 5, .int .i64 7, .int .i64 9]) hW1
  rw [← HXC.out] at hb
  have hc1 := alw_ch hW1
  clear hW1
  obtain ⟨bx, hbx⟩ : ∃ bx, bx = w.heap.size := ⟨_, rfl⟩
  rw [← hbx] at hb ⊢
  clear hbx
  have HB := Lib.hid hb; clear hb
  have HC1 := Lib.hid hc1; clear hc1
  go_wp2_with fail
  go_loopw [22] (fun i wr => ∃ k : Nat, k ≤ 10 ∧ i = .int .i64 k ∧ Ch [] W1 wr) (fun i _ => 10 - (intOf i).toNat)
  case atStart => exact ⟨0, by omega, rfl, Ch.refl _ _⟩
  case round =>
    obtain ⟨k, hk, rfl, hc⟩ := hrel
    by_cases hlt : k < 10
    · obtain ⟨x, hx⟩ : ∃ x, xs[k]? = some x := ⟨_, List.getElem?_eq_getElem (by rw [HXL.out]; exact hlt)⟩
      have hxb := HXB.out x (List.mem_of_getElem? hx)
      have c0 := (HB.out.ch hc (by simp)).cell (i := k) (v := .int .i64 x) (by unfold intCells; rw [List.getElem?_map, hx]; rfl)
      have dk : decide ((k : Int) < 10) = true := decide_eq_true (by omega)
      have h1 := HL1.out wr (HC1.out.trans hc (by simp)) x hxb
      have h2 := HL2.out wr (HC1.out.trans hc (by simp)) x hxb
      have hll := HLL.out x
      generalize litF m x = A at *
      have H1 := Lib.hid h1; clear h1
      have H2 := Lib.hid h2; clear h2
      have HC := Lib.hid hc; clear hc hx
      by_cases hA : A = 0
      · have q1 : (A != 0) = false := by rw [hA]; rfl
        have h1 := H1.out
        rw [q1] at h1
        have H1 := Lib.hid h1; clear h1
        have hA2 := Lib.hid hA; clear hA
        go_wp2_with fail
        refine H1.out.mono ?_
        rintro e w' ⟨rfl, rfl⟩
        go_wp2_with fail
        refine H2.out.mono ?_
        rintro e w2 ⟨rfl, hcs⟩
        have HC2 := Lib.hid (HC.out.trans hcs (by simp)); clear hcs
        go_wp2_with fail
        go_roundw
        case rel => exact ⟨k + 1, by omega, by go_num, HC2.out⟩
        case measure => first | (simp [intOf]; done) | (simp [intOf]; omega)
      · have q1 : (A != 0) = true := by rw [bne_iff_ne]; exact hA
        have h1 := H1.out
        rw [q1] at h1
        have H1 := Lib.hid h1; clear h1
        have hA2 := Lib.hid hA; clear hA
        go_wp2_with fail
        refine H1.out.mono ?_
        rintro e w' ⟨rfl, rfl⟩
        go_wp2_with fail
        refine H2.out.mono ?_
        rintro e w2 ⟨rfl, hcs⟩
        have HC2 := Lib.hid (HC.out.trans hcs (by simp)); clear hcs
        go_wp2_with fail
        go_roundw
        case rel => exact ⟨k + 1, by omega, by go_num, HC2.out⟩
        case measure => first | (simp [intOf]; done) | (simp [intOf]; omega)
    · have HC := Lib.hid (HC1.out.trans hc (by simp)); clear hc HB HC1
      go_upto_region 10 with fail
      refine wp_named fun W2 hW2 => ?_
      have hb := alw_blk (xs := [.int .i64 l, .int .i64 (-2), .int .i64 (-1), .int .i64 0, .int .i64 1, .int .i64 2, .int .i64 3]) hW2
      rw [← HYC.out] at hb
      have hc1 := alw_ch hW2
      clear hW2
      obtain ⟨by2, hby⟩ : ∃ by2, by2 = wr.heap.size := ⟨_, rfl⟩
      rw [← hby] at hb ⊢
      clear hby
      have HB := Lib.hid hb; clear hb
      have HC1 := Lib.hid (HC.out.trans hc1 (by simp)); clear hc1 HC
      go_wp2_with fail
      go_loopw [48] (fun i wr => ∃ k : Nat, k ≤ 7 ∧ i = .int .i64 k ∧ Ch [] W2 wr) (fun i _ => 7 - (intOf i).toNat)
      case atStart => exact ⟨0, by omega, rfl, Ch.refl _ _⟩
      case round =>
        obtain ⟨k, hk, rfl, hc⟩ := hrel
        by_cases hlt : k < 7
        · obtain ⟨x, hx⟩ : ∃ x, ys[k]? = some x := ⟨_, List.getElem?_eq_getElem (by rw [HYL.out]; exact hlt)⟩
          have hxb := HYB.out x (List.mem_of_getElem? hx)
          have c0 := (HB.out.ch hc (by simp)).cell (i := k) (v := .int .i64 x) (by unfold intCells; rw [List.getElem?_map, hx]; rfl)
          have dk : decide ((k : Int) < 7) = true := decide_eq_true (by omega)
          have HC := Lib.hid hc; clear hc hx
          rcases (by omega : x < -1048576 ∨ (-1048576 ≤ x ∧ x ≤ 1048576) ∨ (¬ x < -1048576 ∧ 1048576 < x)) with h | h | h
          · have e1 : decide (x < -1048576) = true := decide_eq_true h
            have h1 := HR1.out wr (HC1.out.trans HC.out (by simp)) (0) (by omega)
            have h2 := HR2.out wr (HC1.out.trans HC.out (by simp)) (0) (by omega)
            have hlo := HLO.out (0)
            have hhi := HHI.out (0)
            generalize refF m (0) = E at *
            rcases hlo with hE | hE
            · have hmax : ∀ ats ty, Builtin.max_ ats ty #[.int .i64 E, .int .i64 0] = pure (.int .i64 E) := fun ats ty => by
                by_cases h9 : E = 0
                · subst h9; simp [Builtin.max_, Builtin.max2]
                · simp [Builtin.max_, Builtin.max2, show ¬ E < 0 by omega]
              have q1 : decide (0 ≤ E) = true := decide_eq_true hE
              rw [if_pos hE, q1] at h1
              have H1 := Lib.hid h1; clear h1
              have H2 := Lib.hid h2; clear h2
              go_wp2_with fail
              refine H1.out.mono ?_
              rintro e w' ⟨rfl, rfl⟩
              go_wp2_with fail
              refine H2.out.mono ?_
              rintro e w2 ⟨rfl, hcs⟩
              have HC2 := Lib.hid (HC.out.trans hcs (by simp)); clear hcs
              go_wp2_with fail
              go_roundw
              case rel => exact ⟨k + 1, by omega, by go_num, HC2.out⟩
              case measure => first | (simp [intOf]; done) | (simp [intOf]; omega)
            · subst hE
              have hmax : ∀ ats ty, Builtin.max_ ats ty #[.int .i64 (-1), .int .i64 0] = pure (.int .i64 0) := fun ats ty => by simp [Builtin.max_, Builtin.max2]
              rw [if_neg (by omega), show decide ((0 : Int) ≤ -1) = false from rfl] at h1
              have H1 := Lib.hid h1; clear h1
              have H2 := Lib.hid h2; clear h2
              go_wp2_with fail
              refine H1.out.mono ?_
              rintro e w' ⟨rfl, rfl⟩
              go_wp2_with fail
              refine H2.out.mono ?_
              rintro e w2 ⟨rfl, hcs⟩
              have HC2 := Lib.hid (HC.out.trans hcs (by simp)); clear hcs
              go_wp2_with fail
              go_roundw
              case rel => exact ⟨k + 1, by omega, by go_num, HC2.out⟩
              case measure => first | (simp [intOf]; done) | (simp [intOf]; omega)
          · have e1 : decide (x < -1048576) = false := decide_eq_false (by omega)
            have e2 : decide (1048576 < x) = false := decide_eq_false (by omega)
            have h1 := HR1.out wr (HC1.out.trans HC.out (by simp)) (x) (by omega)
            have h2 := HR2.out wr (HC1.out.trans HC.out (by simp)) (x) (by omega)
            have hlo := HLO.out (x)
            have hhi := HHI.out (x)
            generalize refF m (x) = E at *
            rcases hlo with hE | hE
            · have hmax : ∀ ats ty, Builtin.max_ ats ty #[.int .i64 E, .int .i64 0] = pure (.int .i64 E) := fun ats ty => by
                by_cases h9 : E = 0
                · subst h9; simp [Builtin.max_, Builtin.max2]
                · simp [Builtin.max_, Builtin.max2, show ¬ E < 0 by omega]
              have q1 : decide (0 ≤ E) = true := decide_eq_true hE
              rw [if_pos hE, q1] at h1
              have H1 := Lib.hid h1; clear h1
              have H2 := Lib.hid h2; clear h2
              go_wp2_with fail
              refine H1.out.mono ?_
              rintro e w' ⟨rfl, rfl⟩
              go_wp2_with fail
              refine H2.out.mono ?_
              rintro e w2 ⟨rfl, hcs⟩
              have HC2 := Lib.hid (HC.out.trans hcs (by simp)); clear hcs
              go_wp2_with fail
              go_roundw
              case rel => exact ⟨k + 1, by omega, by go_num, HC2.out⟩
              case measure => first | (simp [intOf]; done) | (simp [intOf]; omega)
            · subst hE
              have hmax : ∀ ats ty, Builtin.max_ ats ty #[.int .i64 (-1), .int .i64 0] = pure (.int .i64 0) := fun ats ty => by simp [Builtin.max_, Builtin.max2]
              rw [if_neg (by omega), show decide ((0 : Int) ≤ -1) = false from rfl] at h1
              have H1 := Lib.hid h1; clear h1
              have H2 := Lib.hid h2; clear h2
              go_wp2_with fail
              refine H1.out.mono ?_
              rintro e w' ⟨rfl, rfl⟩
              go_wp2_with fail
              refine H2.out.mono ?_
              rintro e w2 ⟨rfl, hcs⟩
              have HC2 := Lib.hid (HC.out.trans hcs (by simp)); clear hcs
              go_wp2_with fail
              go_roundw
              case rel => exact ⟨k + 1, by omega, by go_num, HC2.out⟩
              case measure => first | (simp [intOf]; done) | (simp [intOf]; omega)
          · have e1 : decide (x < -1048576) = false := decide_eq_false h.1
            have e2 : decide (1048576 < x) = true := decide_eq_true h.2
            have h1 := HR1.out wr (HC1.out.trans HC.out (by simp)) (0) (by omega)
            have h2 := HR2.out wr (HC1.out.trans HC.out (by simp)) (0) (by omega)
            have hlo := HLO.out (0)
            have hhi := HHI.out (0)
            generalize refF m (0) = E at *
            rcases hlo with hE | hE
            · have hmax : ∀ ats ty, Builtin.max_ ats ty #[.int .i64 E, .int .i64 0] = pure (.int .i64 E) := fun ats ty => by
                by_cases h9 : E = 0
                · subst h9; simp [Builtin.max_, Builtin.max2]
                · simp [Builtin.max_, Builtin.max2, show ¬ E < 0 by omega]
              have q1 : decide (0 ≤ E) = true := decide_eq_true hE
              rw [if_pos hE, q1] at h1
              have H1 := Lib.hid h1; clear h1
              have H2 := Lib.hid h2; clear h2
              go_wp2_with fail
              refine H1.out.mono ?_
              rintro e w' ⟨rfl, rfl⟩
              go_wp2_with fail
              refine H2.out.mono ?_
              rintro e w2 ⟨rfl, hcs⟩
              have HC2 := Lib.hid (HC.out.trans hcs (by simp)); clear hcs
              go_wp2_with fail
              go_roundw
              case rel => exact ⟨k + 1, by omega, by go_num, HC2.out⟩
              case measure => first | (simp [intOf]; done) | (simp [intOf]; omega)
            · subst hE
              have hmax : ∀ ats ty, Builtin.max_ ats ty #[.int .i64 (-1), .int .i64 0] = pure (.int .i64 0) := fun ats ty => by simp [Builtin.max_, Builtin.max2]
              rw [if_neg (by omega), show decide ((0 : Int) ≤ -1) = false from rfl] at h1
              have H1 := Lib.hid h1; clear h1
              have H2 := Lib.hid h2; clear h2
              go_wp2_with fail
              refine H1.out.mono ?_
              rintro e w' ⟨rfl, rfl⟩
              go_wp2_with fail
              refine H2.out.mono ?_
              rintro e w2 ⟨rfl, hcs⟩
              have HC2 := Lib.hid (HC.out.trans hcs (by simp)); clear hcs
              go_wp2_with fail
              go_roundw
              case rel => exact ⟨k + 1, by omega, by go_num, HC2.out⟩
              case measure => first | (simp [intOf]; done) | (simp [intOf]; omega)
        · have HC := Lib.hid (HC1.out.trans hc (by simp)); clear hc HB HC1
          by_cases hf : l < -1048576 ∨ 1048576 < l
          · have h1 := HR1.out wr HC.out l (by omega)
            rw [HFAR.out l hf, if_neg (by omega), show decide ((0 : Int) ≤ -1) = false from rfl] at h1
            have H1 := Lib.hid h1; clear h1
            by_cases h2 : l < -1048576
            · have e1 : decide (l < -1048576) = true := decide_eq_true h2
              go_wp2_with fail
              refine H1.out.mono ?_
              rintro e w' ⟨rfl, rfl⟩
              go_wp2_with fail
              go_ret
              exact ⟨rfl, HC.out⟩
            · have e1 : decide (l < -1048576) = false := decide_eq_false h2
              have e2 : decide (1048576 < l) = true := decide_eq_true (by omega)
              go_wp2_with fail
              refine H1.out.mono ?_
              rintro e w' ⟨rfl, rfl⟩
              go_wp2_with fail
              go_ret
              exact ⟨rfl, HC.out⟩
          · have e1 : decide (l < -1048576) = false := decide_eq_false (by omega)
            have e2 : decide (1048576 < l) = false := decide_eq_false (by omega)
            go_wp2_with fail
            go_ret
            exact ⟨rfl, HC.out⟩
end Go.Proofs.Ytkedpifopclipaa
namespace Go.Proofs.Ytkedpifopclipaa
open Go.RowKit Go.Mem Go.Aig
theorem eqSliceNil_CLints (w : World) (a : Option Addr) (n c : Nat) : (binOp .eql 23 (.slice a n c) (.slice none 0 0)).run Try.prog w = .ok (.bool a.isNone) w := by
  have h : Try.prog.underlying 23 = some (.slice 3) := Try.underlying23
  simp only [binOp]
  simp [run_equal_slice_nil w _ _ a n c h]
section
attribute [local go_sem] eqSliceNil_CLints
variable {w : World}
set_option maxRecDepth 100000 in
set_option maxHeartbeats 1000000 in
theorem CLints_is {a : Option Addr} {l : List Int} (n c : Nat) (hn : l.length = n) (h : Sl w a l) (hm : n ≤ 1000000) : Calls Try.prog 95 #[.slice a n c] w fun e w' => ∃ v, e = .returned v ∧ row w' 3 1 v n (intCells l) ∧ (∀ q ∈ v.ownBlock.toList, w.heap.size ≤ q) ∧ Ch [] w w' := by
  subst hn
  cases a with
  | none =>
    have hl : l = [] := by
      cases l with
      | nil => rfl
      | cons y l =>
        obtain ⟨b, o, e, _⟩ := h.cells 0 y rfl
        cases e
    subst hl
    clear h
    go_enter Try.func95, Try.ntmps95
    go_wp2_with fail
    go_ret
    exact ⟨_, rfl, ⟨rfl, .inl ⟨rfl, rfl⟩⟩, by simp, Ch.refl _ _⟩
  | some p =>
    have hO : row (w.alloc (.cells #[] 3)) 3 1 (.slice (some ⟨w.heap.size, 0, none⟩) 0 0) 0 [] := empty_row w _
    have hN : ∀ j u, (intCells l)[j]? = some u → (w.alloc (.cells #[] 3)).cell? (p.add j) = some u := fun j u hu => by
      unfold intCells at hu
      rw [List.getElem?_map, Option.map_eq_some_iff] at hu
      obtain ⟨x, hx, rfl⟩ := hu
      obtain ⟨b, o, e, hc⟩ := h.cells j x hx
      cases e
      rw [Addr.add_lit]
      exact (((Ch.refl [] w).alloc _).cell (cell_lt hc) (by simp)).trans hc
    have h1 : ∀ u ∈ intCells l, u.oneCell' = true := fun u hu => by
      obtain ⟨r, _, rfl⟩ := List.mem_map.1 hu
      rfl
    have HO := Lib.hid hO; clear hO
    have HN := Lib.hid hN; clear hN h
    have H1 := Lib.hid h1; clear h1
    go_enter Try.func95, Try.ntmps95
    go_wp2_with (at_builtin; go_loud (refine wpList_append_row slInts rfl _ _ rfl (v := .slice (some ⟨w.heap.size, 0, none⟩) 0 0) (n := 0) (xs := []) rfl HO.out (ad := p) (m := l.length) (c := c) (news := intCells l) rfl (by simp [intCells]) HN.out H1.out (by omega) (by omega) ?_; intro v' w2 hown hC2 hfresh; have HOWN := Lib.hid hown; clear hown; have HC2 := Lib.hid hC2; clear hC2; have HFR := Lib.hid hfresh; clear hfresh))
    go_ret
    have hown := HOWN.out
    rw [Nat.zero_add, List.nil_append] at hown
    refine ⟨_, rfl, hown, fun k hk => ?_, (((Ch.refl [] w).alloc (.cells #[] 3))).trans HC2.out (by simp [Value.ownBlock])⟩
    rcases HFR.out k (by simpa using hk) with e | e
    · simp [Value.ownBlock] at e; omega
    · simp at e; omega
end
theorem Eqbool_same {w : World} {a b : Option Addr} {n : Nat} {l : List Bool} (ca cb : Nat) (hn : l.length = n) (hx : Sb w a l) (hy : Sb w b l) : Calls Try.prog 47 #[.slice a n ca, .slice b n cb] w fun e w' => e = .returned (.bool true) ∧ Ch [] w w' := by
  subst hn
  have := Eqbool_is ca cb hx hy
  rw [decide_eq_true rfl] at this
  exact this
theorem EQmap_same {w : World} {a b : Option Addr} {n : Nat} {l : List Int} (ca cb : Nat) (hn : l.length = n) (hx : Sl w a l) (hy : Sl w b l) : Calls Try.prog 19 #[.slice a n ca, .slice b n cb] w fun e w' => e = .returned (.bool true) ∧ Ch [] w w' := by
  subst hn
  have := EQmap_is ca cb hx hy
  rw [decide_eq_true rfl] at this
  exact this
theorem NNew.sv {w w' : World} {a : Option Addr} {n c : Nat} {l : List Nat} (h : NNew w (.slice a n c) l w') (hl : l.length ≤ 1000000) : Sv w' a (refsCells l) := row.sv h.1 rfl hl
theorem NNew.sl {w w' : World} {a : Option Addr} {n c : Nat} {l : List Nat} (h : NNew w (.slice a n c) l w') (hl : l.length ≤ 1000000) : Sl w' a (natInts l) := (h.sv hl).sl
theorem NNew.shape {w w' : World} {v : Value} {l : List Nat} (h : NNew w v l w') : ∃ a c, v = .slice a l.length c := row.shape h.1
section
variable {w : World}
set_option maxRecDepth 100000 in
set_option maxHeartbeats 8000000 in
theorem reads27_is {a : Option Addr} {n ncap : Nat} {l : List N21} (hS : NodeS w a n ncap l) (hn : n ≤ 60) {ma : Option Addr} {mn mc : Nat} {m : List Int} (hM : IntS w ma mn mc m) (hm : mn ≤ 70) {xa : Option Addr} {xn xc : Nat} {ins : List Bool} (hX : BoolS w xa xn xc ins) (hx : xn ≤ 70) {ya : Option Addr} {yn yc : Nat} {mv : List Bool} (hY : BoolS w ya yn yc mv) (hy : yn ≤ 70) :
    Calls Try.prog 28 #[.slice a n ncap, .slice ma mn mc, .slice xa xn xc, .slice ya yn yc] w fun e w' => e = .returned (.bool true) ∧ Ch [] w w' := by
  have hBu := build27_is hS (by omega)
  have hMl := hM.len
  have hXl := hX.len
  have hYl := hY.len
  have HBU := Lib.hid hBu; clear hBu hS
  have HM := Lib.hid hM.sl; clear hM
  have HX := Lib.hid hX.sl; clear hX
  have HY := Lib.hid hY.sl; clear hY
  have HML := Lib.hid hMl; clear hMl
  have HXL := Lib.hid hXl; clear hXl
  have HYL := Lib.hid hYl; clear hYl
  go_enter Try.func28, Try.ntmps28
  go_wp2_with fail
  refine HBU.out.mono ?_
  rintro e w1 ⟨g, F, rb, cap, G, rfl, hb, hm2, hnl, _⟩
  clear hm2
  have hc1 := hb.ch
  have HM1 := Lib.hid (HM.out.ch hc1 (by simp)); clear HM
  have HX1 := Lib.hid (HX.out.ch hc1 (by simp)); clear HX
  have HY1 := Lib.hid (HY.out.ch hc1 (by simp)); clear HY
  have HBO := Lib.hid hb; clear hb
  have HC1 := Lib.hid hc1; clear hc1 HBU
  go_upto_region 2 with fail
  refine wp_alw ?_
  intro W2 hW2
  have b10 := alw_blk (xs := [.int .i64 G.most, .slice (some ⟨rb, 0, none⟩) G.nodes.length cap]) hW2
  have hc2 := alw_ch hW2
  clear hW2
  obtain ⟨bx, hbx⟩ : ∃ bx, bx = w1.heap.size := ⟨_, rfl⟩
  rw [← hbx] at b10 ⊢
  clear hbx
  have B10 := Lib.hid b10; clear b10
  have HB := Lib.hid (HBO.out.same hc2); clear HBO
  have HM := Lib.hid (HM1.out.ch hc2 (by simp)); clear HM1
  have HX := Lib.hid (HX1.out.ch hc2 (by simp)); clear HX1
  have HY := Lib.hid (HY1.out.ch hc2 (by simp)); clear HY1
  have HC2 := Lib.hid (HC1.out.trans hc2 (by simp)); clear HC1 hc2
  go_wp2_with fail
  refine (CLints_is (w := W2) mn mc HML.out HM.out (by omega)).mono ?_
  rintro e w3 ⟨v, rfl, hr1, _, hc3⟩
  obtain ⟨oa, oc, rfl⟩ := row.shape hr1
  have HR1 := Lib.hid hr1; clear hr1
  have HC3 := Lib.hid hc3; clear hc3
  go_wp2_with fail
  refine (Clbool_is (w := w3) xn xc HXL.out (HX.out.ch HC3.out (by simp)) (by omega)).mono ?_
  rintro e w4 ⟨v, rfl, hr2, _, hc4⟩
  obtain ⟨pa, pc, rfl⟩ := row.shape hr2
  have HR2 := Lib.hid hr2; clear hr2
  have HR1b := Lib.hid (HR1.out.ch hc4 (by simp)); clear HR1
  have HC4 := Lib.hid (HC3.out.trans hc4 (by simp)); clear hc4 HC3
  go_wp2_with fail
  refine (Clbool_is (w := w4) yn yc HYL.out (HY.out.ch HC4.out (by simp)) (by omega)).mono ?_
  rintro e w5 ⟨v, rfl, hr3, _, hc5⟩
  obtain ⟨qa, qc, rfl⟩ := row.shape hr3
  have SQ := Lib.hid (row.sv hr3 rfl (by omega)); clear hr3
  have SP := Lib.hid ((row.sv HR2.out rfl (by omega)).ch hc5 (by simp)); clear HR2
  have SO := Lib.hid ((Sl.of_ints HR1b.out (by omega)).ch hc5 (by simp)); clear HR1b
  have HC5 := Lib.hid (HC4.out.trans hc5 (by simp)); clear hc5 HC4
  have hrr := r27Right_is (HB.out.rg.ch HC5.out (by simp)) (a := ma) (m := m) mn mc HML.out (by omega) (HM.out.ch HC5.out (by simp))
  have y0 := (B10.out.ch HC5.out (by simp)).cell (i := 0) rfl
  have y1 := (B10.out.ch HC5.out (by simp)).cell (i := 1) rfl
  -- what the calls that follow return, at whatever world behind w5
  have hmo := fun (W : World) (hc : Ch [] w5 W) => tsModel_is ((HB.out.gin.same HC5.out (by simp)).same hc (by simp)) (a := oa) (m := m) mn oc HML.out (by omega) (SO.out.ch hc (by simp)) (xa := pa) (ins := ins) xn pc HXL.out (SP.out.ch hc (by simp)) (by omega)
  have hin := fun (W : World) (hc : Ch [] w5 W) => tsInputs_is ((HB.out.gin.same HC5.out (by simp)).same hc (by simp)) (a := oa) (m := m) mn oc HML.out (by omega) (SO.out.ch hc (by simp)) (xa := qa) (mv := mv) yn qc HYL.out (SQ.out.ch hc (by simp)) (by omega)
  have hri := fun (W : World) (hc : Ch [] w5 W) => tsRight_is ((HB.out.gin.same HC5.out (by simp)).same hc (by simp)) (a := oa) (m := m) mn oc HML.out (by omega) (SO.out.ch hc (by simp))
  have hrm := fun (h : rightM G.nodes m = true) (W : World) (hc : Ch [] w5 W) (za : Option Addr) (zc : Nat) (hz : Sv W za (refsCells (bitsN ins))) => r27Model_is ((HB.out.rg.ch HC5.out (by simp)).ch hc (by simp)) (a := ma) (m := m) mn mc HML.out (by omega) ((HM.out.ch HC5.out (by simp)).ch hc (by simp)) h xn zc HXL.out (by omega) hz
  have hrn := fun (h : rightM G.nodes m = true) (W : World) (hc : Ch [] w5 W) (za : Option Addr) (zc : Nat) (hz : Sv W za (refsCells (bitsN mv))) => r27Inputs_is ((HB.out.rg.ch HC5.out (by simp)).ch hc (by simp)) (a := ma) (m := m) mn mc HML.out (by omega) ((HM.out.ch HC5.out (by simp)).ch hc (by simp)) h yn zc HYL.out (by omega) hz
  have hrf := fun (W : World) (hc : Ch [] w5 W) => refs27_is (w := W) (a := oa) (m := m) mn oc HML.out (by omega) (SO.out.ch hc (by simp)) 6 2 (by omega) (by omega)
  have hmno : rightM G.nodes m = false → modelR G m ins = ([], 271) ∧ insR G m mv = ([], 271) := fun h => by
    unfold modelR insR
    rw [if_pos h, if_pos h]
    exact ⟨rfl, rfl⟩
  have hmle : (modelR G m ins).1.length ≤ 70 := by
    unfold modelR
    split
    · simp
    · split
      · simp
      · simp only [List.length_map]; have := HML.out; omega
  have hile : (insR G m mv).1.length ≤ 61 := by
    unfold insR
    split
    · simp
    · split
      · simp
      · unfold insV
        simp only [List.length_map]
        have : ∀ (l : List Nd) (k : Nat), (inputsFrom l k).length ≤ l.length := fun l => by
          induction l with
          | nil => intro n; simp [inputsFrom]
          | cons a l ih => intro n; unfold inputsFrom; split <;> simp <;> have := ih (n + 1) <;> omega
        have := this G.nodes 0
        unfold inputs
        omega
  obtain ⟨MR, hMR⟩ : ∃ MR, modelR G m ins = MR := ⟨_, rfl⟩
  obtain ⟨IR, hIR⟩ : ∃ IR, insR G m mv = IR := ⟨_, rfl⟩
  obtain ⟨RM, hRM⟩ : ∃ RM, rightM G.nodes m = RM := ⟨_, rfl⟩
  simp only [hMR] at hmo hrm hmno hmle
  simp only [hIR] at hin hrn hmno hile
  simp only [hRM] at hrr hri hrm hrn hmno
  clear hMR hIR hRM
  obtain ⟨P, e1⟩ := MR
  obtain ⟨Q, e2⟩ := IR
  simp only at hmo hin hrm hrn hmle hile hmno
  obtain ⟨pl, hpl⟩ : ∃ pl, P.length = pl := ⟨_, rfl⟩
  obtain ⟨ql, hql⟩ : ∃ ql, Q.length = ql := ⟨_, rfl⟩
  rw [hpl] at hmle
  rw [hql] at hile
  have HMO := Lib.hid hmo; clear hmo
  have HIN := Lib.hid hin; clear hin
  have HRI := Lib.hid hri; clear hri
  have HRM := Lib.hid hrm; clear hrm
  have HRN := Lib.hid hrn; clear hrn
  have HRF := Lib.hid hrf; clear hrf
  have HRR := Lib.hid hrr; clear hrr
  have HPL := Lib.hid hpl; clear hpl
  have HQL := Lib.hid hql; clear hql
  have HNOO := Lib.hid hmno; clear hmno
  go_wp2_with fail
  clear y0 y1
  refine HRR.out.mono ?_
  rintro e w6 ⟨rfl, hc6⟩
  have HC6 := Lib.hid hc6; clear hc6 HRR
  go_wp2_with fail
  refine (HMO.out w6 HC6.out).mono ?_
  rintro e w7 ⟨v, rfl, hr1, _, hc7⟩
  rw [HPL.out] at hr1
  obtain ⟨ua, uc, rfl⟩ := row.shape hr1
  have HR1 := Lib.hid hr1; clear hr1
  have HC7 := Lib.hid (HC6.out.trans hc7 (by simp)); clear hc7 HC6 HMO
  go_wp2_with fail
  refine (HIN.out w7 HC7.out).mono ?_
  rintro e w8 ⟨v, rfl, hr2, _, hc8⟩
  rw [HQL.out] at hr2
  obtain ⟨va, vc, rfl⟩ := row.shape hr2
  have HR2 := Lib.hid hr2; clear hr2
  have HR1b := Lib.hid (HR1.out.ch hc8 (by simp)); clear HR1
  have HC8 := Lib.hid (HC7.out.trans hc8 (by simp)); clear hc8 HC7 HIN
  go_wp2_with fail
  refine (HRI.out w8 HC8.out).mono ?_
  rintro e w9 ⟨rfl, hc9⟩
  have HR1 := Lib.hid (HR1b.out.ch hc9 (by simp)); clear HR1b
  have HR3 := Lib.hid (HR2.out.ch hc9 (by simp)); clear HR2
  have HC9 := Lib.hid (HC8.out.trans hc9 (by simp)); clear hc9 HC8 HRI
  cases RM
  · obtain ⟨h1, h2⟩ := HNOO.out rfl
    cases h1
    cases h2
    have hpl := HPL.out
    have hql := HQL.out
    simp only [List.length_nil] at hpl hql
    subst hpl
    subst hql
    clear HPL HQL HNOO HRM HRN
    go_wp2_with fail
    go_ret
    exact ⟨by simp, (HC2.out.trans HC5.out (by simp)).trans HC9.out (by simp)⟩
  · have hb1 := fun (W : World) (h : Ch [] w9 W) => bits27_is (w := W) xn xc HXL.out (by omega) ((HX.out.ch HC5.out (by simp)).ch (HC9.out.trans h (by simp)) (by simp))
    have hb2 := fun (W : World) (h : Ch [] w9 W) => bits27_is (w := W) yn yc HYL.out (by omega) ((HY.out.ch HC5.out (by simp)).ch (HC9.out.trans h (by simp)) (by simp))
    have HB1 := Lib.hid hb1; clear hb1
    have HB2 := Lib.hid hb2; clear hb2
    have hcx : Ch [] W2 w9 := HC5.out.trans HC9.out (by simp)
    have b9 := B10.out.ch hcx (by simp)
    have y0 := b9.cell (i := 0) rfl
    have y1 := b9.cell (i := 1) rfl
    have HX9 := Lib.hid hcx; clear hcx
    have B9 := Lib.hid b9; clear b9
    clear HNOO
    go_wp2_with fail
    refine Ord.St.door (fun w' => Ch [] w9 w') [.ho, .fl, .fl, .ef, .ef, .fl, .fl, .fl, .fl, .fl] [0, 0, 0, 4, 15, 31, 63, 63, 127, 511] [0, 1, 2, 3, 4, 5, 6, 7, 8, 9] mixed (by kernel_rfl) rfl ?_
    refine Ord.St.ho2 (T' := ?_) 0 [1, 2, 3, 4, 5, 6, 7, 8, 9] _ _ rfl (by kernel_rfl) rfl rfl rfl rfl ?_ (fun K w' hw' hk => ?_) ?_
    rotate_left
    · exact (Ch.refl _ _).drew
    · have y0' := (hw'.cell (cell_lt y0) (by simp)).trans y0; have y1' := (hw'.cell (cell_lt y1) (by simp)).trans y1; go_step; exact hk
    refine Ord.St.fl2 (T' := ?_) 1 [2, 3, 4, 5, 6, 7, 8, 9] _ _ rfl (by kernel_rfl) rfl rfl rfl rfl (fun K w' hk => ?_) ?_
    rotate_left
    · go_step; exact hk
    refine Ord.St.fl2 (T' := ?_) 2 [3, 4, 5, 6, 7, 8, 9] _ _ rfl (by kernel_rfl) rfl rfl rfl rfl (fun K w' hk => ?_) ?_
    rotate_left
    · go_step; exact hk
    refine Ord.St.efC 3 [4, 5, 6, 7, 8, 9] _ rfl (by kernel_rfl) (fun K hK => ?_)
    obtain ⟨Wc, hWc⟩ : ∃ Wc, Wc = w9.drew := ⟨_, rfl⟩
    try rw [← hWc]
    have hcd : Ch [] w9 Wc := by rw [hWc]; exact (Ch.refl _ _).drew
    clear hWc
    have HCD := Lib.hid hcd; clear hcd
    have hq := HB1.out Wc HCD.out
    have HQ := Lib.hid hq; clear hq
    go_wp2_with fail
    refine HQ.out.mono ?_
    rintro e w10 ⟨v, rfl, hn1⟩
    obtain ⟨sa, sc, rfl⟩ := hn1.shape
    rw [bitsN_len, HXL.out]
    have hsv := hn1.sv (by rw [bitsN_len, HXL.out]; omega)
    have hcy := HCD.out.trans hn1.2.2 (by simp)
    have HCY := Lib.hid hcy; clear hcy
    have HSV := Lib.hid hsv; clear hsv hn1 HQ
    go_wp2_with fail
    refine ⟨rfl, hK _ _ ?_ ?_⟩
    · exact HCY.out
    clear hK K
    refine Ord.St.ef 4 [5, 6, 7, 8, 9] _ rfl (by kernel_rfl) (fun K hK => ?_)
    have hq := HRM.out trivial w10 (HC9.out.trans HCY.out (by simp)) sa sc HSV.out
    have HQ := Lib.hid hq; clear hq
    go_wp2_with fail
    refine HQ.out.mono ?_
    rintro e w11 ⟨v, rfl, hn1⟩
    obtain ⟨fa, fc, rfl⟩ := hn1.shape
    rw [bitsN_len, HPL.out]
    have hsl := hn1.sl (by rw [bitsN_len, HPL.out]; omega)
    have hcy := HCY.out.trans hn1.2.2 (by simp)
    have HCZ := Lib.hid hcy; clear hcy
    have HSF := Lib.hid hsl; clear hsl hn1 HQ
    go_wp2_with fail
    refine ⟨rfl, hK _ _ ?_⟩; clear hK K
    refine Ord.St.fl2 (T' := ?_) 5 [6, 7, 8, 9] _ _ rfl (by kernel_rfl) rfl rfl rfl rfl (fun K w' hk => ?_) ?_
    rotate_left
    · go_step; exact hk
    refine Ord.St.fl2 (T' := ?_) 6 [7, 8, 9] _ _ rfl (by kernel_rfl) rfl rfl rfl rfl (fun K w' hk => ?_) ?_
    rotate_left
    · go_step; exact hk
    refine Ord.St.fl2 (T' := ?_) 7 [8, 9] _ _ rfl (by kernel_rfl) rfl rfl rfl rfl (fun K w' hk => ?_) ?_
    rotate_left
    · go_step; exact hk
    refine Ord.St.fl2 (T' := ?_) 8 [9] _ _ rfl (by kernel_rfl) rfl rfl rfl rfl (fun K w' hk => ?_) ?_
    rotate_left
    · go_step; exact hk
    refine Ord.St.fl2 (T' := ?_) 9 [] _ _ rfl (by kernel_rfl) rfl rfl rfl rfl (fun K w' hk => ?_) ?_
    rotate_left
    · go_step; exact hk
    refine Ord.St.nil ?_
    have y0 := (B9.out.ch HCZ.out (by simp)).cell (i := 0) rfl
    have y1 := (B9.out.ch HCZ.out (by simp)).cell (i := 1) rfl
    clear HSV HCY HCD HB1
    go_wp2_with fail
    refine Ord.St.door (fun w' => Ch [] w11 w') [.ho, .fl, .fl, .ef, .ef, .fl, .fl, .fl, .fl, .fl] [0, 0, 0, 4, 15, 31, 63, 63, 127, 511] [0, 1, 2, 3, 4, 5, 6, 7, 8, 9] mixed (by kernel_rfl) rfl ?_
    refine Ord.St.ho2 (T' := ?_) 0 [1, 2, 3, 4, 5, 6, 7, 8, 9] _ _ rfl (by kernel_rfl) rfl rfl rfl rfl ?_ (fun K w' hw' hk => ?_) ?_
    rotate_left
    · exact (Ch.refl _ _).drew
    · have y0' := (hw'.cell (cell_lt y0) (by simp)).trans y0; have y1' := (hw'.cell (cell_lt y1) (by simp)).trans y1; go_step; exact hk
    refine Ord.St.fl2 (T' := ?_) 1 [2, 3, 4, 5, 6, 7, 8, 9] _ _ rfl (by kernel_rfl) rfl rfl rfl rfl (fun K w' hk => ?_) ?_
    rotate_left
    · go_step; exact hk
    refine Ord.St.fl2 (T' := ?_) 2 [3, 4, 5, 6, 7, 8, 9] _ _ rfl (by kernel_rfl) rfl rfl rfl rfl (fun K w' hk => ?_) ?_
    rotate_left
    · go_step; exact hk
    refine Ord.St.efC 3 [4, 5, 6, 7, 8, 9] _ rfl (by kernel_rfl) (fun K hK => ?_)
    obtain ⟨Wc, hWc⟩ : ∃ Wc, Wc = w11.drew := ⟨_, rfl⟩
    try rw [← hWc]
    have hcd : Ch [] w11 Wc := by rw [hWc]; exact (Ch.refl _ _).drew
    clear hWc
    have HCD := Lib.hid hcd; clear hcd
    have hq := HB2.out Wc (HCZ.out.trans HCD.out (by simp))
    have HQ := Lib.hid hq; clear hq
    go_wp2_with fail
    refine HQ.out.mono ?_
    rintro e w12 ⟨v, rfl, hn1⟩
    obtain ⟨sa2, sc2, rfl⟩ := hn1.shape
    rw [bitsN_len, HYL.out]
    have hsv := hn1.sv (by rw [bitsN_len, HYL.out]; omega)
    have hcy := HCD.out.trans hn1.2.2 (by simp)
    have HCY := Lib.hid hcy; clear hcy
    have HSV := Lib.hid hsv; clear hsv hn1 HQ
    go_wp2_with fail
    refine ⟨rfl, hK _ _ ?_ ?_⟩
    · exact HCY.out
    clear hK K
    refine Ord.St.ef 4 [5, 6, 7, 8, 9] _ rfl (by kernel_rfl) (fun K hK => ?_)
    have hq := HRN.out trivial w12 (HC9.out.trans (HCZ.out.trans HCY.out (by simp)) (by simp)) sa2 sc2 HSV.out
    have HQ := Lib.hid hq; clear hq
    go_wp2_with fail
    refine HQ.out.mono ?_
    rintro e w13 ⟨v, rfl, hn1⟩
    obtain ⟨ga, gc, rfl⟩ := hn1.shape
    rw [bitsN_len, HQL.out]
    have hsl := hn1.sl (by rw [bitsN_len, HQL.out]; omega)
    have hcy := HCY.out.trans hn1.2.2 (by simp)
    have HC13 := Lib.hid hcy; clear hcy
    have HSG := Lib.hid hsl; clear hsl hn1 HQ
    go_wp2_with fail
    refine ⟨rfl, hK _ _ ?_⟩; clear hK K
    refine Ord.St.fl2 (T' := ?_) 5 [6, 7, 8, 9] _ _ rfl (by kernel_rfl) rfl rfl rfl rfl (fun K w' hk => ?_) ?_
    rotate_left
    · go_step; exact hk
    refine Ord.St.fl2 (T' := ?_) 6 [7, 8, 9] _ _ rfl (by kernel_rfl) rfl rfl rfl rfl (fun K w' hk => ?_) ?_
    rotate_left
    · go_step; exact hk
    refine Ord.St.fl2 (T' := ?_) 7 [8, 9] _ _ rfl (by kernel_rfl) rfl rfl rfl rfl (fun K w' hk => ?_) ?_
    rotate_left
    · go_step; exact hk
    refine Ord.St.fl2 (T' := ?_) 8 [9] _ _ rfl (by kernel_rfl) rfl rfl rfl rfl (fun K w' hk => ?_) ?_
    rotate_left
    · go_step; exact hk
    refine Ord.St.fl2 (T' := ?_) 9 [] _ _ rfl (by kernel_rfl) rfl rfl rfl rfl (fun K w' hk => ?_) ?_
    rotate_left
    · go_step; exact hk
    refine Ord.St.nil ?_
    have hc913 := HCZ.out.trans HC13.out (by simp)
    have HSF2 := Lib.hid (HSF.out.ch HC13.out (by simp)); clear HSF
    have HC := Lib.hid hc913; clear hc913 HCZ HC13 HCY HCD HSV HB2
    have hq := bits27_is (w := w13) (a := ua) pl uc HPL.out (by omega) (row.sv (HR1.out.ch HC.out (by simp)) rfl (by omega))
    have HQ := Lib.hid hq; clear hq
    have z1 : ((e1 : Int) == (e1 : Int)) = true := by simp
    have z2 : ((e2 : Int) == (e2 : Int)) = true := by simp
    go_wp2_with fail
    refine HQ.out.mono ?_
    rintro e w14 ⟨v, rfl, hn1⟩
    obtain ⟨ha, hcx, rfl⟩ := hn1.shape
    rw [bitsN_len, HPL.out]
    have hsl := hn1.sl (by rw [bitsN_len, HPL.out]; omega)
    have hE := Eqint_same (w := w14) hcx fc (n := pl) (by rw [natInts_len, bitsN_len, HPL.out]) hsl (HSF2.out.ch hn1.2.2 (by simp))
    have HC2b := Lib.hid (HC.out.trans hn1.2.2 (by simp))
    have HSG2 := Lib.hid (HSG.out.ch hn1.2.2 (by simp)); clear HSG
    have HE := Lib.hid hE; clear hE hsl hn1 HQ HSF2 HC
    go_wp2_with fail
    refine HE.out.mono ?_
    rintro e w15 ⟨rfl, hcs⟩
    have HC := Lib.hid (HC2b.out.trans hcs (by simp)); clear HC2b HE
    have HSG := Lib.hid (HSG2.out.ch hcs (by simp)); clear HSG2 hcs
    have hq := bits27_is (w := w15) (a := va) ql vc HQL.out (by omega) (row.sv (HR3.out.ch HC.out (by simp)) rfl (by omega))
    have HQ := Lib.hid hq; clear hq
    go_wp2_with fail
    refine HQ.out.mono ?_
    rintro e w16 ⟨v, rfl, hn1⟩
    obtain ⟨ia, icx, rfl⟩ := hn1.shape
    rw [bitsN_len, HQL.out]
    have hsl := hn1.sl (by rw [bitsN_len, HQL.out]; omega)
    have hE := Eqint_same (w := w16) icx gc (n := ql) (by rw [natInts_len, bitsN_len, HQL.out]) hsl (HSG.out.ch hn1.2.2 (by simp))
    have HC2b := Lib.hid (HC.out.trans hn1.2.2 (by simp))
    have HE := Lib.hid hE; clear hE hsl hn1 HQ HSG HC
    go_wp2_with fail
    refine HE.out.mono ?_
    rintro e w17 ⟨rfl, hcs⟩
    have HC := Lib.hid (HC2b.out.trans hcs (by simp)); clear HC2b HE hcs
    have h5 := HC9.out.trans HC.out (by simp)
    have H5 := Lib.hid h5; clear h5
    have hE := EQmap_same (w := w17) oc mc HML.out (SO.out.ch H5.out (by simp)) ((HM.out.ch HC5.out (by simp)).ch H5.out (by simp))
    have HE := Lib.hid hE; clear hE
    go_wp2_with fail
    refine HE.out.mono ?_
    rintro e w18 ⟨rfl, hcs⟩
    have h5 := H5.out.trans hcs (by simp)
    have H6 := Lib.hid h5; clear h5 hcs H5 HE
    have hE := Eqbool_same (w := w18) pc xc HXL.out (SP.out.ch H6.out (by simp)) ((HX.out.ch HC5.out (by simp)).ch H6.out (by simp))
    have HE := Lib.hid hE; clear hE
    go_wp2_with fail
    refine HE.out.mono ?_
    rintro e w19 ⟨rfl, hcs⟩
    have h5 := H6.out.trans hcs (by simp)
    have H5 := Lib.hid h5; clear h5 hcs H6 HE
    have hE := Eqbool_same (w := w19) qc yc HYL.out (SQ.out.ch H5.out (by simp)) ((HY.out.ch HC5.out (by simp)).ch H5.out (by simp))
    have HE := Lib.hid hE; clear hE
    go_wp2_with fail
    refine HE.out.mono ?_
    rintro e w20 ⟨rfl, hcs⟩
    have h5 := H5.out.trans hcs (by simp)
    have H6 := Lib.hid h5; clear h5 hcs H5 HE
    have hE := HRF.out w20 H6.out
    have HE := Lib.hid hE; clear hE
    go_wp2_with fail
    refine HE.out.mono ?_
    rintro e w21 ⟨rfl, hcs⟩
    have h5 := H6.out.trans hcs (by simp)
    have H5 := Lib.hid h5; clear h5 hcs H6 HE
    go_wp2_with fail
    go_ret
    exact ⟨by simp, (HC2.out.trans HC5.out (by simp)).trans H5.out (by simp)⟩
end
end Go.Proofs.Ytkedpifopclipaa
namespace Go.Proofs.Ytkedpifopclipaa
open Go.RowKit Go.Mem Go.Aig
set_option maxRecDepth 100000 in
set_option maxHeartbeats 4000000 in
theorem TseitinReads_walk {w : World} {a : Option Addr} {n ncap : Nat} {l : List N21} (hS : NodeS w a n ncap l) {ma : Option Addr} {mn mc : Nat} {m : List Int} (hM : IntS w ma mn mc m) {xa : Option Addr} {xn xc : Nat} {ins : List Bool} (hX : BoolS w xa xn xc ins) {ya : Option Addr} {yn yc : Nat} {mv : List Bool} (hY : BoolS w ya yn yc mv) :
    Calls Try.prog 5 #[.slice a n ncap, .slice ma mn mc, .slice xa xn xc, .slice ya yn yc] w fun e w' => e = .returned (.bool true) ∧ Ch [] w w' := by
  have hl1 := hS.max
  have hl1b := hS.le
  have hl2 := hM.max
  have hl2b := hM.le
  have hl3 := hX.max
  have hl3b := hX.le
  have hl4 := hY.max
  have hl4b := hY.le
  have hrd := fun h1 h2 h3 h4 => reads27_is hS h1 hM h2 hX h3 hY h4
  have HRD := Lib.hid hrd; clear hrd hS hM hX hY
  by_cases h1 : 60 < n
  · have d1 : decide (60 < n) = true := decide_eq_true h1
    go_enter Try.func5, Try.ntmps5
    go_wp2_with fail
    refine (awake27_is w).mono ?_
    rintro e w1 ⟨rfl, hc1⟩
    have HC1 := Lib.hid hc1; clear hc1
    go_wp2_with fail
    go_ret
    exact ⟨rfl, HC1.out⟩
  have d1 : decide (60 < n) = false := decide_eq_false h1
  by_cases h2 : 70 < mn
  · have d2 : decide (70 < mn) = true := decide_eq_true h2
    go_enter Try.func5, Try.ntmps5
    go_wp2_with fail
    refine (awake27_is w).mono ?_
    rintro e w1 ⟨rfl, hc1⟩
    have HC1 := Lib.hid hc1; clear hc1
    go_wp2_with fail
    go_ret
    exact ⟨rfl, HC1.out⟩
  have d2 : decide (70 < mn) = false := decide_eq_false h2
  by_cases h3 : 70 < xn
  · have d3 : decide (70 < xn) = true := decide_eq_true h3
    go_enter Try.func5, Try.ntmps5
    go_wp2_with fail
    refine (awake27_is w).mono ?_
    rintro e w1 ⟨rfl, hc1⟩
    have HC1 := Lib.hid hc1; clear hc1
    go_wp2_with fail
    go_ret
    exact ⟨rfl, HC1.out⟩
  have d3 : decide (70 < xn) = false := decide_eq_false h3
  by_cases h4 : 70 < yn
  · have d4 : decide (70 < yn) = true := decide_eq_true h4
    go_enter Try.func5, Try.ntmps5
    go_wp2_with fail
    refine (awake27_is w).mono ?_
    rintro e w1 ⟨rfl, hc1⟩
    have HC1 := Lib.hid hc1; clear hc1
    go_wp2_with fail
    go_ret
    exact ⟨rfl, HC1.out⟩
  have d4 : decide (70 < yn) = false := decide_eq_false h4
  have hr := HRD.out (by omega) (by omega) (by omega) (by omega)
  have HR := Lib.hid hr; clear hr HRD
  go_enter Try.func5, Try.ntmps5
  go_wp2_with fail
  refine HR.out.mono ?_
  rintro e w1 ⟨rfl, hc1⟩
  have HC1 := Lib.hid hc1; clear hc1 HR
  go_wp2_with fail
  refine (awake27_is w1).mono ?_
  rintro e w2 ⟨rfl, hc2⟩
  have HC2 := Lib.hid (HC1.out.trans hc2 (by simp)); clear hc2
  go_wp2_with fail
  go_ret
  exact ⟨rfl, HC2.out⟩
end Go.Proofs.Ytkedpifopclipaa
