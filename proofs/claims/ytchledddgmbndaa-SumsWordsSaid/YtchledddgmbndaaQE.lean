/-
  Walk over words of chapter 23's law: true. Conditions: at most 30 references and truths.
  Walk over SumsWords: true, whatever comes in. Conditions: none.
-/
import Derived.Test.YtchledddgmbndaaQD
namespace Go.Aig
theorem bitsVal_drop {l : List Bool} {j : Nat} {b : Bool} (h : l[j]? = some b) : bitsVal (l.drop j) = b.toNat + 2 * bitsVal (l.drop (j + 1)) := by
  have hlt := (List.getElem?_eq_some_iff.1 h).1
  rw [List.drop_eq_getElem_cons hlt]
  have : l[j] = b := (List.getElem?_eq_some_iff.1 h).2
  rw [this]; rfl
theorem bitsVal_drop_lt {l : List Bool} (h : l.length ≤ 16) (j : Nat) : bitsVal (l.drop j) < 65536 := by
  have h1 := bitsVal_lt (l.drop j)
  have h2 : (2 : Nat) ^ (l.drop j).length ≤ 2 ^ 16 := Nat.pow_le_pow_right (by omega) (by rw [List.length_drop]; omega)
  omega
end Go.Aig
namespace Go.Proofs.Ytchledddgmbndaa
open Go.RowKit Go.Mem Go.Aig
theorem rowCap {w : World} {e : TypeId} {a : Option Addr} {m n c : Nat} {xs : List Value} (h : row w e 1 (.slice a m c) n xs) : m ≤ c := by
  rcases h.2 with ⟨e, _⟩ | ⟨_, _, _, e, _, _, hle, _⟩
  · cases e; omega
  · cases e; exact hle
theorem WNew.parts {w w' : World} {v : Value} {xs : List Value} {n : Nat} (h : WNew w v xs w') (hn : xs.length = n) : ∃ a c, v = .slice a n c ∧ row w' 34 1 (.slice a n c) n xs ∧ (∀ q ∈ (Value.slice a n c).ownBlock.toList, w.heap.size ≤ q) ∧ Ch [] w w' := by
  subst hn
  obtain ⟨h1, h2, h3⟩ := h
  obtain ⟨a, c, rfl⟩ := row.shape h1
  exact ⟨a, c, rfl, h1, h2, h3⟩
section
variable {w : World}
set_option maxRecDepth 100000 in
set_option maxHeartbeats 8000000 in
theorem words23_ffT {x : Nat} (hx : x < 4294967296) {width : Int} (hr : rightW width = false) {la va : Option Addr} {l : List Int} {vs : List Bool} (lc vc : Nat) (hS : Sl w la l) (hV : Sb w va vs) (hl : l.length ≤ 30) (hm : vs.length ≤ 30) (hbd : ∀ r ∈ l, -9223372036854775808 ≤ r ∧ r ≤ 9223372036854775807)  (hv1 : 1 ≤ l.length) (hv2 : l.length ≤ 16) (hv3 : vs.length = l.length) :
    Calls Try.prog 12 #[.int .u32 x, .int .i64 width, .slice la l.length lc, .slice va vs.length vc] w fun e w' => e = .returned (.bool true) ∧ Ch [] w w' := by
  have HRf := Refs23_is (w := w) l.length lc rfl hS (by omega)
  have HS := Lib.hid hS; clear hS
  have HV := Lib.hid hV; clear hV
  have HBD := Lib.hid hbd; clear hbd
  have hbq : ((vs.length : Int) == (l.length : Int)) = true := beqI (by omega)
  have HV3 := Lib.hid hv3; clear hv3
  go_enter Try.func12, Try.ntmps12
  go_wp2_with fail
  refine HRf.mono ?_
  rintro e w1 ⟨vo, rfl, hro, hlo, hc1⟩
  obtain ⟨oa, oc, rfl⟩ := row.shape hro
  have HCB := Clbool_is (w := w1) vs.length vc rfl (HV.out.ch hc1 (by simp)) (by omega)
  go_wp2_with fail
  refine HCB.mono ?_
  rintro e w2 ⟨vl, rfl, hrl, hll, hc2⟩
  obtain ⟨ta, tc, rfl⟩ := row.shape hrl
  have HCo := sConst_is (w := w2) x hx width
  rw [hr] at HCo
  simp only [if_true, Bool.false_eq_true, if_false, Int.toNat_natCast] at HCo
  go_wp2_with fail
  refine HCo.mono ?_
  rintro e w3 ⟨vcc, rfl, hnc⟩
  obtain ⟨ca, cc, rfl, hrc, hlc, hc3⟩ := hnc.parts (n := 0) (by simp [refsCells, constL])
  have hro3 := (hro.ch hc2 (by simp)).ch hc3 (by simp)
  have hwv : WVok w3 ⟨oa, l, oc⟩ := ⟨Sl.of_ints hro3 (by omega), HBD.out, by simp only; omega⟩
  have hcap : l.length ≤ oc := rowCap hro3
  have HCa := sCast_is hwv hcap width
  simp only [hr, WV.val, Bool.and_self, Bool.false_and, Bool.and_false, if_true, Bool.false_eq_true, if_false, Int.toNat_natCast] at HCa
  go_wp2_with fail
  refine HCa.mono ?_
  rintro e w4 ⟨vd, rfl, hnd⟩
  obtain ⟨da, dc, rfl, hrd, hld, hc4⟩ := hnd.parts (n := 0) (by simp [intCells, castL])
  have hrl4 := (hrl.ch hc3 (by simp)).ch hc4 (by simp)
  have HVa := sValue_is (w := w4) (x := ⟨oa, l, oc⟩) (by simp only; omega) (a := ta) (l := vs) tc (by omega) (row.sv hrl4 rfl (by omega))
  simp only [WV.val] at HVa
  rw [if_pos ⟨by have := HV3.out; omega, by have := HV3.out; omega, HV3.out⟩, if_pos ⟨by have := HV3.out; omega, by have := HV3.out; omega, HV3.out⟩] at HVa
  go_wp2_with fail
  refine HVa.mono ?_
  rintro e w5 ⟨rfl, rfl⟩
  have HRi := r23Right_is (w := w4) width
  rw [hr] at HRi
  go_wp2_with fail
  refine HRi.mono ?_
  rintro e w5 ⟨rfl, rfl⟩
  have hro4 := hro3.ch hc4 (by simp)
  have hrc4 := hrc.ch hc4 (by simp)
  have hcw4 := ((hc1.trans hc2 (by simp)).trans hc3 (by simp)).trans hc4 (by simp)
  have hcw3 := (hc1.trans hc2 (by simp)).trans hc3 (by simp)
  have hown : ∀ k, (Value.slice oa l.length oc).ownBlock = some k ∨ (Value.slice ta vs.length tc).ownBlock = some k → k < w3.heap.size := fun k hk => by
    rcases hk with hk | hk
    · exact (hro3.lt k hk).2
    · exact ((hrl.ch hc3 (by simp)).lt k hk).2
  have HRO := Lib.hid hro4; clear hro hro3 hro4
  have HRL := Lib.hid hrl4; clear hrl hrl4
  have HRC := Lib.hid hrc4; clear hrc hrc4
  have HRD := Lib.hid hrd; clear hrd
  have HLD := Lib.hid hld; clear hld
  have HCW := Lib.hid hcw4; clear hcw4
  have HCW3 := Lib.hid hcw3; clear hcw3
  have HOW := Lib.hid hown
  clear hown HRf HCB HCo HCa HVa HRi hnc hnd hc1 hc2 hc3 hc4 hlo hll hlc hwv
  go_wp2_with fail
  go_loopw [89] (fun i wr => ∃ k : Nat, k ≤ 3 ∧ i = .int .i64 k ∧ wr = w4.alloc (.cells #[.int .i64 230, .int .i64 230, .int .i64 0] 37)) (fun i _ => 3 - (intOf i).toNat)
  case atStart => exact ⟨0, by omega, rfl, rfl⟩
  case round =>
    obtain ⟨k, hk, rfl, rfl⟩ := hrel
    by_cases hlt : k < 3
    · obtain ⟨ev, hev, hcell⟩ : ∃ ev : Int, (ev = 0 ∨ ev = 230) ∧ (w4.alloc (.cells #[.int .i64 230, .int .i64 230, .int .i64 0] 37)).cell? ⟨w4.heap.size, k, none⟩ = some (.int .i64 ev) := by
        have hb : blk (w4.alloc (.cells #[.int .i64 230, .int .i64 230, .int .i64 0] 37)) w4.heap.size [.int .i64 230, .int .i64 230, .int .i64 0] := blk.new' _ _ rfl
        rcases (show k = 0 ∨ k = 1 ∨ k = 2 by omega) with rfl | rfl | rfl <;> exact ⟨_, by simp, hb.cell rfl⟩
      rcases hev with rfl | rfl
      · go_wp2_with fail
        go_roundw
        case rel => exact ⟨k + 1, by omega, by go_num, trivial⟩
        case measure => simp [intOf]; omega
      · go_wp2_with fail
        go_roundw
        case rel => exact ⟨k + 1, by omega, by go_num, trivial⟩
        case measure => simp [intOf]; omega
    · obtain ⟨W5, hW5⟩ : ∃ W5, W5 = w4.alloc (.cells #[.int .i64 230, .int .i64 230, .int .i64 0] 37) := ⟨_, rfl⟩
      rw [← hW5]
      have hc5 := alw_ch hW5
      clear hW5
      have HRO5 := Lib.hid (HRO.out.ch hc5 (by simp))
      have HRL5 := Lib.hid (HRL.out.ch hc5 (by simp))
      have HRC5 := Lib.hid (HRC.out.ch hc5 (by simp))
      have HRD5 := Lib.hid (HRD.out.ch hc5 (by simp))
      have HCW5 := Lib.hid (HCW.out.trans hc5 (by simp))
      have HZ5 := Lib.hid hc5.size
      clear HRO HRL HRC HRD hc5
      have HC := Lib.hid (Ch.refl [] W5)
      have HRO6 := Lib.hid (HRO5.out.ch HC.out (by simp))
      have HRL6 := Lib.hid (HRL5.out.ch HC.out (by simp))
      have HRD6 := Lib.hid (HRD5.out.ch HC.out (by simp))
      have HCW6 := Lib.hid (HCW5.out.trans HC.out (by simp))
      clear HRO5 HRL5 HRC5 HRD5
      obtain ⟨W6, hW6⟩ : ∃ W6, W6 = W5 := ⟨_, rfl⟩
      rw [← hW6] at HRO6 HRL6 HRD6 HCW6 HC
      try rw [← hW6]
      clear hW6
      go_wp2_with fail
      go_loopw [21, 22] (fun x i wr => ∃ j : Nat, j ≤ vs.length ∧ i = .int .i64 ((j : Int) - 1) ∧ W6 = wr ∧ x = .int .u32 (bitsVal (vs.drop j))) (fun _ i _ => (intOf i + 1).toNat)
      case atStart => exact ⟨vs.length, by omega, by go_num, rfl, by simp [bitsVal]⟩
      case round =>
        obtain ⟨j, hj, rfl, rfl, rfl⟩ := hrel
        cases j with
        | zero =>
          have hd0 : bitsVal (vs.drop 0) = bitsVal vs := rfl
          rw [hd0]
          clear hd0
          go_wp2_with fail
          go_loopw [162] (fun i wr => ∃ k : Nat, k ≤ 0 ∧ i = .int .i64 k ∧ Ch (Value.slice da 0 dc).ownBlock.toList W6 wr ∧ ∀ j, j < 0 → ∃ (b : Nat) (ys : List Value), da = some ⟨b, 0, none⟩ ∧ blk wr b ys ∧ 0 ≤ ys.length) (fun i _ => 0 - (intOf i).toNat)
          case atStart => exact ⟨0, by omega, rfl, Ch.refl _ _, rowBlk HRD6.out⟩
          case round =>
            obtain ⟨k, hk, rfl, hc, hbb⟩ := hrel
            by_cases hlt : k < 0
            · exact absurd hlt (by omega)
            · have hld : ∀ q ∈ (Value.slice da 0 dc).ownBlock.toList, w3.heap.size ≤ q := HLD.out
              have hz3 := HCW3.out.size
              have hcw7 : Ch [] w wr := HCW6.out.trans hc (fun q hq => .inr (by have := hld q hq; omega))
              have hro7 := HRO6.out.ch hc (fun k hk hk2 => by have := HOW.out k (.inl hk); have := hld k hk2; omega)
              have hrl7 := HRL6.out.ch hc (fun k hk hk2 => by have := HOW.out k (.inr hk); have := hld k hk2; omega)
              have hkd : k = 0 := by omega
              have HCW7 := Lib.hid hcw7; clear hcw7 hc hbb
              have HRO7 := Lib.hid hro7; clear hro7
              have HRL7 := Lib.hid hrl7; clear hrl7
              clear HRO6 HRL6 HRD6 HCW6
              have HRf := Refs23_is (w := wr) l.length lc rfl (HS.out.ch HCW7.out (by simp)) (by omega)
              go_wp2_with fail
              refine HRf.mono ?_
              rintro e W8 ⟨vo, rfl, hrp, hlp, hc8⟩
              obtain ⟨pa, pc, rfl⟩ := row.shape hrp
              have HE := Eqref_is (w := W8) oc pc (xs := l) (ys := l) (Sl.of_ints (HRO7.out.ch hc8 (by simp)) (by omega)) (Sl.of_ints hrp (by omega))
              simp only [decide_true] at HE
              clear HRf hrp hlp
              have HC8 := Lib.hid hc8; clear hc8
              go_wp2_with fail
              refine HE.mono ?_
              rintro e W9 ⟨rfl, hc9⟩
              have hc79 := HC8.out.trans hc9 (by simp)
              have HE2 := Eqbool_is (w := W9) tc vc (xs := vs) (ys := vs) (row.sv (HRL7.out.ch hc79 (by simp)) rfl (by omega)) (HV.out.ch (HCW7.out.trans hc79 (by simp)) (by simp))
              simp only [decide_true] at HE2
              have HC79 := Lib.hid hc79; clear hc79 hc9 HE
              go_wp2_with fail
              refine HE2.mono ?_
              rintro e W10 ⟨rfl, hc10⟩
              have HCF := Lib.hid ((HCW7.out.trans HC79.out (by simp)).trans hc10 (by simp))
              clear HE2 hc10
              go_wp2_with fail
              go_ret
              exact ⟨rfl, HCF.out⟩
        | succ j =>
          have ej : (((j + 1 : Nat) : Int) - 1) = (j : Int) := by omega
          rw [ej]
          have hd2 : decide ((0 : Int) ≤ j) = true := decide_eq_true (by omega)
          obtain ⟨b, hb⟩ : ∃ b, vs[j]? = some b := ⟨_, List.getElem?_eq_getElem (by omega)⟩
          obtain ⟨xb, xo, rfl, hcl⟩ := HV.out.cells j (.bool b) (by simp [hb])
          have c0 := (HCW6.out.cell (cell_lt hcl) (by simp)).trans hcl
          have hs := bitsVal_drop hb
          have hlt := bitsVal_drop_lt (l := vs) (by have := HV3.out; omega) (j + 1)
          generalize hX : bitsVal (vs.drop (j + 1)) = X at *
          have HSS := Lib.hid hs; clear hs hX hb hcl ej
          cases b
          · go_wp2_with fail
            go_roundw
            case rel => exact ⟨j, by omega, by go_num, trivial, by first | (rw [HSS.out]; done) | (rw [HSS.out]; go_num)⟩
            case measure => simp [intOf] <;> omega
          · go_wp2_with fail
            go_roundw
            case rel => exact ⟨j, by omega, by go_num, trivial, by first | (rw [HSS.out]; done) | (rw [HSS.out]; go_num)⟩
            case measure => simp [intOf] <;> omega
set_option maxRecDepth 100000 in
set_option maxHeartbeats 8000000 in
theorem words23_ffF1 {x : Nat} (hx : x < 4294967296) {width : Int} (hr : rightW width = false) {la va : Option Addr} {l : List Int} {vs : List Bool} (lc vc : Nat) (hS : Sl w la l) (hV : Sb w va vs) (hl : l.length ≤ 30) (hm : vs.length ≤ 30) (hbd : ∀ r ∈ l, -9223372036854775808 ≤ r ∧ r ≤ 9223372036854775807)  (hv : l.length < 1) :
    Calls Try.prog 12 #[.int .u32 x, .int .i64 width, .slice la l.length lc, .slice va vs.length vc] w fun e w' => e = .returned (.bool true) ∧ Ch [] w w' := by
  have HRf := Refs23_is (w := w) l.length lc rfl hS (by omega)
  have HS := Lib.hid hS; clear hS
  have HV := Lib.hid hV; clear hV
  have HBD := Lib.hid hbd; clear hbd
  go_enter Try.func12, Try.ntmps12
  go_wp2_with fail
  refine HRf.mono ?_
  rintro e w1 ⟨vo, rfl, hro, hlo, hc1⟩
  obtain ⟨oa, oc, rfl⟩ := row.shape hro
  have HCB := Clbool_is (w := w1) vs.length vc rfl (HV.out.ch hc1 (by simp)) (by omega)
  go_wp2_with fail
  refine HCB.mono ?_
  rintro e w2 ⟨vl, rfl, hrl, hll, hc2⟩
  obtain ⟨ta, tc, rfl⟩ := row.shape hrl
  have HCo := sConst_is (w := w2) x hx width
  rw [hr] at HCo
  simp only [if_true, Bool.false_eq_true, if_false, Int.toNat_natCast] at HCo
  go_wp2_with fail
  refine HCo.mono ?_
  rintro e w3 ⟨vcc, rfl, hnc⟩
  obtain ⟨ca, cc, rfl, hrc, hlc, hc3⟩ := hnc.parts (n := 0) (by simp [refsCells, constL])
  have hro3 := (hro.ch hc2 (by simp)).ch hc3 (by simp)
  have hwv : WVok w3 ⟨oa, l, oc⟩ := ⟨Sl.of_ints hro3 (by omega), HBD.out, by simp only; omega⟩
  have hcap : l.length ≤ oc := rowCap hro3
  have HCa := sCast_is hwv hcap width
  simp only [hr, WV.val, Bool.and_self, Bool.false_and, Bool.and_false, if_true, Bool.false_eq_true, if_false, Int.toNat_natCast] at HCa
  go_wp2_with fail
  refine HCa.mono ?_
  rintro e w4 ⟨vd, rfl, hnd⟩
  obtain ⟨da, dc, rfl, hrd, hld, hc4⟩ := hnd.parts (n := 0) (by simp [intCells, castL])
  have hrl4 := (hrl.ch hc3 (by simp)).ch hc4 (by simp)
  have HVa := sValue_is (w := w4) (x := ⟨oa, l, oc⟩) (by simp only; omega) (a := ta) (l := vs) tc (by omega) (row.sv hrl4 rfl (by omega))
  simp only [WV.val] at HVa
  rw [if_neg (by omega), if_neg (by omega)] at HVa
  go_wp2_with fail
  refine HVa.mono ?_
  rintro e w5 ⟨rfl, rfl⟩
  have HRi := r23Right_is (w := w4) width
  rw [hr] at HRi
  go_wp2_with fail
  refine HRi.mono ?_
  rintro e w5 ⟨rfl, rfl⟩
  have hro4 := hro3.ch hc4 (by simp)
  have hrc4 := hrc.ch hc4 (by simp)
  have hcw4 := ((hc1.trans hc2 (by simp)).trans hc3 (by simp)).trans hc4 (by simp)
  have hcw3 := (hc1.trans hc2 (by simp)).trans hc3 (by simp)
  have hown : ∀ k, (Value.slice oa l.length oc).ownBlock = some k ∨ (Value.slice ta vs.length tc).ownBlock = some k → k < w3.heap.size := fun k hk => by
    rcases hk with hk | hk
    · exact (hro3.lt k hk).2
    · exact ((hrl.ch hc3 (by simp)).lt k hk).2
  have HRO := Lib.hid hro4; clear hro hro3 hro4
  have HRL := Lib.hid hrl4; clear hrl hrl4
  have HRC := Lib.hid hrc4; clear hrc hrc4
  have HRD := Lib.hid hrd; clear hrd
  have HLD := Lib.hid hld; clear hld
  have HCW := Lib.hid hcw4; clear hcw4
  have HCW3 := Lib.hid hcw3; clear hcw3
  have HOW := Lib.hid hown
  clear hown HRf HCB HCo HCa HVa HRi hnc hnd hc1 hc2 hc3 hc4 hlo hll hlc hwv
  go_wp2_with fail
  go_loopw [89] (fun i wr => ∃ k : Nat, k ≤ 3 ∧ i = .int .i64 k ∧ wr = w4.alloc (.cells #[.int .i64 230, .int .i64 230, .int .i64 230] 37)) (fun i _ => 3 - (intOf i).toNat)
  case atStart => exact ⟨0, by omega, rfl, rfl⟩
  case round =>
    obtain ⟨k, hk, rfl, rfl⟩ := hrel
    by_cases hlt : k < 3
    · obtain ⟨ev, hev, hcell⟩ : ∃ ev : Int, (ev = 0 ∨ ev = 230) ∧ (w4.alloc (.cells #[.int .i64 230, .int .i64 230, .int .i64 230] 37)).cell? ⟨w4.heap.size, k, none⟩ = some (.int .i64 ev) := by
        have hb : blk (w4.alloc (.cells #[.int .i64 230, .int .i64 230, .int .i64 230] 37)) w4.heap.size [.int .i64 230, .int .i64 230, .int .i64 230] := blk.new' _ _ rfl
        rcases (show k = 0 ∨ k = 1 ∨ k = 2 by omega) with rfl | rfl | rfl <;> exact ⟨_, by simp, hb.cell rfl⟩
      rcases hev with rfl | rfl
      · go_wp2_with fail
        go_roundw
        case rel => exact ⟨k + 1, by omega, by go_num, trivial⟩
        case measure => simp [intOf]; omega
      · go_wp2_with fail
        go_roundw
        case rel => exact ⟨k + 1, by omega, by go_num, trivial⟩
        case measure => simp [intOf]; omega
    · obtain ⟨W5, hW5⟩ : ∃ W5, W5 = w4.alloc (.cells #[.int .i64 230, .int .i64 230, .int .i64 230] 37) := ⟨_, rfl⟩
      rw [← hW5]
      have hc5 := alw_ch hW5
      clear hW5
      have HRO5 := Lib.hid (HRO.out.ch hc5 (by simp))
      have HRL5 := Lib.hid (HRL.out.ch hc5 (by simp))
      have HRC5 := Lib.hid (HRC.out.ch hc5 (by simp))
      have HRD5 := Lib.hid (HRD.out.ch hc5 (by simp))
      have HCW5 := Lib.hid (HCW.out.trans hc5 (by simp))
      have HZ5 := Lib.hid hc5.size
      clear HRO HRL HRC HRD hc5
      have HC := Lib.hid (Ch.refl [] W5)
      have HRO6 := Lib.hid (HRO5.out.ch HC.out (by simp))
      have HRL6 := Lib.hid (HRL5.out.ch HC.out (by simp))
      have HRD6 := Lib.hid (HRD5.out.ch HC.out (by simp))
      have HCW6 := Lib.hid (HCW5.out.trans HC.out (by simp))
      clear HRO5 HRL5 HRC5 HRD5
      obtain ⟨W6, hW6⟩ : ∃ W6, W6 = W5 := ⟨_, rfl⟩
      rw [← hW6] at HRO6 HRL6 HRD6 HCW6 HC
      try rw [← hW6]
      clear hW6
      go_wp2_with fail
      go_loopw [21, 22] (fun x i wr => i = .int .i64 ((vs.length : Int) - 1) ∧ W6 = wr ∧ x = .int .u32 0) (fun _ i _ => 0)
      case atStart => exact ⟨rfl, rfl, rfl⟩
      case round =>
        obtain ⟨rfl, rfl, rfl⟩ := hrel
        by_cases h0 : vs.length < 1
        · have hd0 : decide ((0 : Int) ≤ (vs.length : Int) - 1) = false := decide_eq_false (by omega)
          go_wp2_with fail
          go_loopw [162] (fun i wr => ∃ k : Nat, k ≤ 0 ∧ i = .int .i64 k ∧ Ch (Value.slice da 0 dc).ownBlock.toList W6 wr ∧ ∀ j, j < 0 → ∃ (b : Nat) (ys : List Value), da = some ⟨b, 0, none⟩ ∧ blk wr b ys ∧ 0 ≤ ys.length) (fun i _ => 0 - (intOf i).toNat)
          case atStart => exact ⟨0, by omega, rfl, Ch.refl _ _, rowBlk HRD6.out⟩
          case round =>
            obtain ⟨k, hk, rfl, hc, hbb⟩ := hrel
            by_cases hlt : k < 0
            · exact absurd hlt (by omega)
            · have hld : ∀ q ∈ (Value.slice da 0 dc).ownBlock.toList, w3.heap.size ≤ q := HLD.out
              have hz3 := HCW3.out.size
              have hcw7 : Ch [] w wr := HCW6.out.trans hc (fun q hq => .inr (by have := hld q hq; omega))
              have hro7 := HRO6.out.ch hc (fun k hk hk2 => by have := HOW.out k (.inl hk); have := hld k hk2; omega)
              have hrl7 := HRL6.out.ch hc (fun k hk hk2 => by have := HOW.out k (.inr hk); have := hld k hk2; omega)
              have hkd : k = 0 := by omega
              have HCW7 := Lib.hid hcw7; clear hcw7 hc hbb
              have HRO7 := Lib.hid hro7; clear hro7
              have HRL7 := Lib.hid hrl7; clear hrl7
              clear HRO6 HRL6 HRD6 HCW6
              have HRf := Refs23_is (w := wr) l.length lc rfl (HS.out.ch HCW7.out (by simp)) (by omega)
              go_wp2_with fail
              refine HRf.mono ?_
              rintro e W8 ⟨vo, rfl, hrp, hlp, hc8⟩
              obtain ⟨pa, pc, rfl⟩ := row.shape hrp
              have HE := Eqref_is (w := W8) oc pc (xs := l) (ys := l) (Sl.of_ints (HRO7.out.ch hc8 (by simp)) (by omega)) (Sl.of_ints hrp (by omega))
              simp only [decide_true] at HE
              clear HRf hrp hlp
              have HC8 := Lib.hid hc8; clear hc8
              go_wp2_with fail
              refine HE.mono ?_
              rintro e W9 ⟨rfl, hc9⟩
              have hc79 := HC8.out.trans hc9 (by simp)
              have HE2 := Eqbool_is (w := W9) tc vc (xs := vs) (ys := vs) (row.sv (HRL7.out.ch hc79 (by simp)) rfl (by omega)) (HV.out.ch (HCW7.out.trans hc79 (by simp)) (by simp))
              simp only [decide_true] at HE2
              have HC79 := Lib.hid hc79; clear hc79 hc9 HE
              go_wp2_with fail
              refine HE2.mono ?_
              rintro e W10 ⟨rfl, hc10⟩
              have HCF := Lib.hid ((HCW7.out.trans HC79.out (by simp)).trans hc10 (by simp))
              clear HE2 hc10
              go_wp2_with fail
              go_ret
              exact ⟨rfl, HCF.out⟩
        · have hd0 : decide ((0 : Int) ≤ (vs.length : Int) - 1) = true := decide_eq_true (by omega)
          have h1 : 1 ≤ vs.length := by omega
          clear h0
          go_wp2_with fail
          go_loopw [162] (fun i wr => ∃ k : Nat, k ≤ 0 ∧ i = .int .i64 k ∧ Ch (Value.slice da 0 dc).ownBlock.toList W6 wr ∧ ∀ j, j < 0 → ∃ (b : Nat) (ys : List Value), da = some ⟨b, 0, none⟩ ∧ blk wr b ys ∧ 0 ≤ ys.length) (fun i _ => 0 - (intOf i).toNat)
          case atStart => exact ⟨0, by omega, rfl, Ch.refl _ _, rowBlk HRD6.out⟩
          case round =>
            obtain ⟨k, hk, rfl, hc, hbb⟩ := hrel
            by_cases hlt : k < 0
            · exact absurd hlt (by omega)
            · have hld : ∀ q ∈ (Value.slice da 0 dc).ownBlock.toList, w3.heap.size ≤ q := HLD.out
              have hz3 := HCW3.out.size
              have hcw7 : Ch [] w wr := HCW6.out.trans hc (fun q hq => .inr (by have := hld q hq; omega))
              have hro7 := HRO6.out.ch hc (fun k hk hk2 => by have := HOW.out k (.inl hk); have := hld k hk2; omega)
              have hrl7 := HRL6.out.ch hc (fun k hk hk2 => by have := HOW.out k (.inr hk); have := hld k hk2; omega)
              have hkd : k = 0 := by omega
              have HCW7 := Lib.hid hcw7; clear hcw7 hc hbb
              have HRO7 := Lib.hid hro7; clear hro7
              have HRL7 := Lib.hid hrl7; clear hrl7
              clear HRO6 HRL6 HRD6 HCW6
              have HRf := Refs23_is (w := wr) l.length lc rfl (HS.out.ch HCW7.out (by simp)) (by omega)
              go_wp2_with fail
              refine HRf.mono ?_
              rintro e W8 ⟨vo, rfl, hrp, hlp, hc8⟩
              obtain ⟨pa, pc, rfl⟩ := row.shape hrp
              have HE := Eqref_is (w := W8) oc pc (xs := l) (ys := l) (Sl.of_ints (HRO7.out.ch hc8 (by simp)) (by omega)) (Sl.of_ints hrp (by omega))
              simp only [decide_true] at HE
              clear HRf hrp hlp
              have HC8 := Lib.hid hc8; clear hc8
              go_wp2_with fail
              refine HE.mono ?_
              rintro e W9 ⟨rfl, hc9⟩
              have hc79 := HC8.out.trans hc9 (by simp)
              have HE2 := Eqbool_is (w := W9) tc vc (xs := vs) (ys := vs) (row.sv (HRL7.out.ch hc79 (by simp)) rfl (by omega)) (HV.out.ch (HCW7.out.trans hc79 (by simp)) (by simp))
              simp only [decide_true] at HE2
              have HC79 := Lib.hid hc79; clear hc79 hc9 HE
              go_wp2_with fail
              refine HE2.mono ?_
              rintro e W10 ⟨rfl, hc10⟩
              have HCF := Lib.hid ((HCW7.out.trans HC79.out (by simp)).trans hc10 (by simp))
              clear HE2 hc10
              go_wp2_with fail
              go_ret
              exact ⟨rfl, HCF.out⟩
set_option maxRecDepth 100000 in
set_option maxHeartbeats 8000000 in
theorem words23_ffF2 {x : Nat} (hx : x < 4294967296) {width : Int} (hr : rightW width = false) {la va : Option Addr} {l : List Int} {vs : List Bool} (lc vc : Nat) (hS : Sl w la l) (hV : Sb w va vs) (hl : l.length ≤ 30) (hm : vs.length ≤ 30) (hbd : ∀ r ∈ l, -9223372036854775808 ≤ r ∧ r ≤ 9223372036854775807)  (hv : 17 ≤ l.length) :
    Calls Try.prog 12 #[.int .u32 x, .int .i64 width, .slice la l.length lc, .slice va vs.length vc] w fun e w' => e = .returned (.bool true) ∧ Ch [] w w' := by
  have HRf := Refs23_is (w := w) l.length lc rfl hS (by omega)
  have HS := Lib.hid hS; clear hS
  have HV := Lib.hid hV; clear hV
  have HBD := Lib.hid hbd; clear hbd
  go_enter Try.func12, Try.ntmps12
  go_wp2_with fail
  refine HRf.mono ?_
  rintro e w1 ⟨vo, rfl, hro, hlo, hc1⟩
  obtain ⟨oa, oc, rfl⟩ := row.shape hro
  have HCB := Clbool_is (w := w1) vs.length vc rfl (HV.out.ch hc1 (by simp)) (by omega)
  go_wp2_with fail
  refine HCB.mono ?_
  rintro e w2 ⟨vl, rfl, hrl, hll, hc2⟩
  obtain ⟨ta, tc, rfl⟩ := row.shape hrl
  have HCo := sConst_is (w := w2) x hx width
  rw [hr] at HCo
  simp only [if_true, Bool.false_eq_true, if_false, Int.toNat_natCast] at HCo
  go_wp2_with fail
  refine HCo.mono ?_
  rintro e w3 ⟨vcc, rfl, hnc⟩
  obtain ⟨ca, cc, rfl, hrc, hlc, hc3⟩ := hnc.parts (n := 0) (by simp [refsCells, constL])
  have hro3 := (hro.ch hc2 (by simp)).ch hc3 (by simp)
  have hwv : WVok w3 ⟨oa, l, oc⟩ := ⟨Sl.of_ints hro3 (by omega), HBD.out, by simp only; omega⟩
  have hcap : l.length ≤ oc := rowCap hro3
  have HCa := sCast_is hwv hcap width
  simp only [hr, WV.val, Bool.and_self, Bool.false_and, Bool.and_false, if_true, Bool.false_eq_true, if_false, Int.toNat_natCast] at HCa
  go_wp2_with fail
  refine HCa.mono ?_
  rintro e w4 ⟨vd, rfl, hnd⟩
  obtain ⟨da, dc, rfl, hrd, hld, hc4⟩ := hnd.parts (n := 0) (by simp [intCells, castL])
  have hrl4 := (hrl.ch hc3 (by simp)).ch hc4 (by simp)
  have HVa := sValue_is (w := w4) (x := ⟨oa, l, oc⟩) (by simp only; omega) (a := ta) (l := vs) tc (by omega) (row.sv hrl4 rfl (by omega))
  simp only [WV.val] at HVa
  rw [if_neg (by omega), if_neg (by omega)] at HVa
  go_wp2_with fail
  refine HVa.mono ?_
  rintro e w5 ⟨rfl, rfl⟩
  have HRi := r23Right_is (w := w4) width
  rw [hr] at HRi
  go_wp2_with fail
  refine HRi.mono ?_
  rintro e w5 ⟨rfl, rfl⟩
  have hro4 := hro3.ch hc4 (by simp)
  have hrc4 := hrc.ch hc4 (by simp)
  have hcw4 := ((hc1.trans hc2 (by simp)).trans hc3 (by simp)).trans hc4 (by simp)
  have hcw3 := (hc1.trans hc2 (by simp)).trans hc3 (by simp)
  have hown : ∀ k, (Value.slice oa l.length oc).ownBlock = some k ∨ (Value.slice ta vs.length tc).ownBlock = some k → k < w3.heap.size := fun k hk => by
    rcases hk with hk | hk
    · exact (hro3.lt k hk).2
    · exact ((hrl.ch hc3 (by simp)).lt k hk).2
  have HRO := Lib.hid hro4; clear hro hro3 hro4
  have HRL := Lib.hid hrl4; clear hrl hrl4
  have HRC := Lib.hid hrc4; clear hrc hrc4
  have HRD := Lib.hid hrd; clear hrd
  have HLD := Lib.hid hld; clear hld
  have HCW := Lib.hid hcw4; clear hcw4
  have HCW3 := Lib.hid hcw3; clear hcw3
  have HOW := Lib.hid hown
  clear hown HRf HCB HCo HCa HVa HRi hnc hnd hc1 hc2 hc3 hc4 hlo hll hlc hwv
  go_wp2_with fail
  go_loopw [89] (fun i wr => ∃ k : Nat, k ≤ 3 ∧ i = .int .i64 k ∧ wr = w4.alloc (.cells #[.int .i64 230, .int .i64 230, .int .i64 230] 37)) (fun i _ => 3 - (intOf i).toNat)
  case atStart => exact ⟨0, by omega, rfl, rfl⟩
  case round =>
    obtain ⟨k, hk, rfl, rfl⟩ := hrel
    by_cases hlt : k < 3
    · obtain ⟨ev, hev, hcell⟩ : ∃ ev : Int, (ev = 0 ∨ ev = 230) ∧ (w4.alloc (.cells #[.int .i64 230, .int .i64 230, .int .i64 230] 37)).cell? ⟨w4.heap.size, k, none⟩ = some (.int .i64 ev) := by
        have hb : blk (w4.alloc (.cells #[.int .i64 230, .int .i64 230, .int .i64 230] 37)) w4.heap.size [.int .i64 230, .int .i64 230, .int .i64 230] := blk.new' _ _ rfl
        rcases (show k = 0 ∨ k = 1 ∨ k = 2 by omega) with rfl | rfl | rfl <;> exact ⟨_, by simp, hb.cell rfl⟩
      rcases hev with rfl | rfl
      · go_wp2_with fail
        go_roundw
        case rel => exact ⟨k + 1, by omega, by go_num, trivial⟩
        case measure => simp [intOf]; omega
      · go_wp2_with fail
        go_roundw
        case rel => exact ⟨k + 1, by omega, by go_num, trivial⟩
        case measure => simp [intOf]; omega
    · obtain ⟨W5, hW5⟩ : ∃ W5, W5 = w4.alloc (.cells #[.int .i64 230, .int .i64 230, .int .i64 230] 37) := ⟨_, rfl⟩
      rw [← hW5]
      have hc5 := alw_ch hW5
      clear hW5
      have HRO5 := Lib.hid (HRO.out.ch hc5 (by simp))
      have HRL5 := Lib.hid (HRL.out.ch hc5 (by simp))
      have HRC5 := Lib.hid (HRC.out.ch hc5 (by simp))
      have HRD5 := Lib.hid (HRD.out.ch hc5 (by simp))
      have HCW5 := Lib.hid (HCW.out.trans hc5 (by simp))
      have HZ5 := Lib.hid hc5.size
      clear HRO HRL HRC HRD hc5
      have HC := Lib.hid (Ch.refl [] W5)
      have HRO6 := Lib.hid (HRO5.out.ch HC.out (by simp))
      have HRL6 := Lib.hid (HRL5.out.ch HC.out (by simp))
      have HRD6 := Lib.hid (HRD5.out.ch HC.out (by simp))
      have HCW6 := Lib.hid (HCW5.out.trans HC.out (by simp))
      clear HRO5 HRL5 HRC5 HRD5
      obtain ⟨W6, hW6⟩ : ∃ W6, W6 = W5 := ⟨_, rfl⟩
      rw [← hW6] at HRO6 HRL6 HRD6 HCW6 HC
      try rw [← hW6]
      clear hW6
      go_wp2_with fail
      go_loopw [21, 22] (fun x i wr => i = .int .i64 ((vs.length : Int) - 1) ∧ W6 = wr ∧ x = .int .u32 0) (fun _ i _ => 0)
      case atStart => exact ⟨rfl, rfl, rfl⟩
      case round =>
        obtain ⟨rfl, rfl, rfl⟩ := hrel
        by_cases h0 : vs.length < 1
        · have hd0 : decide ((0 : Int) ≤ (vs.length : Int) - 1) = false := decide_eq_false (by omega)
          go_wp2_with fail
          go_loopw [162] (fun i wr => ∃ k : Nat, k ≤ 0 ∧ i = .int .i64 k ∧ Ch (Value.slice da 0 dc).ownBlock.toList W6 wr ∧ ∀ j, j < 0 → ∃ (b : Nat) (ys : List Value), da = some ⟨b, 0, none⟩ ∧ blk wr b ys ∧ 0 ≤ ys.length) (fun i _ => 0 - (intOf i).toNat)
          case atStart => exact ⟨0, by omega, rfl, Ch.refl _ _, rowBlk HRD6.out⟩
          case round =>
            obtain ⟨k, hk, rfl, hc, hbb⟩ := hrel
            by_cases hlt : k < 0
            · exact absurd hlt (by omega)
            · have hld : ∀ q ∈ (Value.slice da 0 dc).ownBlock.toList, w3.heap.size ≤ q := HLD.out
              have hz3 := HCW3.out.size
              have hcw7 : Ch [] w wr := HCW6.out.trans hc (fun q hq => .inr (by have := hld q hq; omega))
              have hro7 := HRO6.out.ch hc (fun k hk hk2 => by have := HOW.out k (.inl hk); have := hld k hk2; omega)
              have hrl7 := HRL6.out.ch hc (fun k hk hk2 => by have := HOW.out k (.inr hk); have := hld k hk2; omega)
              have hkd : k = 0 := by omega
              have HCW7 := Lib.hid hcw7; clear hcw7 hc hbb
              have HRO7 := Lib.hid hro7; clear hro7
              have HRL7 := Lib.hid hrl7; clear hrl7
              clear HRO6 HRL6 HRD6 HCW6
              have HRf := Refs23_is (w := wr) l.length lc rfl (HS.out.ch HCW7.out (by simp)) (by omega)
              go_wp2_with fail
              refine HRf.mono ?_
              rintro e W8 ⟨vo, rfl, hrp, hlp, hc8⟩
              obtain ⟨pa, pc, rfl⟩ := row.shape hrp
              have HE := Eqref_is (w := W8) oc pc (xs := l) (ys := l) (Sl.of_ints (HRO7.out.ch hc8 (by simp)) (by omega)) (Sl.of_ints hrp (by omega))
              simp only [decide_true] at HE
              clear HRf hrp hlp
              have HC8 := Lib.hid hc8; clear hc8
              go_wp2_with fail
              refine HE.mono ?_
              rintro e W9 ⟨rfl, hc9⟩
              have hc79 := HC8.out.trans hc9 (by simp)
              have HE2 := Eqbool_is (w := W9) tc vc (xs := vs) (ys := vs) (row.sv (HRL7.out.ch hc79 (by simp)) rfl (by omega)) (HV.out.ch (HCW7.out.trans hc79 (by simp)) (by simp))
              simp only [decide_true] at HE2
              have HC79 := Lib.hid hc79; clear hc79 hc9 HE
              go_wp2_with fail
              refine HE2.mono ?_
              rintro e W10 ⟨rfl, hc10⟩
              have HCF := Lib.hid ((HCW7.out.trans HC79.out (by simp)).trans hc10 (by simp))
              clear HE2 hc10
              go_wp2_with fail
              go_ret
              exact ⟨rfl, HCF.out⟩
        · have hd0 : decide ((0 : Int) ≤ (vs.length : Int) - 1) = true := decide_eq_true (by omega)
          have h1 : 1 ≤ vs.length := by omega
          clear h0
          go_wp2_with fail
          go_loopw [162] (fun i wr => ∃ k : Nat, k ≤ 0 ∧ i = .int .i64 k ∧ Ch (Value.slice da 0 dc).ownBlock.toList W6 wr ∧ ∀ j, j < 0 → ∃ (b : Nat) (ys : List Value), da = some ⟨b, 0, none⟩ ∧ blk wr b ys ∧ 0 ≤ ys.length) (fun i _ => 0 - (intOf i).toNat)
          case atStart => exact ⟨0, by omega, rfl, Ch.refl _ _, rowBlk HRD6.out⟩
          case round =>
            obtain ⟨k, hk, rfl, hc, hbb⟩ := hrel
            by_cases hlt : k < 0
            · exact absurd hlt (by omega)
            · have hld : ∀ q ∈ (Value.slice da 0 dc).ownBlock.toList, w3.heap.size ≤ q := HLD.out
              have hz3 := HCW3.out.size
              have hcw7 : Ch [] w wr := HCW6.out.trans hc (fun q hq => .inr (by have := hld q hq; omega))
              have hro7 := HRO6.out.ch hc (fun k hk hk2 => by have := HOW.out k (.inl hk); have := hld k hk2; omega)
              have hrl7 := HRL6.out.ch hc (fun k hk hk2 => by have := HOW.out k (.inr hk); have := hld k hk2; omega)
              have hkd : k = 0 := by omega
              have HCW7 := Lib.hid hcw7; clear hcw7 hc hbb
              have HRO7 := Lib.hid hro7; clear hro7
              have HRL7 := Lib.hid hrl7; clear hrl7
              clear HRO6 HRL6 HRD6 HCW6
              have HRf := Refs23_is (w := wr) l.length lc rfl (HS.out.ch HCW7.out (by simp)) (by omega)
              go_wp2_with fail
              refine HRf.mono ?_
              rintro e W8 ⟨vo, rfl, hrp, hlp, hc8⟩
              obtain ⟨pa, pc, rfl⟩ := row.shape hrp
              have HE := Eqref_is (w := W8) oc pc (xs := l) (ys := l) (Sl.of_ints (HRO7.out.ch hc8 (by simp)) (by omega)) (Sl.of_ints hrp (by omega))
              simp only [decide_true] at HE
              clear HRf hrp hlp
              have HC8 := Lib.hid hc8; clear hc8
              go_wp2_with fail
              refine HE.mono ?_
              rintro e W9 ⟨rfl, hc9⟩
              have hc79 := HC8.out.trans hc9 (by simp)
              have HE2 := Eqbool_is (w := W9) tc vc (xs := vs) (ys := vs) (row.sv (HRL7.out.ch hc79 (by simp)) rfl (by omega)) (HV.out.ch (HCW7.out.trans hc79 (by simp)) (by simp))
              simp only [decide_true] at HE2
              have HC79 := Lib.hid hc79; clear hc79 hc9 HE
              go_wp2_with fail
              refine HE2.mono ?_
              rintro e W10 ⟨rfl, hc10⟩
              have HCF := Lib.hid ((HCW7.out.trans HC79.out (by simp)).trans hc10 (by simp))
              clear HE2 hc10
              go_wp2_with fail
              go_ret
              exact ⟨rfl, HCF.out⟩
set_option maxRecDepth 100000 in
set_option maxHeartbeats 8000000 in
theorem words23_ffF3 {x : Nat} (hx : x < 4294967296) {width : Int} (hr : rightW width = false) {la va : Option Addr} {l : List Int} {vs : List Bool} (lc vc : Nat) (hS : Sl w la l) (hV : Sb w va vs) (hl : l.length ≤ 30) (hm : vs.length ≤ 30) (hbd : ∀ r ∈ l, -9223372036854775808 ≤ r ∧ r ≤ 9223372036854775807)  (hv1 : 1 ≤ l.length) (hv2 : l.length ≤ 16) (hv : vs.length ≠ l.length) :
    Calls Try.prog 12 #[.int .u32 x, .int .i64 width, .slice la l.length lc, .slice va vs.length vc] w fun e w' => e = .returned (.bool true) ∧ Ch [] w w' := by
  have HRf := Refs23_is (w := w) l.length lc rfl hS (by omega)
  have HS := Lib.hid hS; clear hS
  have HV := Lib.hid hV; clear hV
  have HBD := Lib.hid hbd; clear hbd
  have hbq : ((vs.length : Int) == (l.length : Int)) = false := beqN (by omega)
  go_enter Try.func12, Try.ntmps12
  go_wp2_with fail
  refine HRf.mono ?_
  rintro e w1 ⟨vo, rfl, hro, hlo, hc1⟩
  obtain ⟨oa, oc, rfl⟩ := row.shape hro
  have HCB := Clbool_is (w := w1) vs.length vc rfl (HV.out.ch hc1 (by simp)) (by omega)
  go_wp2_with fail
  refine HCB.mono ?_
  rintro e w2 ⟨vl, rfl, hrl, hll, hc2⟩
  obtain ⟨ta, tc, rfl⟩ := row.shape hrl
  have HCo := sConst_is (w := w2) x hx width
  rw [hr] at HCo
  simp only [if_true, Bool.false_eq_true, if_false, Int.toNat_natCast] at HCo
  go_wp2_with fail
  refine HCo.mono ?_
  rintro e w3 ⟨vcc, rfl, hnc⟩
  obtain ⟨ca, cc, rfl, hrc, hlc, hc3⟩ := hnc.parts (n := 0) (by simp [refsCells, constL])
  have hro3 := (hro.ch hc2 (by simp)).ch hc3 (by simp)
  have hwv : WVok w3 ⟨oa, l, oc⟩ := ⟨Sl.of_ints hro3 (by omega), HBD.out, by simp only; omega⟩
  have hcap : l.length ≤ oc := rowCap hro3
  have HCa := sCast_is hwv hcap width
  simp only [hr, WV.val, Bool.and_self, Bool.false_and, Bool.and_false, if_true, Bool.false_eq_true, if_false, Int.toNat_natCast] at HCa
  go_wp2_with fail
  refine HCa.mono ?_
  rintro e w4 ⟨vd, rfl, hnd⟩
  obtain ⟨da, dc, rfl, hrd, hld, hc4⟩ := hnd.parts (n := 0) (by simp [intCells, castL])
  have hrl4 := (hrl.ch hc3 (by simp)).ch hc4 (by simp)
  have HVa := sValue_is (w := w4) (x := ⟨oa, l, oc⟩) (by simp only; omega) (a := ta) (l := vs) tc (by omega) (row.sv hrl4 rfl (by omega))
  simp only [WV.val] at HVa
  rw [if_neg (by omega), if_neg (by omega)] at HVa
  go_wp2_with fail
  refine HVa.mono ?_
  rintro e w5 ⟨rfl, rfl⟩
  have HRi := r23Right_is (w := w4) width
  rw [hr] at HRi
  go_wp2_with fail
  refine HRi.mono ?_
  rintro e w5 ⟨rfl, rfl⟩
  have hro4 := hro3.ch hc4 (by simp)
  have hrc4 := hrc.ch hc4 (by simp)
  have hcw4 := ((hc1.trans hc2 (by simp)).trans hc3 (by simp)).trans hc4 (by simp)
  have hcw3 := (hc1.trans hc2 (by simp)).trans hc3 (by simp)
  have hown : ∀ k, (Value.slice oa l.length oc).ownBlock = some k ∨ (Value.slice ta vs.length tc).ownBlock = some k → k < w3.heap.size := fun k hk => by
    rcases hk with hk | hk
    · exact (hro3.lt k hk).2
    · exact ((hrl.ch hc3 (by simp)).lt k hk).2
  have HRO := Lib.hid hro4; clear hro hro3 hro4
  have HRL := Lib.hid hrl4; clear hrl hrl4
  have HRC := Lib.hid hrc4; clear hrc hrc4
  have HRD := Lib.hid hrd; clear hrd
  have HLD := Lib.hid hld; clear hld
  have HCW := Lib.hid hcw4; clear hcw4
  have HCW3 := Lib.hid hcw3; clear hcw3
  have HOW := Lib.hid hown
  clear hown HRf HCB HCo HCa HVa HRi hnc hnd hc1 hc2 hc3 hc4 hlo hll hlc hwv
  go_wp2_with fail
  go_loopw [89] (fun i wr => ∃ k : Nat, k ≤ 3 ∧ i = .int .i64 k ∧ wr = w4.alloc (.cells #[.int .i64 230, .int .i64 230, .int .i64 230] 37)) (fun i _ => 3 - (intOf i).toNat)
  case atStart => exact ⟨0, by omega, rfl, rfl⟩
  case round =>
    obtain ⟨k, hk, rfl, rfl⟩ := hrel
    by_cases hlt : k < 3
    · obtain ⟨ev, hev, hcell⟩ : ∃ ev : Int, (ev = 0 ∨ ev = 230) ∧ (w4.alloc (.cells #[.int .i64 230, .int .i64 230, .int .i64 230] 37)).cell? ⟨w4.heap.size, k, none⟩ = some (.int .i64 ev) := by
        have hb : blk (w4.alloc (.cells #[.int .i64 230, .int .i64 230, .int .i64 230] 37)) w4.heap.size [.int .i64 230, .int .i64 230, .int .i64 230] := blk.new' _ _ rfl
        rcases (show k = 0 ∨ k = 1 ∨ k = 2 by omega) with rfl | rfl | rfl <;> exact ⟨_, by simp, hb.cell rfl⟩
      rcases hev with rfl | rfl
      · go_wp2_with fail
        go_roundw
        case rel => exact ⟨k + 1, by omega, by go_num, trivial⟩
        case measure => simp [intOf]; omega
      · go_wp2_with fail
        go_roundw
        case rel => exact ⟨k + 1, by omega, by go_num, trivial⟩
        case measure => simp [intOf]; omega
    · obtain ⟨W5, hW5⟩ : ∃ W5, W5 = w4.alloc (.cells #[.int .i64 230, .int .i64 230, .int .i64 230] 37) := ⟨_, rfl⟩
      rw [← hW5]
      have hc5 := alw_ch hW5
      clear hW5
      have HRO5 := Lib.hid (HRO.out.ch hc5 (by simp))
      have HRL5 := Lib.hid (HRL.out.ch hc5 (by simp))
      have HRC5 := Lib.hid (HRC.out.ch hc5 (by simp))
      have HRD5 := Lib.hid (HRD.out.ch hc5 (by simp))
      have HCW5 := Lib.hid (HCW.out.trans hc5 (by simp))
      have HZ5 := Lib.hid hc5.size
      clear HRO HRL HRC HRD hc5
      have HC := Lib.hid (Ch.refl [] W5)
      have HRO6 := Lib.hid (HRO5.out.ch HC.out (by simp))
      have HRL6 := Lib.hid (HRL5.out.ch HC.out (by simp))
      have HRD6 := Lib.hid (HRD5.out.ch HC.out (by simp))
      have HCW6 := Lib.hid (HCW5.out.trans HC.out (by simp))
      clear HRO5 HRL5 HRC5 HRD5
      obtain ⟨W6, hW6⟩ : ∃ W6, W6 = W5 := ⟨_, rfl⟩
      rw [← hW6] at HRO6 HRL6 HRD6 HCW6 HC
      try rw [← hW6]
      clear hW6
      go_wp2_with fail
      go_loopw [21, 22] (fun x i wr => i = .int .i64 ((vs.length : Int) - 1) ∧ W6 = wr ∧ x = .int .u32 0) (fun _ i _ => 0)
      case atStart => exact ⟨rfl, rfl, rfl⟩
      case round =>
        obtain ⟨rfl, rfl, rfl⟩ := hrel
        by_cases h0 : vs.length < 1
        · have hd0 : decide ((0 : Int) ≤ (vs.length : Int) - 1) = false := decide_eq_false (by omega)
          go_wp2_with fail
          go_loopw [162] (fun i wr => ∃ k : Nat, k ≤ 0 ∧ i = .int .i64 k ∧ Ch (Value.slice da 0 dc).ownBlock.toList W6 wr ∧ ∀ j, j < 0 → ∃ (b : Nat) (ys : List Value), da = some ⟨b, 0, none⟩ ∧ blk wr b ys ∧ 0 ≤ ys.length) (fun i _ => 0 - (intOf i).toNat)
          case atStart => exact ⟨0, by omega, rfl, Ch.refl _ _, rowBlk HRD6.out⟩
          case round =>
            obtain ⟨k, hk, rfl, hc, hbb⟩ := hrel
            by_cases hlt : k < 0
            · exact absurd hlt (by omega)
            · have hld : ∀ q ∈ (Value.slice da 0 dc).ownBlock.toList, w3.heap.size ≤ q := HLD.out
              have hz3 := HCW3.out.size
              have hcw7 : Ch [] w wr := HCW6.out.trans hc (fun q hq => .inr (by have := hld q hq; omega))
              have hro7 := HRO6.out.ch hc (fun k hk hk2 => by have := HOW.out k (.inl hk); have := hld k hk2; omega)
              have hrl7 := HRL6.out.ch hc (fun k hk hk2 => by have := HOW.out k (.inr hk); have := hld k hk2; omega)
              have hkd : k = 0 := by omega
              have HCW7 := Lib.hid hcw7; clear hcw7 hc hbb
              have HRO7 := Lib.hid hro7; clear hro7
              have HRL7 := Lib.hid hrl7; clear hrl7
              clear HRO6 HRL6 HRD6 HCW6
              have HRf := Refs23_is (w := wr) l.length lc rfl (HS.out.ch HCW7.out (by simp)) (by omega)
              go_wp2_with fail
              refine HRf.mono ?_
              rintro e W8 ⟨vo, rfl, hrp, hlp, hc8⟩
              obtain ⟨pa, pc, rfl⟩ := row.shape hrp
              have HE := Eqref_is (w := W8) oc pc (xs := l) (ys := l) (Sl.of_ints (HRO7.out.ch hc8 (by simp)) (by omega)) (Sl.of_ints hrp (by omega))
              simp only [decide_true] at HE
              clear HRf hrp hlp
              have HC8 := Lib.hid hc8; clear hc8
              go_wp2_with fail
              refine HE.mono ?_
              rintro e W9 ⟨rfl, hc9⟩
              have hc79 := HC8.out.trans hc9 (by simp)
              have HE2 := Eqbool_is (w := W9) tc vc (xs := vs) (ys := vs) (row.sv (HRL7.out.ch hc79 (by simp)) rfl (by omega)) (HV.out.ch (HCW7.out.trans hc79 (by simp)) (by simp))
              simp only [decide_true] at HE2
              have HC79 := Lib.hid hc79; clear hc79 hc9 HE
              go_wp2_with fail
              refine HE2.mono ?_
              rintro e W10 ⟨rfl, hc10⟩
              have HCF := Lib.hid ((HCW7.out.trans HC79.out (by simp)).trans hc10 (by simp))
              clear HE2 hc10
              go_wp2_with fail
              go_ret
              exact ⟨rfl, HCF.out⟩
        · have hd0 : decide ((0 : Int) ≤ (vs.length : Int) - 1) = true := decide_eq_true (by omega)
          have h1 : 1 ≤ vs.length := by omega
          clear h0
          go_wp2_with fail
          go_loopw [162] (fun i wr => ∃ k : Nat, k ≤ 0 ∧ i = .int .i64 k ∧ Ch (Value.slice da 0 dc).ownBlock.toList W6 wr ∧ ∀ j, j < 0 → ∃ (b : Nat) (ys : List Value), da = some ⟨b, 0, none⟩ ∧ blk wr b ys ∧ 0 ≤ ys.length) (fun i _ => 0 - (intOf i).toNat)
          case atStart => exact ⟨0, by omega, rfl, Ch.refl _ _, rowBlk HRD6.out⟩
          case round =>
            obtain ⟨k, hk, rfl, hc, hbb⟩ := hrel
            by_cases hlt : k < 0
            · exact absurd hlt (by omega)
            · have hld : ∀ q ∈ (Value.slice da 0 dc).ownBlock.toList, w3.heap.size ≤ q := HLD.out
              have hz3 := HCW3.out.size
              have hcw7 : Ch [] w wr := HCW6.out.trans hc (fun q hq => .inr (by have := hld q hq; omega))
              have hro7 := HRO6.out.ch hc (fun k hk hk2 => by have := HOW.out k (.inl hk); have := hld k hk2; omega)
              have hrl7 := HRL6.out.ch hc (fun k hk hk2 => by have := HOW.out k (.inr hk); have := hld k hk2; omega)
              have hkd : k = 0 := by omega
              have HCW7 := Lib.hid hcw7; clear hcw7 hc hbb
              have HRO7 := Lib.hid hro7; clear hro7
              have HRL7 := Lib.hid hrl7; clear hrl7
              clear HRO6 HRL6 HRD6 HCW6
              have HRf := Refs23_is (w := wr) l.length lc rfl (HS.out.ch HCW7.out (by simp)) (by omega)
              go_wp2_with fail
              refine HRf.mono ?_
              rintro e W8 ⟨vo, rfl, hrp, hlp, hc8⟩
              obtain ⟨pa, pc, rfl⟩ := row.shape hrp
              have HE := Eqref_is (w := W8) oc pc (xs := l) (ys := l) (Sl.of_ints (HRO7.out.ch hc8 (by simp)) (by omega)) (Sl.of_ints hrp (by omega))
              simp only [decide_true] at HE
              clear HRf hrp hlp
              have HC8 := Lib.hid hc8; clear hc8
              go_wp2_with fail
              refine HE.mono ?_
              rintro e W9 ⟨rfl, hc9⟩
              have hc79 := HC8.out.trans hc9 (by simp)
              have HE2 := Eqbool_is (w := W9) tc vc (xs := vs) (ys := vs) (row.sv (HRL7.out.ch hc79 (by simp)) rfl (by omega)) (HV.out.ch (HCW7.out.trans hc79 (by simp)) (by simp))
              simp only [decide_true] at HE2
              have HC79 := Lib.hid hc79; clear hc79 hc9 HE
              go_wp2_with fail
              refine HE2.mono ?_
              rintro e W10 ⟨rfl, hc10⟩
              have HCF := Lib.hid ((HCW7.out.trans HC79.out (by simp)).trans hc10 (by simp))
              clear HE2 hc10
              go_wp2_with fail
              go_ret
              exact ⟨rfl, HCF.out⟩
set_option maxRecDepth 100000 in
set_option maxHeartbeats 8000000 in
theorem words23_tfF1 {x : Nat} (hx : x < 4294967296) {k0 : Nat} (hk0 : k0 ≤ 17) (hk1 : 1 ≤ k0) {la va : Option Addr} {l : List Int} {vs : List Bool} (lc vc : Nat) (hS : Sl w la l) (hV : Sb w va vs) (hl : l.length ≤ 30) (hm : vs.length ≤ 30) (hbd : ∀ r ∈ l, -9223372036854775808 ≤ r ∧ r ≤ 9223372036854775807) (hq : rightW l.length = false) (hv : l.length < 1) :
    Calls Try.prog 12 #[.int .u32 x, .int .i64 k0, .slice la l.length lc, .slice va vs.length vc] w fun e w' => e = .returned (.bool true) ∧ Ch [] w w' := by
  have hr : rightW (k0 : Int) = true := by unfold rightW; simp; omega
  have HRf := Refs23_is (w := w) l.length lc rfl hS (by omega)
  have HS := Lib.hid hS; clear hS
  have HV := Lib.hid hV; clear hV
  have HBD := Lib.hid hbd; clear hbd
  go_enter Try.func12, Try.ntmps12
  go_wp2_with fail
  refine HRf.mono ?_
  rintro e w1 ⟨vo, rfl, hro, hlo, hc1⟩
  obtain ⟨oa, oc, rfl⟩ := row.shape hro
  have HCB := Clbool_is (w := w1) vs.length vc rfl (HV.out.ch hc1 (by simp)) (by omega)
  go_wp2_with fail
  refine HCB.mono ?_
  rintro e w2 ⟨vl, rfl, hrl, hll, hc2⟩
  obtain ⟨ta, tc, rfl⟩ := row.shape hrl
  have HCo := sConst_is (w := w2) x hx k0
  rw [hr] at HCo
  simp only [if_true, Bool.false_eq_true, if_false, Int.toNat_natCast] at HCo
  go_wp2_with fail
  refine HCo.mono ?_
  rintro e w3 ⟨vcc, rfl, hnc⟩
  obtain ⟨ca, cc, rfl, hrc, hlc, hc3⟩ := hnc.parts (n := k0) (by simp [refsCells, constL])
  have hro3 := (hro.ch hc2 (by simp)).ch hc3 (by simp)
  have hwv : WVok w3 ⟨oa, l, oc⟩ := ⟨Sl.of_ints hro3 (by omega), HBD.out, by simp only; omega⟩
  have hcap : l.length ≤ oc := rowCap hro3
  have HCa := sCast_is hwv hcap k0
  simp only [hr, hq, WV.val, Bool.and_self, Bool.false_and, Bool.and_false, if_true, Bool.false_eq_true, if_false, Int.toNat_natCast] at HCa
  go_wp2_with fail
  refine HCa.mono ?_
  rintro e w4 ⟨vd, rfl, hnd⟩
  obtain ⟨da, dc, rfl, hrd, hld, hc4⟩ := hnd.parts (n := 0) (by simp [intCells, castL])
  have hrl4 := (hrl.ch hc3 (by simp)).ch hc4 (by simp)
  have HVa := sValue_is (w := w4) (x := ⟨oa, l, oc⟩) (by simp only; omega) (a := ta) (l := vs) tc (by omega) (row.sv hrl4 rfl (by omega))
  simp only [WV.val] at HVa
  rw [if_neg (by omega), if_neg (by omega)] at HVa
  go_wp2_with fail
  refine HVa.mono ?_
  rintro e w5 ⟨rfl, rfl⟩
  have HRi := r23Right_is (w := w4) k0
  rw [hr] at HRi
  go_wp2_with fail
  refine HRi.mono ?_
  rintro e w5 ⟨rfl, rfl⟩
  have HRj := r23Right_is (w := w4) l.length
  rw [hq] at HRj
  go_wp2_with fail
  refine HRj.mono ?_
  rintro e w5 ⟨rfl, rfl⟩
  have hro4 := hro3.ch hc4 (by simp)
  have hrc4 := hrc.ch hc4 (by simp)
  have hcw4 := ((hc1.trans hc2 (by simp)).trans hc3 (by simp)).trans hc4 (by simp)
  have hcw3 := (hc1.trans hc2 (by simp)).trans hc3 (by simp)
  have hown : ∀ k, (Value.slice oa l.length oc).ownBlock = some k ∨ (Value.slice ta vs.length tc).ownBlock = some k → k < w3.heap.size := fun k hk => by
    rcases hk with hk | hk
    · exact (hro3.lt k hk).2
    · exact ((hrl.ch hc3 (by simp)).lt k hk).2
  have HRO := Lib.hid hro4; clear hro hro3 hro4
  have HRL := Lib.hid hrl4; clear hrl hrl4
  have HRC := Lib.hid hrc4; clear hrc hrc4
  have HRD := Lib.hid hrd; clear hrd
  have HLD := Lib.hid hld; clear hld
  have HCW := Lib.hid hcw4; clear hcw4
  have HCW3 := Lib.hid hcw3; clear hcw3
  have HOW := Lib.hid hown
  clear hown HRf HCB HCo HCa HVa HRi hnc hnd hc1 hc2 hc3 hc4 hlo hll hlc hwv
  go_wp2_with fail
  go_loopw [89] (fun i wr => ∃ k : Nat, k ≤ 3 ∧ i = .int .i64 k ∧ wr = w4.alloc (.cells #[.int .i64 0, .int .i64 230, .int .i64 230] 37)) (fun i _ => 3 - (intOf i).toNat)
  case atStart => exact ⟨0, by omega, rfl, rfl⟩
  case round =>
    obtain ⟨k, hk, rfl, rfl⟩ := hrel
    by_cases hlt : k < 3
    · obtain ⟨ev, hev, hcell⟩ : ∃ ev : Int, (ev = 0 ∨ ev = 230) ∧ (w4.alloc (.cells #[.int .i64 0, .int .i64 230, .int .i64 230] 37)).cell? ⟨w4.heap.size, k, none⟩ = some (.int .i64 ev) := by
        have hb : blk (w4.alloc (.cells #[.int .i64 0, .int .i64 230, .int .i64 230] 37)) w4.heap.size [.int .i64 0, .int .i64 230, .int .i64 230] := blk.new' _ _ rfl
        rcases (show k = 0 ∨ k = 1 ∨ k = 2 by omega) with rfl | rfl | rfl <;> exact ⟨_, by simp, hb.cell rfl⟩
      rcases hev with rfl | rfl
      · go_wp2_with fail
        go_roundw
        case rel => exact ⟨k + 1, by omega, by go_num, trivial⟩
        case measure => simp [intOf]; omega
      · go_wp2_with fail
        go_roundw
        case rel => exact ⟨k + 1, by omega, by go_num, trivial⟩
        case measure => simp [intOf]; omega
    · obtain ⟨W5, hW5⟩ : ∃ W5, W5 = w4.alloc (.cells #[.int .i64 0, .int .i64 230, .int .i64 230] 37) := ⟨_, rfl⟩
      rw [← hW5]
      have hc5 := alw_ch hW5
      clear hW5
      have HRO5 := Lib.hid (HRO.out.ch hc5 (by simp))
      have HRL5 := Lib.hid (HRL.out.ch hc5 (by simp))
      have HRC5 := Lib.hid (HRC.out.ch hc5 (by simp))
      have HRD5 := Lib.hid (HRD.out.ch hc5 (by simp))
      have HCW5 := Lib.hid (HCW.out.trans hc5 (by simp))
      have HZ5 := Lib.hid hc5.size
      clear HRO HRL HRC HRD hc5
      have HI := Ints23_is (w := W5) (a := ca) (l := natInts (constL x k0)) k0 cc (by simp [natInts, constL]) (by have := HRC5.out; rw [refs_natInts] at this; exact Sl.of_ints this (by omega)) (by omega)
      go_wp2_with fail
      refine HI.mono ?_
      rintro e w6 ⟨vi, rfl, hri, hli, hc6⟩
      obtain ⟨ia, ic, rfl⟩ := row.shape hri
      have HQ := r23Const_is (w := w6) x hx k0 hk0
      clear HI
      go_wp2_with fail
      refine HQ.mono ?_
      rintro e w7 ⟨vq, rfl, hrq, hlq, hc7⟩
      obtain ⟨qa, qc, rfl⟩ := row.shape hrq
      clear HQ
      have HE := Eqint_is (w := w7) ic qc (xs := natInts (constL x k0)) (ys := natInts (rConstN x k0)) (Sl.of_ints (hri.ch hc7 (by simp)) (by omega)) (by rw [refs_natInts] at hrq; exact Sl.of_ints hrq (by omega))
      simp only [natInts_len, rConstN_eq, decide_true, show (constL x k0).length = k0 from by simp [constL]] at HE
      clear hri hli hrq hlq
      go_wp2_with fail
      refine HE.mono ?_
      rintro e w8 ⟨rfl, hc8⟩
      clear HE
      have HC := Lib.hid ((hc6.trans hc7 (by simp)).trans hc8 (by simp))
      clear hc6 hc7 hc8
      have HRO6 := Lib.hid (HRO5.out.ch HC.out (by simp))
      have HRL6 := Lib.hid (HRL5.out.ch HC.out (by simp))
      have HRD6 := Lib.hid (HRD5.out.ch HC.out (by simp))
      have HCW6 := Lib.hid (HCW5.out.trans HC.out (by simp))
      clear HRO5 HRL5 HRC5 HRD5
      obtain ⟨W6, hW6⟩ : ∃ W6, W6 = w8 := ⟨_, rfl⟩
      rw [← hW6] at HRO6 HRL6 HRD6 HCW6 HC
      try rw [← hW6]
      clear hW6
      go_wp2_with fail
      go_loopw [21, 22] (fun x i wr => i = .int .i64 ((vs.length : Int) - 1) ∧ W6 = wr ∧ x = .int .u32 0) (fun _ i _ => 0)
      case atStart => exact ⟨rfl, rfl, rfl⟩
      case round =>
        obtain ⟨rfl, rfl, rfl⟩ := hrel
        by_cases h0 : vs.length < 1
        · have hd0 : decide ((0 : Int) ≤ (vs.length : Int) - 1) = false := decide_eq_false (by omega)
          go_wp2_with fail
          go_loopw [162] (fun i wr => ∃ k : Nat, k ≤ 0 ∧ i = .int .i64 k ∧ Ch (Value.slice da 0 dc).ownBlock.toList W6 wr ∧ ∀ j, j < 0 → ∃ (b : Nat) (ys : List Value), da = some ⟨b, 0, none⟩ ∧ blk wr b ys ∧ 0 ≤ ys.length) (fun i _ => 0 - (intOf i).toNat)
          case atStart => exact ⟨0, by omega, rfl, Ch.refl _ _, rowBlk HRD6.out⟩
          case round =>
            obtain ⟨k, hk, rfl, hc, hbb⟩ := hrel
            by_cases hlt : k < 0
            · exact absurd hlt (by omega)
            · have hld : ∀ q ∈ (Value.slice da 0 dc).ownBlock.toList, w3.heap.size ≤ q := HLD.out
              have hz3 := HCW3.out.size
              have hcw7 : Ch [] w wr := HCW6.out.trans hc (fun q hq => .inr (by have := hld q hq; omega))
              have hro7 := HRO6.out.ch hc (fun k hk hk2 => by have := HOW.out k (.inl hk); have := hld k hk2; omega)
              have hrl7 := HRL6.out.ch hc (fun k hk hk2 => by have := HOW.out k (.inr hk); have := hld k hk2; omega)
              have hkd : k = 0 := by omega
              have HCW7 := Lib.hid hcw7; clear hcw7 hc hbb
              have HRO7 := Lib.hid hro7; clear hro7
              have HRL7 := Lib.hid hrl7; clear hrl7
              clear HRO6 HRL6 HRD6 HCW6
              have HRf := Refs23_is (w := wr) l.length lc rfl (HS.out.ch HCW7.out (by simp)) (by omega)
              go_wp2_with fail
              refine HRf.mono ?_
              rintro e W8 ⟨vo, rfl, hrp, hlp, hc8⟩
              obtain ⟨pa, pc, rfl⟩ := row.shape hrp
              have HE := Eqref_is (w := W8) oc pc (xs := l) (ys := l) (Sl.of_ints (HRO7.out.ch hc8 (by simp)) (by omega)) (Sl.of_ints hrp (by omega))
              simp only [decide_true] at HE
              clear HRf hrp hlp
              have HC8 := Lib.hid hc8; clear hc8
              go_wp2_with fail
              refine HE.mono ?_
              rintro e W9 ⟨rfl, hc9⟩
              have hc79 := HC8.out.trans hc9 (by simp)
              have HE2 := Eqbool_is (w := W9) tc vc (xs := vs) (ys := vs) (row.sv (HRL7.out.ch hc79 (by simp)) rfl (by omega)) (HV.out.ch (HCW7.out.trans hc79 (by simp)) (by simp))
              simp only [decide_true] at HE2
              have HC79 := Lib.hid hc79; clear hc79 hc9 HE
              go_wp2_with fail
              refine HE2.mono ?_
              rintro e W10 ⟨rfl, hc10⟩
              have HCF := Lib.hid ((HCW7.out.trans HC79.out (by simp)).trans hc10 (by simp))
              clear HE2 hc10
              go_wp2_with fail
              go_ret
              exact ⟨rfl, HCF.out⟩
        · have hd0 : decide ((0 : Int) ≤ (vs.length : Int) - 1) = true := decide_eq_true (by omega)
          have h1 : 1 ≤ vs.length := by omega
          clear h0
          go_wp2_with fail
          go_loopw [162] (fun i wr => ∃ k : Nat, k ≤ 0 ∧ i = .int .i64 k ∧ Ch (Value.slice da 0 dc).ownBlock.toList W6 wr ∧ ∀ j, j < 0 → ∃ (b : Nat) (ys : List Value), da = some ⟨b, 0, none⟩ ∧ blk wr b ys ∧ 0 ≤ ys.length) (fun i _ => 0 - (intOf i).toNat)
          case atStart => exact ⟨0, by omega, rfl, Ch.refl _ _, rowBlk HRD6.out⟩
          case round =>
            obtain ⟨k, hk, rfl, hc, hbb⟩ := hrel
            by_cases hlt : k < 0
            · exact absurd hlt (by omega)
            · have hld : ∀ q ∈ (Value.slice da 0 dc).ownBlock.toList, w3.heap.size ≤ q := HLD.out
              have hz3 := HCW3.out.size
              have hcw7 : Ch [] w wr := HCW6.out.trans hc (fun q hq => .inr (by have := hld q hq; omega))
              have hro7 := HRO6.out.ch hc (fun k hk hk2 => by have := HOW.out k (.inl hk); have := hld k hk2; omega)
              have hrl7 := HRL6.out.ch hc (fun k hk hk2 => by have := HOW.out k (.inr hk); have := hld k hk2; omega)
              have hkd : k = 0 := by omega
              have HCW7 := Lib.hid hcw7; clear hcw7 hc hbb
              have HRO7 := Lib.hid hro7; clear hro7
              have HRL7 := Lib.hid hrl7; clear hrl7
              clear HRO6 HRL6 HRD6 HCW6
              have HRf := Refs23_is (w := wr) l.length lc rfl (HS.out.ch HCW7.out (by simp)) (by omega)
              go_wp2_with fail
              refine HRf.mono ?_
              rintro e W8 ⟨vo, rfl, hrp, hlp, hc8⟩
              obtain ⟨pa, pc, rfl⟩ := row.shape hrp
              have HE := Eqref_is (w := W8) oc pc (xs := l) (ys := l) (Sl.of_ints (HRO7.out.ch hc8 (by simp)) (by omega)) (Sl.of_ints hrp (by omega))
              simp only [decide_true] at HE
              clear HRf hrp hlp
              have HC8 := Lib.hid hc8; clear hc8
              go_wp2_with fail
              refine HE.mono ?_
              rintro e W9 ⟨rfl, hc9⟩
              have hc79 := HC8.out.trans hc9 (by simp)
              have HE2 := Eqbool_is (w := W9) tc vc (xs := vs) (ys := vs) (row.sv (HRL7.out.ch hc79 (by simp)) rfl (by omega)) (HV.out.ch (HCW7.out.trans hc79 (by simp)) (by simp))
              simp only [decide_true] at HE2
              have HC79 := Lib.hid hc79; clear hc79 hc9 HE
              go_wp2_with fail
              refine HE2.mono ?_
              rintro e W10 ⟨rfl, hc10⟩
              have HCF := Lib.hid ((HCW7.out.trans HC79.out (by simp)).trans hc10 (by simp))
              clear HE2 hc10
              go_wp2_with fail
              go_ret
              exact ⟨rfl, HCF.out⟩
set_option maxRecDepth 100000 in
set_option maxHeartbeats 8000000 in
theorem words23_tfF2 {x : Nat} (hx : x < 4294967296) {k0 : Nat} (hk0 : k0 ≤ 17) (hk1 : 1 ≤ k0) {la va : Option Addr} {l : List Int} {vs : List Bool} (lc vc : Nat) (hS : Sl w la l) (hV : Sb w va vs) (hl : l.length ≤ 30) (hm : vs.length ≤ 30) (hbd : ∀ r ∈ l, -9223372036854775808 ≤ r ∧ r ≤ 9223372036854775807) (hq : rightW l.length = false) (hv : 17 ≤ l.length) :
    Calls Try.prog 12 #[.int .u32 x, .int .i64 k0, .slice la l.length lc, .slice va vs.length vc] w fun e w' => e = .returned (.bool true) ∧ Ch [] w w' := by
  have hr : rightW (k0 : Int) = true := by unfold rightW; simp; omega
  have HRf := Refs23_is (w := w) l.length lc rfl hS (by omega)
  have HS := Lib.hid hS; clear hS
  have HV := Lib.hid hV; clear hV
  have HBD := Lib.hid hbd; clear hbd
  go_enter Try.func12, Try.ntmps12
  go_wp2_with fail
  refine HRf.mono ?_
  rintro e w1 ⟨vo, rfl, hro, hlo, hc1⟩
  obtain ⟨oa, oc, rfl⟩ := row.shape hro
  have HCB := Clbool_is (w := w1) vs.length vc rfl (HV.out.ch hc1 (by simp)) (by omega)
  go_wp2_with fail
  refine HCB.mono ?_
  rintro e w2 ⟨vl, rfl, hrl, hll, hc2⟩
  obtain ⟨ta, tc, rfl⟩ := row.shape hrl
  have HCo := sConst_is (w := w2) x hx k0
  rw [hr] at HCo
  simp only [if_true, Bool.false_eq_true, if_false, Int.toNat_natCast] at HCo
  go_wp2_with fail
  refine HCo.mono ?_
  rintro e w3 ⟨vcc, rfl, hnc⟩
  obtain ⟨ca, cc, rfl, hrc, hlc, hc3⟩ := hnc.parts (n := k0) (by simp [refsCells, constL])
  have hro3 := (hro.ch hc2 (by simp)).ch hc3 (by simp)
  have hwv : WVok w3 ⟨oa, l, oc⟩ := ⟨Sl.of_ints hro3 (by omega), HBD.out, by simp only; omega⟩
  have hcap : l.length ≤ oc := rowCap hro3
  have HCa := sCast_is hwv hcap k0
  simp only [hr, hq, WV.val, Bool.and_self, Bool.false_and, Bool.and_false, if_true, Bool.false_eq_true, if_false, Int.toNat_natCast] at HCa
  go_wp2_with fail
  refine HCa.mono ?_
  rintro e w4 ⟨vd, rfl, hnd⟩
  obtain ⟨da, dc, rfl, hrd, hld, hc4⟩ := hnd.parts (n := 0) (by simp [intCells, castL])
  have hrl4 := (hrl.ch hc3 (by simp)).ch hc4 (by simp)
  have HVa := sValue_is (w := w4) (x := ⟨oa, l, oc⟩) (by simp only; omega) (a := ta) (l := vs) tc (by omega) (row.sv hrl4 rfl (by omega))
  simp only [WV.val] at HVa
  rw [if_neg (by omega), if_neg (by omega)] at HVa
  go_wp2_with fail
  refine HVa.mono ?_
  rintro e w5 ⟨rfl, rfl⟩
  have HRi := r23Right_is (w := w4) k0
  rw [hr] at HRi
  go_wp2_with fail
  refine HRi.mono ?_
  rintro e w5 ⟨rfl, rfl⟩
  have HRj := r23Right_is (w := w4) l.length
  rw [hq] at HRj
  go_wp2_with fail
  refine HRj.mono ?_
  rintro e w5 ⟨rfl, rfl⟩
  have hro4 := hro3.ch hc4 (by simp)
  have hrc4 := hrc.ch hc4 (by simp)
  have hcw4 := ((hc1.trans hc2 (by simp)).trans hc3 (by simp)).trans hc4 (by simp)
  have hcw3 := (hc1.trans hc2 (by simp)).trans hc3 (by simp)
  have hown : ∀ k, (Value.slice oa l.length oc).ownBlock = some k ∨ (Value.slice ta vs.length tc).ownBlock = some k → k < w3.heap.size := fun k hk => by
    rcases hk with hk | hk
    · exact (hro3.lt k hk).2
    · exact ((hrl.ch hc3 (by simp)).lt k hk).2
  have HRO := Lib.hid hro4; clear hro hro3 hro4
  have HRL := Lib.hid hrl4; clear hrl hrl4
  have HRC := Lib.hid hrc4; clear hrc hrc4
  have HRD := Lib.hid hrd; clear hrd
  have HLD := Lib.hid hld; clear hld
  have HCW := Lib.hid hcw4; clear hcw4
  have HCW3 := Lib.hid hcw3; clear hcw3
  have HOW := Lib.hid hown
  clear hown HRf HCB HCo HCa HVa HRi hnc hnd hc1 hc2 hc3 hc4 hlo hll hlc hwv
  go_wp2_with fail
  go_loopw [89] (fun i wr => ∃ k : Nat, k ≤ 3 ∧ i = .int .i64 k ∧ wr = w4.alloc (.cells #[.int .i64 0, .int .i64 230, .int .i64 230] 37)) (fun i _ => 3 - (intOf i).toNat)
  case atStart => exact ⟨0, by omega, rfl, rfl⟩
  case round =>
    obtain ⟨k, hk, rfl, rfl⟩ := hrel
    by_cases hlt : k < 3
    · obtain ⟨ev, hev, hcell⟩ : ∃ ev : Int, (ev = 0 ∨ ev = 230) ∧ (w4.alloc (.cells #[.int .i64 0, .int .i64 230, .int .i64 230] 37)).cell? ⟨w4.heap.size, k, none⟩ = some (.int .i64 ev) := by
        have hb : blk (w4.alloc (.cells #[.int .i64 0, .int .i64 230, .int .i64 230] 37)) w4.heap.size [.int .i64 0, .int .i64 230, .int .i64 230] := blk.new' _ _ rfl
        rcases (show k = 0 ∨ k = 1 ∨ k = 2 by omega) with rfl | rfl | rfl <;> exact ⟨_, by simp, hb.cell rfl⟩
      rcases hev with rfl | rfl
      · go_wp2_with fail
        go_roundw
        case rel => exact ⟨k + 1, by omega, by go_num, trivial⟩
        case measure => simp [intOf]; omega
      · go_wp2_with fail
        go_roundw
        case rel => exact ⟨k + 1, by omega, by go_num, trivial⟩
        case measure => simp [intOf]; omega
    · obtain ⟨W5, hW5⟩ : ∃ W5, W5 = w4.alloc (.cells #[.int .i64 0, .int .i64 230, .int .i64 230] 37) := ⟨_, rfl⟩
      rw [← hW5]
      have hc5 := alw_ch hW5
      clear hW5
      have HRO5 := Lib.hid (HRO.out.ch hc5 (by simp))
      have HRL5 := Lib.hid (HRL.out.ch hc5 (by simp))
      have HRC5 := Lib.hid (HRC.out.ch hc5 (by simp))
      have HRD5 := Lib.hid (HRD.out.ch hc5 (by simp))
      have HCW5 := Lib.hid (HCW.out.trans hc5 (by simp))
      have HZ5 := Lib.hid hc5.size
      clear HRO HRL HRC HRD hc5
      have HI := Ints23_is (w := W5) (a := ca) (l := natInts (constL x k0)) k0 cc (by simp [natInts, constL]) (by have := HRC5.out; rw [refs_natInts] at this; exact Sl.of_ints this (by omega)) (by omega)
      go_wp2_with fail
      refine HI.mono ?_
      rintro e w6 ⟨vi, rfl, hri, hli, hc6⟩
      obtain ⟨ia, ic, rfl⟩ := row.shape hri
      have HQ := r23Const_is (w := w6) x hx k0 hk0
      clear HI
      go_wp2_with fail
      refine HQ.mono ?_
      rintro e w7 ⟨vq, rfl, hrq, hlq, hc7⟩
      obtain ⟨qa, qc, rfl⟩ := row.shape hrq
      clear HQ
      have HE := Eqint_is (w := w7) ic qc (xs := natInts (constL x k0)) (ys := natInts (rConstN x k0)) (Sl.of_ints (hri.ch hc7 (by simp)) (by omega)) (by rw [refs_natInts] at hrq; exact Sl.of_ints hrq (by omega))
      simp only [natInts_len, rConstN_eq, decide_true, show (constL x k0).length = k0 from by simp [constL]] at HE
      clear hri hli hrq hlq
      go_wp2_with fail
      refine HE.mono ?_
      rintro e w8 ⟨rfl, hc8⟩
      clear HE
      have HC := Lib.hid ((hc6.trans hc7 (by simp)).trans hc8 (by simp))
      clear hc6 hc7 hc8
      have HRO6 := Lib.hid (HRO5.out.ch HC.out (by simp))
      have HRL6 := Lib.hid (HRL5.out.ch HC.out (by simp))
      have HRD6 := Lib.hid (HRD5.out.ch HC.out (by simp))
      have HCW6 := Lib.hid (HCW5.out.trans HC.out (by simp))
      clear HRO5 HRL5 HRC5 HRD5
      obtain ⟨W6, hW6⟩ : ∃ W6, W6 = w8 := ⟨_, rfl⟩
      rw [← hW6] at HRO6 HRL6 HRD6 HCW6 HC
      try rw [← hW6]
      clear hW6
      go_wp2_with fail
      go_loopw [21, 22] (fun x i wr => i = .int .i64 ((vs.length : Int) - 1) ∧ W6 = wr ∧ x = .int .u32 0) (fun _ i _ => 0)
      case atStart => exact ⟨rfl, rfl, rfl⟩
      case round =>
        obtain ⟨rfl, rfl, rfl⟩ := hrel
        by_cases h0 : vs.length < 1
        · have hd0 : decide ((0 : Int) ≤ (vs.length : Int) - 1) = false := decide_eq_false (by omega)
          go_wp2_with fail
          go_loopw [162] (fun i wr => ∃ k : Nat, k ≤ 0 ∧ i = .int .i64 k ∧ Ch (Value.slice da 0 dc).ownBlock.toList W6 wr ∧ ∀ j, j < 0 → ∃ (b : Nat) (ys : List Value), da = some ⟨b, 0, none⟩ ∧ blk wr b ys ∧ 0 ≤ ys.length) (fun i _ => 0 - (intOf i).toNat)
          case atStart => exact ⟨0, by omega, rfl, Ch.refl _ _, rowBlk HRD6.out⟩
          case round =>
            obtain ⟨k, hk, rfl, hc, hbb⟩ := hrel
            by_cases hlt : k < 0
            · exact absurd hlt (by omega)
            · have hld : ∀ q ∈ (Value.slice da 0 dc).ownBlock.toList, w3.heap.size ≤ q := HLD.out
              have hz3 := HCW3.out.size
              have hcw7 : Ch [] w wr := HCW6.out.trans hc (fun q hq => .inr (by have := hld q hq; omega))
              have hro7 := HRO6.out.ch hc (fun k hk hk2 => by have := HOW.out k (.inl hk); have := hld k hk2; omega)
              have hrl7 := HRL6.out.ch hc (fun k hk hk2 => by have := HOW.out k (.inr hk); have := hld k hk2; omega)
              have hkd : k = 0 := by omega
              have HCW7 := Lib.hid hcw7; clear hcw7 hc hbb
              have HRO7 := Lib.hid hro7; clear hro7
              have HRL7 := Lib.hid hrl7; clear hrl7
              clear HRO6 HRL6 HRD6 HCW6
              have HRf := Refs23_is (w := wr) l.length lc rfl (HS.out.ch HCW7.out (by simp)) (by omega)
              go_wp2_with fail
              refine HRf.mono ?_
              rintro e W8 ⟨vo, rfl, hrp, hlp, hc8⟩
              obtain ⟨pa, pc, rfl⟩ := row.shape hrp
              have HE := Eqref_is (w := W8) oc pc (xs := l) (ys := l) (Sl.of_ints (HRO7.out.ch hc8 (by simp)) (by omega)) (Sl.of_ints hrp (by omega))
              simp only [decide_true] at HE
              clear HRf hrp hlp
              have HC8 := Lib.hid hc8; clear hc8
              go_wp2_with fail
              refine HE.mono ?_
              rintro e W9 ⟨rfl, hc9⟩
              have hc79 := HC8.out.trans hc9 (by simp)
              have HE2 := Eqbool_is (w := W9) tc vc (xs := vs) (ys := vs) (row.sv (HRL7.out.ch hc79 (by simp)) rfl (by omega)) (HV.out.ch (HCW7.out.trans hc79 (by simp)) (by simp))
              simp only [decide_true] at HE2
              have HC79 := Lib.hid hc79; clear hc79 hc9 HE
              go_wp2_with fail
              refine HE2.mono ?_
              rintro e W10 ⟨rfl, hc10⟩
              have HCF := Lib.hid ((HCW7.out.trans HC79.out (by simp)).trans hc10 (by simp))
              clear HE2 hc10
              go_wp2_with fail
              go_ret
              exact ⟨rfl, HCF.out⟩
        · have hd0 : decide ((0 : Int) ≤ (vs.length : Int) - 1) = true := decide_eq_true (by omega)
          have h1 : 1 ≤ vs.length := by omega
          clear h0
          go_wp2_with fail
          go_loopw [162] (fun i wr => ∃ k : Nat, k ≤ 0 ∧ i = .int .i64 k ∧ Ch (Value.slice da 0 dc).ownBlock.toList W6 wr ∧ ∀ j, j < 0 → ∃ (b : Nat) (ys : List Value), da = some ⟨b, 0, none⟩ ∧ blk wr b ys ∧ 0 ≤ ys.length) (fun i _ => 0 - (intOf i).toNat)
          case atStart => exact ⟨0, by omega, rfl, Ch.refl _ _, rowBlk HRD6.out⟩
          case round =>
            obtain ⟨k, hk, rfl, hc, hbb⟩ := hrel
            by_cases hlt : k < 0
            · exact absurd hlt (by omega)
            · have hld : ∀ q ∈ (Value.slice da 0 dc).ownBlock.toList, w3.heap.size ≤ q := HLD.out
              have hz3 := HCW3.out.size
              have hcw7 : Ch [] w wr := HCW6.out.trans hc (fun q hq => .inr (by have := hld q hq; omega))
              have hro7 := HRO6.out.ch hc (fun k hk hk2 => by have := HOW.out k (.inl hk); have := hld k hk2; omega)
              have hrl7 := HRL6.out.ch hc (fun k hk hk2 => by have := HOW.out k (.inr hk); have := hld k hk2; omega)
              have hkd : k = 0 := by omega
              have HCW7 := Lib.hid hcw7; clear hcw7 hc hbb
              have HRO7 := Lib.hid hro7; clear hro7
              have HRL7 := Lib.hid hrl7; clear hrl7
              clear HRO6 HRL6 HRD6 HCW6
              have HRf := Refs23_is (w := wr) l.length lc rfl (HS.out.ch HCW7.out (by simp)) (by omega)
              go_wp2_with fail
              refine HRf.mono ?_
              rintro e W8 ⟨vo, rfl, hrp, hlp, hc8⟩
              obtain ⟨pa, pc, rfl⟩ := row.shape hrp
              have HE := Eqref_is (w := W8) oc pc (xs := l) (ys := l) (Sl.of_ints (HRO7.out.ch hc8 (by simp)) (by omega)) (Sl.of_ints hrp (by omega))
              simp only [decide_true] at HE
              clear HRf hrp hlp
              have HC8 := Lib.hid hc8; clear hc8
              go_wp2_with fail
              refine HE.mono ?_
              rintro e W9 ⟨rfl, hc9⟩
              have hc79 := HC8.out.trans hc9 (by simp)
              have HE2 := Eqbool_is (w := W9) tc vc (xs := vs) (ys := vs) (row.sv (HRL7.out.ch hc79 (by simp)) rfl (by omega)) (HV.out.ch (HCW7.out.trans hc79 (by simp)) (by simp))
              simp only [decide_true] at HE2
              have HC79 := Lib.hid hc79; clear hc79 hc9 HE
              go_wp2_with fail
              refine HE2.mono ?_
              rintro e W10 ⟨rfl, hc10⟩
              have HCF := Lib.hid ((HCW7.out.trans HC79.out (by simp)).trans hc10 (by simp))
              clear HE2 hc10
              go_wp2_with fail
              go_ret
              exact ⟨rfl, HCF.out⟩
set_option maxRecDepth 100000 in
set_option maxHeartbeats 8000000 in
theorem words23_ttT {x : Nat} (hx : x < 4294967296) {k0 : Nat} (hk0 : k0 ≤ 17) (hk1 : 1 ≤ k0) {la va : Option Addr} {l : List Int} {vs : List Bool} (lc vc : Nat) (hS : Sl w la l) (hV : Sb w va vs) (hl : l.length ≤ 30) (hm : vs.length ≤ 30) (hbd : ∀ r ∈ l, -9223372036854775808 ≤ r ∧ r ≤ 9223372036854775807) (hq1 : 1 ≤ l.length) (hq2 : l.length ≤ 17) (hv1 : 1 ≤ l.length) (hv2 : l.length ≤ 16) (hv3 : vs.length = l.length) :
    Calls Try.prog 12 #[.int .u32 x, .int .i64 k0, .slice la l.length lc, .slice va vs.length vc] w fun e w' => e = .returned (.bool true) ∧ Ch [] w w' := by
  have hr : rightW (k0 : Int) = true := by unfold rightW; simp; omega
  have hq : rightW (l.length : Int) = true := by unfold rightW; simp; omega
  have HRf := Refs23_is (w := w) l.length lc rfl hS (by omega)
  have HS := Lib.hid hS; clear hS
  have HV := Lib.hid hV; clear hV
  have HBD := Lib.hid hbd; clear hbd
  have hbq : ((vs.length : Int) == (l.length : Int)) = true := beqI (by omega)
  have HV3 := Lib.hid hv3; clear hv3
  go_enter Try.func12, Try.ntmps12
  go_wp2_with fail
  refine HRf.mono ?_
  rintro e w1 ⟨vo, rfl, hro, hlo, hc1⟩
  obtain ⟨oa, oc, rfl⟩ := row.shape hro
  have HCB := Clbool_is (w := w1) vs.length vc rfl (HV.out.ch hc1 (by simp)) (by omega)
  go_wp2_with fail
  refine HCB.mono ?_
  rintro e w2 ⟨vl, rfl, hrl, hll, hc2⟩
  obtain ⟨ta, tc, rfl⟩ := row.shape hrl
  have HCo := sConst_is (w := w2) x hx k0
  rw [hr] at HCo
  simp only [if_true, Bool.false_eq_true, if_false, Int.toNat_natCast] at HCo
  go_wp2_with fail
  refine HCo.mono ?_
  rintro e w3 ⟨vcc, rfl, hnc⟩
  obtain ⟨ca, cc, rfl, hrc, hlc, hc3⟩ := hnc.parts (n := k0) (by simp [refsCells, constL])
  have hro3 := (hro.ch hc2 (by simp)).ch hc3 (by simp)
  have hwv : WVok w3 ⟨oa, l, oc⟩ := ⟨Sl.of_ints hro3 (by omega), HBD.out, by simp only; omega⟩
  have hcap : l.length ≤ oc := rowCap hro3
  have HCa := sCast_is hwv hcap k0
  simp only [hr, hq, WV.val, Bool.and_self, Bool.false_and, Bool.and_false, if_true, Bool.false_eq_true, if_false, Int.toNat_natCast] at HCa
  go_wp2_with fail
  refine HCa.mono ?_
  rintro e w4 ⟨vd, rfl, hnd⟩
  obtain ⟨da, dc, rfl, hrd, hld, hc4⟩ := hnd.parts (n := k0) (by simp [intCells, castL]; omega)
  have hrl4 := (hrl.ch hc3 (by simp)).ch hc4 (by simp)
  have HVa := sValue_is (w := w4) (x := ⟨oa, l, oc⟩) (by simp only; omega) (a := ta) (l := vs) tc (by omega) (row.sv hrl4 rfl (by omega))
  simp only [WV.val] at HVa
  rw [if_pos ⟨by have := HV3.out; omega, by have := HV3.out; omega, HV3.out⟩, if_pos ⟨by have := HV3.out; omega, by have := HV3.out; omega, HV3.out⟩] at HVa
  go_wp2_with fail
  refine HVa.mono ?_
  rintro e w5 ⟨rfl, rfl⟩
  have HRi := r23Right_is (w := w4) k0
  rw [hr] at HRi
  go_wp2_with fail
  refine HRi.mono ?_
  rintro e w5 ⟨rfl, rfl⟩
  have HRj := r23Right_is (w := w4) l.length
  rw [hq] at HRj
  go_wp2_with fail
  refine HRj.mono ?_
  rintro e w5 ⟨rfl, rfl⟩
  have hro4 := hro3.ch hc4 (by simp)
  have hrc4 := hrc.ch hc4 (by simp)
  have hcw4 := ((hc1.trans hc2 (by simp)).trans hc3 (by simp)).trans hc4 (by simp)
  have hcw3 := (hc1.trans hc2 (by simp)).trans hc3 (by simp)
  have hown : ∀ k, (Value.slice oa l.length oc).ownBlock = some k ∨ (Value.slice ta vs.length tc).ownBlock = some k → k < w3.heap.size := fun k hk => by
    rcases hk with hk | hk
    · exact (hro3.lt k hk).2
    · exact ((hrl.ch hc3 (by simp)).lt k hk).2
  have HRO := Lib.hid hro4; clear hro hro3 hro4
  have HRL := Lib.hid hrl4; clear hrl hrl4
  have HRC := Lib.hid hrc4; clear hrc hrc4
  have HRD := Lib.hid hrd; clear hrd
  have HLD := Lib.hid hld; clear hld
  have HCW := Lib.hid hcw4; clear hcw4
  have HCW3 := Lib.hid hcw3; clear hcw3
  have HOW := Lib.hid hown
  clear hown HRf HCB HCo HCa HVa HRi hnc hnd hc1 hc2 hc3 hc4 hlo hll hlc hwv
  go_wp2_with fail
  go_loopw [89] (fun i wr => ∃ k : Nat, k ≤ 3 ∧ i = .int .i64 k ∧ wr = w4.alloc (.cells #[.int .i64 0, .int .i64 0, .int .i64 0] 37)) (fun i _ => 3 - (intOf i).toNat)
  case atStart => exact ⟨0, by omega, rfl, rfl⟩
  case round =>
    obtain ⟨k, hk, rfl, rfl⟩ := hrel
    by_cases hlt : k < 3
    · obtain ⟨ev, hev, hcell⟩ : ∃ ev : Int, (ev = 0 ∨ ev = 230) ∧ (w4.alloc (.cells #[.int .i64 0, .int .i64 0, .int .i64 0] 37)).cell? ⟨w4.heap.size, k, none⟩ = some (.int .i64 ev) := by
        have hb : blk (w4.alloc (.cells #[.int .i64 0, .int .i64 0, .int .i64 0] 37)) w4.heap.size [.int .i64 0, .int .i64 0, .int .i64 0] := blk.new' _ _ rfl
        rcases (show k = 0 ∨ k = 1 ∨ k = 2 by omega) with rfl | rfl | rfl <;> exact ⟨_, by simp, hb.cell rfl⟩
      rcases hev with rfl | rfl
      · go_wp2_with fail
        go_roundw
        case rel => exact ⟨k + 1, by omega, by go_num, trivial⟩
        case measure => simp [intOf]; omega
      · go_wp2_with fail
        go_roundw
        case rel => exact ⟨k + 1, by omega, by go_num, trivial⟩
        case measure => simp [intOf]; omega
    · obtain ⟨W5, hW5⟩ : ∃ W5, W5 = w4.alloc (.cells #[.int .i64 0, .int .i64 0, .int .i64 0] 37) := ⟨_, rfl⟩
      rw [← hW5]
      have hc5 := alw_ch hW5
      clear hW5
      have HRO5 := Lib.hid (HRO.out.ch hc5 (by simp))
      have HRL5 := Lib.hid (HRL.out.ch hc5 (by simp))
      have HRC5 := Lib.hid (HRC.out.ch hc5 (by simp))
      have HRD5 := Lib.hid (HRD.out.ch hc5 (by simp))
      have HCW5 := Lib.hid (HCW.out.trans hc5 (by simp))
      have HZ5 := Lib.hid hc5.size
      clear HRO HRL HRC HRD hc5
      have HI := Ints23_is (w := W5) (a := ca) (l := natInts (constL x k0)) k0 cc (by simp [natInts, constL]) (by have := HRC5.out; rw [refs_natInts] at this; exact Sl.of_ints this (by omega)) (by omega)
      go_wp2_with fail
      refine HI.mono ?_
      rintro e w6 ⟨vi, rfl, hri, hli, hc6⟩
      obtain ⟨ia, ic, rfl⟩ := row.shape hri
      have HQ := r23Const_is (w := w6) x hx k0 hk0
      clear HI
      go_wp2_with fail
      refine HQ.mono ?_
      rintro e w7 ⟨vq, rfl, hrq, hlq, hc7⟩
      obtain ⟨qa, qc, rfl⟩ := row.shape hrq
      clear HQ
      have HE := Eqint_is (w := w7) ic qc (xs := natInts (constL x k0)) (ys := natInts (rConstN x k0)) (Sl.of_ints (hri.ch hc7 (by simp)) (by omega)) (by rw [refs_natInts] at hrq; exact Sl.of_ints hrq (by omega))
      simp only [natInts_len, rConstN_eq, decide_true, show (constL x k0).length = k0 from by simp [constL]] at HE
      clear hri hli hrq hlq
      go_wp2_with fail
      refine HE.mono ?_
      rintro e w8 ⟨rfl, hc8⟩
      clear HE
      have hc58 := (hc6.trans hc7 (by simp)).trans hc8 (by simp)
      have HI := Ints23_is (w := w8) (a := da) (l := castL l k0) k0 dc (by simp [castL]; omega) (Sl.of_ints (HRD5.out.ch hc58 (by simp)) (by omega)) (by omega)
      have HC58 := Lib.hid hc58; clear hc58 hc6 hc7 hc8
      go_wp2_with fail
      refine HI.mono ?_
      rintro e w9 ⟨vi, rfl, hri, hli, hc9⟩
      obtain ⟨ja, jc, rfl⟩ := row.shape hri
      have HQ := r23Cast_is (w := w9) (a := la) l.length lc rfl (HS.out.ch ((HCW5.out.trans HC58.out (by simp)).trans hc9 (by simp)) (by simp)) k0 hk0 (by omega)
      clear HI
      go_wp2_with fail
      refine HQ.mono ?_
      rintro e w10 ⟨vq, rfl, hrq, hlq, hc10⟩
      obtain ⟨ra, rc, rfl⟩ := row.shape hrq
      clear HQ
      have HE := Eqint_is (w := w10) jc rc (xs := castL l k0) (ys := rCastL l k0) (Sl.of_ints (hri.ch hc10 (by simp)) (by omega)) (Sl.of_ints hrq (by omega))
      simp only [castL_eq, decide_true, show (rCastL l k0).length = k0 from by simp [rCastL]] at HE
      clear hri hli hrq hlq
      go_wp2_with fail
      refine HE.mono ?_
      rintro e w11 ⟨rfl, hc11⟩
      clear HE
      have HC := Lib.hid (((HC58.out.trans hc9 (by simp)).trans hc10 (by simp)).trans hc11 (by simp))
      clear hc9 hc10 hc11 HC58
      have HRO6 := Lib.hid (HRO5.out.ch HC.out (by simp))
      have HRL6 := Lib.hid (HRL5.out.ch HC.out (by simp))
      have HRD6 := Lib.hid (HRD5.out.ch HC.out (by simp))
      have HCW6 := Lib.hid (HCW5.out.trans HC.out (by simp))
      clear HRO5 HRL5 HRC5 HRD5
      obtain ⟨W6, hW6⟩ : ∃ W6, W6 = w11 := ⟨_, rfl⟩
      rw [← hW6] at HRO6 HRL6 HRD6 HCW6 HC
      try rw [← hW6]
      clear hW6
      go_wp2_with fail
      go_loopw [21, 22] (fun x i wr => ∃ j : Nat, j ≤ vs.length ∧ i = .int .i64 ((j : Int) - 1) ∧ W6 = wr ∧ x = .int .u32 (bitsVal (vs.drop j))) (fun _ i _ => (intOf i + 1).toNat)
      case atStart => exact ⟨vs.length, by omega, by go_num, rfl, by simp [bitsVal]⟩
      case round =>
        obtain ⟨j, hj, rfl, rfl, rfl⟩ := hrel
        cases j with
        | zero =>
          have hd0 : bitsVal (vs.drop 0) = bitsVal vs := rfl
          rw [hd0]
          clear hd0
          go_wp2_with fail
          go_loopw [162] (fun i wr => ∃ k : Nat, k ≤ k0 ∧ i = .int .i64 k ∧ Ch (Value.slice da k0 dc).ownBlock.toList W6 wr ∧ ∀ j, j < k0 → ∃ (b : Nat) (ys : List Value), da = some ⟨b, 0, none⟩ ∧ blk wr b ys ∧ k0 ≤ ys.length) (fun i _ => k0 - (intOf i).toNat)
          case atStart => exact ⟨0, by omega, rfl, Ch.refl _ _, rowBlk HRD6.out⟩
          case round =>
            obtain ⟨k, hk, rfl, hc, hbb⟩ := hrel
            by_cases hlt : k < k0
            · obtain ⟨b, ys, rfl, hb, hyl⟩ := hbb k hlt
              have hold := hb.cell (List.getElem?_eq_getElem (show k < ys.length by omega))
              have hfz := hb.frozen (i := k)
              have hb2 := hb.set (i := k) (.int .i64 (-5))
              have HB2 := Lib.hid hb2; clear hb2 hbb hb
              have HC9 := Lib.hid hc; clear hc
              generalize ys[k] = old at *
              go_wp2_with fail
              go_roundw
              case rel => exact ⟨k + 1, by omega, by go_num, HC9.out.setCell (by simp) _, fun _ _ => ⟨b, _, rfl, HB2.out, by simpa using hyl⟩⟩
              case measure => simp [intOf]; omega
            · have hld : ∀ q ∈ (Value.slice da k0 dc).ownBlock.toList, w3.heap.size ≤ q := HLD.out
              have hz3 := HCW3.out.size
              have hcw7 : Ch [] w wr := HCW6.out.trans hc (fun q hq => .inr (by have := hld q hq; omega))
              have hro7 := HRO6.out.ch hc (fun k hk hk2 => by have := HOW.out k (.inl hk); have := hld k hk2; omega)
              have hrl7 := HRL6.out.ch hc (fun k hk hk2 => by have := HOW.out k (.inr hk); have := hld k hk2; omega)
              have hkd : k = k0 := by omega
              have HCW7 := Lib.hid hcw7; clear hcw7 hc hbb
              have HRO7 := Lib.hid hro7; clear hro7
              have HRL7 := Lib.hid hrl7; clear hrl7
              clear HRO6 HRL6 HRD6 HCW6
              have HRf := Refs23_is (w := wr) l.length lc rfl (HS.out.ch HCW7.out (by simp)) (by omega)
              go_wp2_with fail
              refine HRf.mono ?_
              rintro e W8 ⟨vo, rfl, hrp, hlp, hc8⟩
              obtain ⟨pa, pc, rfl⟩ := row.shape hrp
              have HE := Eqref_is (w := W8) oc pc (xs := l) (ys := l) (Sl.of_ints (HRO7.out.ch hc8 (by simp)) (by omega)) (Sl.of_ints hrp (by omega))
              simp only [decide_true] at HE
              clear HRf hrp hlp
              have HC8 := Lib.hid hc8; clear hc8
              go_wp2_with fail
              refine HE.mono ?_
              rintro e W9 ⟨rfl, hc9⟩
              have hc79 := HC8.out.trans hc9 (by simp)
              have HE2 := Eqbool_is (w := W9) tc vc (xs := vs) (ys := vs) (row.sv (HRL7.out.ch hc79 (by simp)) rfl (by omega)) (HV.out.ch (HCW7.out.trans hc79 (by simp)) (by simp))
              simp only [decide_true] at HE2
              have HC79 := Lib.hid hc79; clear hc79 hc9 HE
              go_wp2_with fail
              refine HE2.mono ?_
              rintro e W10 ⟨rfl, hc10⟩
              have HCF := Lib.hid ((HCW7.out.trans HC79.out (by simp)).trans hc10 (by simp))
              clear HE2 hc10
              go_wp2_with fail
              go_ret
              exact ⟨rfl, HCF.out⟩
        | succ j =>
          have ej : (((j + 1 : Nat) : Int) - 1) = (j : Int) := by omega
          rw [ej]
          have hd2 : decide ((0 : Int) ≤ j) = true := decide_eq_true (by omega)
          obtain ⟨b, hb⟩ : ∃ b, vs[j]? = some b := ⟨_, List.getElem?_eq_getElem (by omega)⟩
          obtain ⟨xb, xo, rfl, hcl⟩ := HV.out.cells j (.bool b) (by simp [hb])
          have c0 := (HCW6.out.cell (cell_lt hcl) (by simp)).trans hcl
          have hs := bitsVal_drop hb
          have hlt := bitsVal_drop_lt (l := vs) (by have := HV3.out; omega) (j + 1)
          generalize hX : bitsVal (vs.drop (j + 1)) = X at *
          have HSS := Lib.hid hs; clear hs hX hb hcl ej
          cases b
          · go_wp2_with fail
            go_roundw
            case rel => exact ⟨j, by omega, by go_num, trivial, by first | (rw [HSS.out]; done) | (rw [HSS.out]; go_num)⟩
            case measure => simp [intOf] <;> omega
          · go_wp2_with fail
            go_roundw
            case rel => exact ⟨j, by omega, by go_num, trivial, by first | (rw [HSS.out]; done) | (rw [HSS.out]; go_num)⟩
            case measure => simp [intOf] <;> omega
set_option maxRecDepth 100000 in
set_option maxHeartbeats 8000000 in
theorem words23_ttF2 {x : Nat} (hx : x < 4294967296) {k0 : Nat} (hk0 : k0 ≤ 17) (hk1 : 1 ≤ k0) {la va : Option Addr} {l : List Int} {vs : List Bool} (lc vc : Nat) (hS : Sl w la l) (hV : Sb w va vs) (hl : l.length ≤ 30) (hm : vs.length ≤ 30) (hbd : ∀ r ∈ l, -9223372036854775808 ≤ r ∧ r ≤ 9223372036854775807) (hq1 : 1 ≤ l.length) (hq2 : l.length ≤ 17) (hv : 17 ≤ l.length) :
    Calls Try.prog 12 #[.int .u32 x, .int .i64 k0, .slice la l.length lc, .slice va vs.length vc] w fun e w' => e = .returned (.bool true) ∧ Ch [] w w' := by
  have hr : rightW (k0 : Int) = true := by unfold rightW; simp; omega
  have hq : rightW (l.length : Int) = true := by unfold rightW; simp; omega
  have HRf := Refs23_is (w := w) l.length lc rfl hS (by omega)
  have HS := Lib.hid hS; clear hS
  have HV := Lib.hid hV; clear hV
  have HBD := Lib.hid hbd; clear hbd
  go_enter Try.func12, Try.ntmps12
  go_wp2_with fail
  refine HRf.mono ?_
  rintro e w1 ⟨vo, rfl, hro, hlo, hc1⟩
  obtain ⟨oa, oc, rfl⟩ := row.shape hro
  have HCB := Clbool_is (w := w1) vs.length vc rfl (HV.out.ch hc1 (by simp)) (by omega)
  go_wp2_with fail
  refine HCB.mono ?_
  rintro e w2 ⟨vl, rfl, hrl, hll, hc2⟩
  obtain ⟨ta, tc, rfl⟩ := row.shape hrl
  have HCo := sConst_is (w := w2) x hx k0
  rw [hr] at HCo
  simp only [if_true, Bool.false_eq_true, if_false, Int.toNat_natCast] at HCo
  go_wp2_with fail
  refine HCo.mono ?_
  rintro e w3 ⟨vcc, rfl, hnc⟩
  obtain ⟨ca, cc, rfl, hrc, hlc, hc3⟩ := hnc.parts (n := k0) (by simp [refsCells, constL])
  have hro3 := (hro.ch hc2 (by simp)).ch hc3 (by simp)
  have hwv : WVok w3 ⟨oa, l, oc⟩ := ⟨Sl.of_ints hro3 (by omega), HBD.out, by simp only; omega⟩
  have hcap : l.length ≤ oc := rowCap hro3
  have HCa := sCast_is hwv hcap k0
  simp only [hr, hq, WV.val, Bool.and_self, Bool.false_and, Bool.and_false, if_true, Bool.false_eq_true, if_false, Int.toNat_natCast] at HCa
  go_wp2_with fail
  refine HCa.mono ?_
  rintro e w4 ⟨vd, rfl, hnd⟩
  obtain ⟨da, dc, rfl, hrd, hld, hc4⟩ := hnd.parts (n := k0) (by simp [intCells, castL]; omega)
  have hrl4 := (hrl.ch hc3 (by simp)).ch hc4 (by simp)
  have HVa := sValue_is (w := w4) (x := ⟨oa, l, oc⟩) (by simp only; omega) (a := ta) (l := vs) tc (by omega) (row.sv hrl4 rfl (by omega))
  simp only [WV.val] at HVa
  rw [if_neg (by omega), if_neg (by omega)] at HVa
  go_wp2_with fail
  refine HVa.mono ?_
  rintro e w5 ⟨rfl, rfl⟩
  have HRi := r23Right_is (w := w4) k0
  rw [hr] at HRi
  go_wp2_with fail
  refine HRi.mono ?_
  rintro e w5 ⟨rfl, rfl⟩
  have HRj := r23Right_is (w := w4) l.length
  rw [hq] at HRj
  go_wp2_with fail
  refine HRj.mono ?_
  rintro e w5 ⟨rfl, rfl⟩
  have hro4 := hro3.ch hc4 (by simp)
  have hrc4 := hrc.ch hc4 (by simp)
  have hcw4 := ((hc1.trans hc2 (by simp)).trans hc3 (by simp)).trans hc4 (by simp)
  have hcw3 := (hc1.trans hc2 (by simp)).trans hc3 (by simp)
  have hown : ∀ k, (Value.slice oa l.length oc).ownBlock = some k ∨ (Value.slice ta vs.length tc).ownBlock = some k → k < w3.heap.size := fun k hk => by
    rcases hk with hk | hk
    · exact (hro3.lt k hk).2
    · exact ((hrl.ch hc3 (by simp)).lt k hk).2
  have HRO := Lib.hid hro4; clear hro hro3 hro4
  have HRL := Lib.hid hrl4; clear hrl hrl4
  have HRC := Lib.hid hrc4; clear hrc hrc4
  have HRD := Lib.hid hrd; clear hrd
  have HLD := Lib.hid hld; clear hld
  have HCW := Lib.hid hcw4; clear hcw4
  have HCW3 := Lib.hid hcw3; clear hcw3
  have HOW := Lib.hid hown
  clear hown HRf HCB HCo HCa HVa HRi hnc hnd hc1 hc2 hc3 hc4 hlo hll hlc hwv
  go_wp2_with fail
  go_loopw [89] (fun i wr => ∃ k : Nat, k ≤ 3 ∧ i = .int .i64 k ∧ wr = w4.alloc (.cells #[.int .i64 0, .int .i64 0, .int .i64 230] 37)) (fun i _ => 3 - (intOf i).toNat)
  case atStart => exact ⟨0, by omega, rfl, rfl⟩
  case round =>
    obtain ⟨k, hk, rfl, rfl⟩ := hrel
    by_cases hlt : k < 3
    · obtain ⟨ev, hev, hcell⟩ : ∃ ev : Int, (ev = 0 ∨ ev = 230) ∧ (w4.alloc (.cells #[.int .i64 0, .int .i64 0, .int .i64 230] 37)).cell? ⟨w4.heap.size, k, none⟩ = some (.int .i64 ev) := by
        have hb : blk (w4.alloc (.cells #[.int .i64 0, .int .i64 0, .int .i64 230] 37)) w4.heap.size [.int .i64 0, .int .i64 0, .int .i64 230] := blk.new' _ _ rfl
        rcases (show k = 0 ∨ k = 1 ∨ k = 2 by omega) with rfl | rfl | rfl <;> exact ⟨_, by simp, hb.cell rfl⟩
      rcases hev with rfl | rfl
      · go_wp2_with fail
        go_roundw
        case rel => exact ⟨k + 1, by omega, by go_num, trivial⟩
        case measure => simp [intOf]; omega
      · go_wp2_with fail
        go_roundw
        case rel => exact ⟨k + 1, by omega, by go_num, trivial⟩
        case measure => simp [intOf]; omega
    · obtain ⟨W5, hW5⟩ : ∃ W5, W5 = w4.alloc (.cells #[.int .i64 0, .int .i64 0, .int .i64 230] 37) := ⟨_, rfl⟩
      rw [← hW5]
      have hc5 := alw_ch hW5
      clear hW5
      have HRO5 := Lib.hid (HRO.out.ch hc5 (by simp))
      have HRL5 := Lib.hid (HRL.out.ch hc5 (by simp))
      have HRC5 := Lib.hid (HRC.out.ch hc5 (by simp))
      have HRD5 := Lib.hid (HRD.out.ch hc5 (by simp))
      have HCW5 := Lib.hid (HCW.out.trans hc5 (by simp))
      have HZ5 := Lib.hid hc5.size
      clear HRO HRL HRC HRD hc5
      have HI := Ints23_is (w := W5) (a := ca) (l := natInts (constL x k0)) k0 cc (by simp [natInts, constL]) (by have := HRC5.out; rw [refs_natInts] at this; exact Sl.of_ints this (by omega)) (by omega)
      go_wp2_with fail
      refine HI.mono ?_
      rintro e w6 ⟨vi, rfl, hri, hli, hc6⟩
      obtain ⟨ia, ic, rfl⟩ := row.shape hri
      have HQ := r23Const_is (w := w6) x hx k0 hk0
      clear HI
      go_wp2_with fail
      refine HQ.mono ?_
      rintro e w7 ⟨vq, rfl, hrq, hlq, hc7⟩
      obtain ⟨qa, qc, rfl⟩ := row.shape hrq
      clear HQ
      have HE := Eqint_is (w := w7) ic qc (xs := natInts (constL x k0)) (ys := natInts (rConstN x k0)) (Sl.of_ints (hri.ch hc7 (by simp)) (by omega)) (by rw [refs_natInts] at hrq; exact Sl.of_ints hrq (by omega))
      simp only [natInts_len, rConstN_eq, decide_true, show (constL x k0).length = k0 from by simp [constL]] at HE
      clear hri hli hrq hlq
      go_wp2_with fail
      refine HE.mono ?_
      rintro e w8 ⟨rfl, hc8⟩
      clear HE
      have hc58 := (hc6.trans hc7 (by simp)).trans hc8 (by simp)
      have HI := Ints23_is (w := w8) (a := da) (l := castL l k0) k0 dc (by simp [castL]; omega) (Sl.of_ints (HRD5.out.ch hc58 (by simp)) (by omega)) (by omega)
      have HC58 := Lib.hid hc58; clear hc58 hc6 hc7 hc8
      go_wp2_with fail
      refine HI.mono ?_
      rintro e w9 ⟨vi, rfl, hri, hli, hc9⟩
      obtain ⟨ja, jc, rfl⟩ := row.shape hri
      have HQ := r23Cast_is (w := w9) (a := la) l.length lc rfl (HS.out.ch ((HCW5.out.trans HC58.out (by simp)).trans hc9 (by simp)) (by simp)) k0 hk0 (by omega)
      clear HI
      go_wp2_with fail
      refine HQ.mono ?_
      rintro e w10 ⟨vq, rfl, hrq, hlq, hc10⟩
      obtain ⟨ra, rc, rfl⟩ := row.shape hrq
      clear HQ
      have HE := Eqint_is (w := w10) jc rc (xs := castL l k0) (ys := rCastL l k0) (Sl.of_ints (hri.ch hc10 (by simp)) (by omega)) (Sl.of_ints hrq (by omega))
      simp only [castL_eq, decide_true, show (rCastL l k0).length = k0 from by simp [rCastL]] at HE
      clear hri hli hrq hlq
      go_wp2_with fail
      refine HE.mono ?_
      rintro e w11 ⟨rfl, hc11⟩
      clear HE
      have HC := Lib.hid (((HC58.out.trans hc9 (by simp)).trans hc10 (by simp)).trans hc11 (by simp))
      clear hc9 hc10 hc11 HC58
      have HRO6 := Lib.hid (HRO5.out.ch HC.out (by simp))
      have HRL6 := Lib.hid (HRL5.out.ch HC.out (by simp))
      have HRD6 := Lib.hid (HRD5.out.ch HC.out (by simp))
      have HCW6 := Lib.hid (HCW5.out.trans HC.out (by simp))
      clear HRO5 HRL5 HRC5 HRD5
      obtain ⟨W6, hW6⟩ : ∃ W6, W6 = w11 := ⟨_, rfl⟩
      rw [← hW6] at HRO6 HRL6 HRD6 HCW6 HC
      try rw [← hW6]
      clear hW6
      go_wp2_with fail
      go_loopw [21, 22] (fun x i wr => i = .int .i64 ((vs.length : Int) - 1) ∧ W6 = wr ∧ x = .int .u32 0) (fun _ i _ => 0)
      case atStart => exact ⟨rfl, rfl, rfl⟩
      case round =>
        obtain ⟨rfl, rfl, rfl⟩ := hrel
        by_cases h0 : vs.length < 1
        · have hd0 : decide ((0 : Int) ≤ (vs.length : Int) - 1) = false := decide_eq_false (by omega)
          go_wp2_with fail
          go_loopw [162] (fun i wr => ∃ k : Nat, k ≤ k0 ∧ i = .int .i64 k ∧ Ch (Value.slice da k0 dc).ownBlock.toList W6 wr ∧ ∀ j, j < k0 → ∃ (b : Nat) (ys : List Value), da = some ⟨b, 0, none⟩ ∧ blk wr b ys ∧ k0 ≤ ys.length) (fun i _ => k0 - (intOf i).toNat)
          case atStart => exact ⟨0, by omega, rfl, Ch.refl _ _, rowBlk HRD6.out⟩
          case round =>
            obtain ⟨k, hk, rfl, hc, hbb⟩ := hrel
            by_cases hlt : k < k0
            · obtain ⟨b, ys, rfl, hb, hyl⟩ := hbb k hlt
              have hold := hb.cell (List.getElem?_eq_getElem (show k < ys.length by omega))
              have hfz := hb.frozen (i := k)
              have hb2 := hb.set (i := k) (.int .i64 (-5))
              have HB2 := Lib.hid hb2; clear hb2 hbb hb
              have HC9 := Lib.hid hc; clear hc
              generalize ys[k] = old at *
              go_wp2_with fail
              go_roundw
              case rel => exact ⟨k + 1, by omega, by go_num, HC9.out.setCell (by simp) _, fun _ _ => ⟨b, _, rfl, HB2.out, by simpa using hyl⟩⟩
              case measure => simp [intOf]; omega
            · have hld : ∀ q ∈ (Value.slice da k0 dc).ownBlock.toList, w3.heap.size ≤ q := HLD.out
              have hz3 := HCW3.out.size
              have hcw7 : Ch [] w wr := HCW6.out.trans hc (fun q hq => .inr (by have := hld q hq; omega))
              have hro7 := HRO6.out.ch hc (fun k hk hk2 => by have := HOW.out k (.inl hk); have := hld k hk2; omega)
              have hrl7 := HRL6.out.ch hc (fun k hk hk2 => by have := HOW.out k (.inr hk); have := hld k hk2; omega)
              have hkd : k = k0 := by omega
              have HCW7 := Lib.hid hcw7; clear hcw7 hc hbb
              have HRO7 := Lib.hid hro7; clear hro7
              have HRL7 := Lib.hid hrl7; clear hrl7
              clear HRO6 HRL6 HRD6 HCW6
              have HRf := Refs23_is (w := wr) l.length lc rfl (HS.out.ch HCW7.out (by simp)) (by omega)
              go_wp2_with fail
              refine HRf.mono ?_
              rintro e W8 ⟨vo, rfl, hrp, hlp, hc8⟩
              obtain ⟨pa, pc, rfl⟩ := row.shape hrp
              have HE := Eqref_is (w := W8) oc pc (xs := l) (ys := l) (Sl.of_ints (HRO7.out.ch hc8 (by simp)) (by omega)) (Sl.of_ints hrp (by omega))
              simp only [decide_true] at HE
              clear HRf hrp hlp
              have HC8 := Lib.hid hc8; clear hc8
              go_wp2_with fail
              refine HE.mono ?_
              rintro e W9 ⟨rfl, hc9⟩
              have hc79 := HC8.out.trans hc9 (by simp)
              have HE2 := Eqbool_is (w := W9) tc vc (xs := vs) (ys := vs) (row.sv (HRL7.out.ch hc79 (by simp)) rfl (by omega)) (HV.out.ch (HCW7.out.trans hc79 (by simp)) (by simp))
              simp only [decide_true] at HE2
              have HC79 := Lib.hid hc79; clear hc79 hc9 HE
              go_wp2_with fail
              refine HE2.mono ?_
              rintro e W10 ⟨rfl, hc10⟩
              have HCF := Lib.hid ((HCW7.out.trans HC79.out (by simp)).trans hc10 (by simp))
              clear HE2 hc10
              go_wp2_with fail
              go_ret
              exact ⟨rfl, HCF.out⟩
        · have hd0 : decide ((0 : Int) ≤ (vs.length : Int) - 1) = true := decide_eq_true (by omega)
          have h1 : 1 ≤ vs.length := by omega
          clear h0
          go_wp2_with fail
          go_loopw [162] (fun i wr => ∃ k : Nat, k ≤ k0 ∧ i = .int .i64 k ∧ Ch (Value.slice da k0 dc).ownBlock.toList W6 wr ∧ ∀ j, j < k0 → ∃ (b : Nat) (ys : List Value), da = some ⟨b, 0, none⟩ ∧ blk wr b ys ∧ k0 ≤ ys.length) (fun i _ => k0 - (intOf i).toNat)
          case atStart => exact ⟨0, by omega, rfl, Ch.refl _ _, rowBlk HRD6.out⟩
          case round =>
            obtain ⟨k, hk, rfl, hc, hbb⟩ := hrel
            by_cases hlt : k < k0
            · obtain ⟨b, ys, rfl, hb, hyl⟩ := hbb k hlt
              have hold := hb.cell (List.getElem?_eq_getElem (show k < ys.length by omega))
              have hfz := hb.frozen (i := k)
              have hb2 := hb.set (i := k) (.int .i64 (-5))
              have HB2 := Lib.hid hb2; clear hb2 hbb hb
              have HC9 := Lib.hid hc; clear hc
              generalize ys[k] = old at *
              go_wp2_with fail
              go_roundw
              case rel => exact ⟨k + 1, by omega, by go_num, HC9.out.setCell (by simp) _, fun _ _ => ⟨b, _, rfl, HB2.out, by simpa using hyl⟩⟩
              case measure => simp [intOf]; omega
            · have hld : ∀ q ∈ (Value.slice da k0 dc).ownBlock.toList, w3.heap.size ≤ q := HLD.out
              have hz3 := HCW3.out.size
              have hcw7 : Ch [] w wr := HCW6.out.trans hc (fun q hq => .inr (by have := hld q hq; omega))
              have hro7 := HRO6.out.ch hc (fun k hk hk2 => by have := HOW.out k (.inl hk); have := hld k hk2; omega)
              have hrl7 := HRL6.out.ch hc (fun k hk hk2 => by have := HOW.out k (.inr hk); have := hld k hk2; omega)
              have hkd : k = k0 := by omega
              have HCW7 := Lib.hid hcw7; clear hcw7 hc hbb
              have HRO7 := Lib.hid hro7; clear hro7
              have HRL7 := Lib.hid hrl7; clear hrl7
              clear HRO6 HRL6 HRD6 HCW6
              have HRf := Refs23_is (w := wr) l.length lc rfl (HS.out.ch HCW7.out (by simp)) (by omega)
              go_wp2_with fail
              refine HRf.mono ?_
              rintro e W8 ⟨vo, rfl, hrp, hlp, hc8⟩
              obtain ⟨pa, pc, rfl⟩ := row.shape hrp
              have HE := Eqref_is (w := W8) oc pc (xs := l) (ys := l) (Sl.of_ints (HRO7.out.ch hc8 (by simp)) (by omega)) (Sl.of_ints hrp (by omega))
              simp only [decide_true] at HE
              clear HRf hrp hlp
              have HC8 := Lib.hid hc8; clear hc8
              go_wp2_with fail
              refine HE.mono ?_
              rintro e W9 ⟨rfl, hc9⟩
              have hc79 := HC8.out.trans hc9 (by simp)
              have HE2 := Eqbool_is (w := W9) tc vc (xs := vs) (ys := vs) (row.sv (HRL7.out.ch hc79 (by simp)) rfl (by omega)) (HV.out.ch (HCW7.out.trans hc79 (by simp)) (by simp))
              simp only [decide_true] at HE2
              have HC79 := Lib.hid hc79; clear hc79 hc9 HE
              go_wp2_with fail
              refine HE2.mono ?_
              rintro e W10 ⟨rfl, hc10⟩
              have HCF := Lib.hid ((HCW7.out.trans HC79.out (by simp)).trans hc10 (by simp))
              clear HE2 hc10
              go_wp2_with fail
              go_ret
              exact ⟨rfl, HCF.out⟩
set_option maxRecDepth 100000 in
set_option maxHeartbeats 8000000 in
theorem words23_ttF3 {x : Nat} (hx : x < 4294967296) {k0 : Nat} (hk0 : k0 ≤ 17) (hk1 : 1 ≤ k0) {la va : Option Addr} {l : List Int} {vs : List Bool} (lc vc : Nat) (hS : Sl w la l) (hV : Sb w va vs) (hl : l.length ≤ 30) (hm : vs.length ≤ 30) (hbd : ∀ r ∈ l, -9223372036854775808 ≤ r ∧ r ≤ 9223372036854775807) (hq1 : 1 ≤ l.length) (hq2 : l.length ≤ 17) (hv1 : 1 ≤ l.length) (hv2 : l.length ≤ 16) (hv : vs.length ≠ l.length) :
    Calls Try.prog 12 #[.int .u32 x, .int .i64 k0, .slice la l.length lc, .slice va vs.length vc] w fun e w' => e = .returned (.bool true) ∧ Ch [] w w' := by
  have hr : rightW (k0 : Int) = true := by unfold rightW; simp; omega
  have hq : rightW (l.length : Int) = true := by unfold rightW; simp; omega
  have HRf := Refs23_is (w := w) l.length lc rfl hS (by omega)
  have HS := Lib.hid hS; clear hS
  have HV := Lib.hid hV; clear hV
  have HBD := Lib.hid hbd; clear hbd
  have hbq : ((vs.length : Int) == (l.length : Int)) = false := beqN (by omega)
  go_enter Try.func12, Try.ntmps12
  go_wp2_with fail
  refine HRf.mono ?_
  rintro e w1 ⟨vo, rfl, hro, hlo, hc1⟩
  obtain ⟨oa, oc, rfl⟩ := row.shape hro
  have HCB := Clbool_is (w := w1) vs.length vc rfl (HV.out.ch hc1 (by simp)) (by omega)
  go_wp2_with fail
  refine HCB.mono ?_
  rintro e w2 ⟨vl, rfl, hrl, hll, hc2⟩
  obtain ⟨ta, tc, rfl⟩ := row.shape hrl
  have HCo := sConst_is (w := w2) x hx k0
  rw [hr] at HCo
  simp only [if_true, Bool.false_eq_true, if_false, Int.toNat_natCast] at HCo
  go_wp2_with fail
  refine HCo.mono ?_
  rintro e w3 ⟨vcc, rfl, hnc⟩
  obtain ⟨ca, cc, rfl, hrc, hlc, hc3⟩ := hnc.parts (n := k0) (by simp [refsCells, constL])
  have hro3 := (hro.ch hc2 (by simp)).ch hc3 (by simp)
  have hwv : WVok w3 ⟨oa, l, oc⟩ := ⟨Sl.of_ints hro3 (by omega), HBD.out, by simp only; omega⟩
  have hcap : l.length ≤ oc := rowCap hro3
  have HCa := sCast_is hwv hcap k0
  simp only [hr, hq, WV.val, Bool.and_self, Bool.false_and, Bool.and_false, if_true, Bool.false_eq_true, if_false, Int.toNat_natCast] at HCa
  go_wp2_with fail
  refine HCa.mono ?_
  rintro e w4 ⟨vd, rfl, hnd⟩
  obtain ⟨da, dc, rfl, hrd, hld, hc4⟩ := hnd.parts (n := k0) (by simp [intCells, castL]; omega)
  have hrl4 := (hrl.ch hc3 (by simp)).ch hc4 (by simp)
  have HVa := sValue_is (w := w4) (x := ⟨oa, l, oc⟩) (by simp only; omega) (a := ta) (l := vs) tc (by omega) (row.sv hrl4 rfl (by omega))
  simp only [WV.val] at HVa
  rw [if_neg (by omega), if_neg (by omega)] at HVa
  go_wp2_with fail
  refine HVa.mono ?_
  rintro e w5 ⟨rfl, rfl⟩
  have HRi := r23Right_is (w := w4) k0
  rw [hr] at HRi
  go_wp2_with fail
  refine HRi.mono ?_
  rintro e w5 ⟨rfl, rfl⟩
  have HRj := r23Right_is (w := w4) l.length
  rw [hq] at HRj
  go_wp2_with fail
  refine HRj.mono ?_
  rintro e w5 ⟨rfl, rfl⟩
  have hro4 := hro3.ch hc4 (by simp)
  have hrc4 := hrc.ch hc4 (by simp)
  have hcw4 := ((hc1.trans hc2 (by simp)).trans hc3 (by simp)).trans hc4 (by simp)
  have hcw3 := (hc1.trans hc2 (by simp)).trans hc3 (by simp)
  have hown : ∀ k, (Value.slice oa l.length oc).ownBlock = some k ∨ (Value.slice ta vs.length tc).ownBlock = some k → k < w3.heap.size := fun k hk => by
    rcases hk with hk | hk
    · exact (hro3.lt k hk).2
    · exact ((hrl.ch hc3 (by simp)).lt k hk).2
  have HRO := Lib.hid hro4; clear hro hro3 hro4
  have HRL := Lib.hid hrl4; clear hrl hrl4
  have HRC := Lib.hid hrc4; clear hrc hrc4
  have HRD := Lib.hid hrd; clear hrd
  have HLD := Lib.hid hld; clear hld
  have HCW := Lib.hid hcw4; clear hcw4
  have HCW3 := Lib.hid hcw3; clear hcw3
  have HOW := Lib.hid hown
  clear hown HRf HCB HCo HCa HVa HRi hnc hnd hc1 hc2 hc3 hc4 hlo hll hlc hwv
  go_wp2_with fail
  go_loopw [89] (fun i wr => ∃ k : Nat, k ≤ 3 ∧ i = .int .i64 k ∧ wr = w4.alloc (.cells #[.int .i64 0, .int .i64 0, .int .i64 230] 37)) (fun i _ => 3 - (intOf i).toNat)
  case atStart => exact ⟨0, by omega, rfl, rfl⟩
  case round =>
    obtain ⟨k, hk, rfl, rfl⟩ := hrel
    by_cases hlt : k < 3
    · obtain ⟨ev, hev, hcell⟩ : ∃ ev : Int, (ev = 0 ∨ ev = 230) ∧ (w4.alloc (.cells #[.int .i64 0, .int .i64 0, .int .i64 230] 37)).cell? ⟨w4.heap.size, k, none⟩ = some (.int .i64 ev) := by
        have hb : blk (w4.alloc (.cells #[.int .i64 0, .int .i64 0, .int .i64 230] 37)) w4.heap.size [.int .i64 0, .int .i64 0, .int .i64 230] := blk.new' _ _ rfl
        rcases (show k = 0 ∨ k = 1 ∨ k = 2 by omega) with rfl | rfl | rfl <;> exact ⟨_, by simp, hb.cell rfl⟩
      rcases hev with rfl | rfl
      · go_wp2_with fail
        go_roundw
        case rel => exact ⟨k + 1, by omega, by go_num, trivial⟩
        case measure => simp [intOf]; omega
      · go_wp2_with fail
        go_roundw
        case rel => exact ⟨k + 1, by omega, by go_num, trivial⟩
        case measure => simp [intOf]; omega
    · obtain ⟨W5, hW5⟩ : ∃ W5, W5 = w4.alloc (.cells #[.int .i64 0, .int .i64 0, .int .i64 230] 37) := ⟨_, rfl⟩
      rw [← hW5]
      have hc5 := alw_ch hW5
      clear hW5
      have HRO5 := Lib.hid (HRO.out.ch hc5 (by simp))
      have HRL5 := Lib.hid (HRL.out.ch hc5 (by simp))
      have HRC5 := Lib.hid (HRC.out.ch hc5 (by simp))
      have HRD5 := Lib.hid (HRD.out.ch hc5 (by simp))
      have HCW5 := Lib.hid (HCW.out.trans hc5 (by simp))
      have HZ5 := Lib.hid hc5.size
      clear HRO HRL HRC HRD hc5
      have HI := Ints23_is (w := W5) (a := ca) (l := natInts (constL x k0)) k0 cc (by simp [natInts, constL]) (by have := HRC5.out; rw [refs_natInts] at this; exact Sl.of_ints this (by omega)) (by omega)
      go_wp2_with fail
      refine HI.mono ?_
      rintro e w6 ⟨vi, rfl, hri, hli, hc6⟩
      obtain ⟨ia, ic, rfl⟩ := row.shape hri
      have HQ := r23Const_is (w := w6) x hx k0 hk0
      clear HI
      go_wp2_with fail
      refine HQ.mono ?_
      rintro e w7 ⟨vq, rfl, hrq, hlq, hc7⟩
      obtain ⟨qa, qc, rfl⟩ := row.shape hrq
      clear HQ
      have HE := Eqint_is (w := w7) ic qc (xs := natInts (constL x k0)) (ys := natInts (rConstN x k0)) (Sl.of_ints (hri.ch hc7 (by simp)) (by omega)) (by rw [refs_natInts] at hrq; exact Sl.of_ints hrq (by omega))
      simp only [natInts_len, rConstN_eq, decide_true, show (constL x k0).length = k0 from by simp [constL]] at HE
      clear hri hli hrq hlq
      go_wp2_with fail
      refine HE.mono ?_
      rintro e w8 ⟨rfl, hc8⟩
      clear HE
      have hc58 := (hc6.trans hc7 (by simp)).trans hc8 (by simp)
      have HI := Ints23_is (w := w8) (a := da) (l := castL l k0) k0 dc (by simp [castL]; omega) (Sl.of_ints (HRD5.out.ch hc58 (by simp)) (by omega)) (by omega)
      have HC58 := Lib.hid hc58; clear hc58 hc6 hc7 hc8
      go_wp2_with fail
      refine HI.mono ?_
      rintro e w9 ⟨vi, rfl, hri, hli, hc9⟩
      obtain ⟨ja, jc, rfl⟩ := row.shape hri
      have HQ := r23Cast_is (w := w9) (a := la) l.length lc rfl (HS.out.ch ((HCW5.out.trans HC58.out (by simp)).trans hc9 (by simp)) (by simp)) k0 hk0 (by omega)
      clear HI
      go_wp2_with fail
      refine HQ.mono ?_
      rintro e w10 ⟨vq, rfl, hrq, hlq, hc10⟩
      obtain ⟨ra, rc, rfl⟩ := row.shape hrq
      clear HQ
      have HE := Eqint_is (w := w10) jc rc (xs := castL l k0) (ys := rCastL l k0) (Sl.of_ints (hri.ch hc10 (by simp)) (by omega)) (Sl.of_ints hrq (by omega))
      simp only [castL_eq, decide_true, show (rCastL l k0).length = k0 from by simp [rCastL]] at HE
      clear hri hli hrq hlq
      go_wp2_with fail
      refine HE.mono ?_
      rintro e w11 ⟨rfl, hc11⟩
      clear HE
      have HC := Lib.hid (((HC58.out.trans hc9 (by simp)).trans hc10 (by simp)).trans hc11 (by simp))
      clear hc9 hc10 hc11 HC58
      have HRO6 := Lib.hid (HRO5.out.ch HC.out (by simp))
      have HRL6 := Lib.hid (HRL5.out.ch HC.out (by simp))
      have HRD6 := Lib.hid (HRD5.out.ch HC.out (by simp))
      have HCW6 := Lib.hid (HCW5.out.trans HC.out (by simp))
      clear HRO5 HRL5 HRC5 HRD5
      obtain ⟨W6, hW6⟩ : ∃ W6, W6 = w11 := ⟨_, rfl⟩
      rw [← hW6] at HRO6 HRL6 HRD6 HCW6 HC
      try rw [← hW6]
      clear hW6
      go_wp2_with fail
      go_loopw [21, 22] (fun x i wr => i = .int .i64 ((vs.length : Int) - 1) ∧ W6 = wr ∧ x = .int .u32 0) (fun _ i _ => 0)
      case atStart => exact ⟨rfl, rfl, rfl⟩
      case round =>
        obtain ⟨rfl, rfl, rfl⟩ := hrel
        by_cases h0 : vs.length < 1
        · have hd0 : decide ((0 : Int) ≤ (vs.length : Int) - 1) = false := decide_eq_false (by omega)
          go_wp2_with fail
          go_loopw [162] (fun i wr => ∃ k : Nat, k ≤ k0 ∧ i = .int .i64 k ∧ Ch (Value.slice da k0 dc).ownBlock.toList W6 wr ∧ ∀ j, j < k0 → ∃ (b : Nat) (ys : List Value), da = some ⟨b, 0, none⟩ ∧ blk wr b ys ∧ k0 ≤ ys.length) (fun i _ => k0 - (intOf i).toNat)
          case atStart => exact ⟨0, by omega, rfl, Ch.refl _ _, rowBlk HRD6.out⟩
          case round =>
            obtain ⟨k, hk, rfl, hc, hbb⟩ := hrel
            by_cases hlt : k < k0
            · obtain ⟨b, ys, rfl, hb, hyl⟩ := hbb k hlt
              have hold := hb.cell (List.getElem?_eq_getElem (show k < ys.length by omega))
              have hfz := hb.frozen (i := k)
              have hb2 := hb.set (i := k) (.int .i64 (-5))
              have HB2 := Lib.hid hb2; clear hb2 hbb hb
              have HC9 := Lib.hid hc; clear hc
              generalize ys[k] = old at *
              go_wp2_with fail
              go_roundw
              case rel => exact ⟨k + 1, by omega, by go_num, HC9.out.setCell (by simp) _, fun _ _ => ⟨b, _, rfl, HB2.out, by simpa using hyl⟩⟩
              case measure => simp [intOf]; omega
            · have hld : ∀ q ∈ (Value.slice da k0 dc).ownBlock.toList, w3.heap.size ≤ q := HLD.out
              have hz3 := HCW3.out.size
              have hcw7 : Ch [] w wr := HCW6.out.trans hc (fun q hq => .inr (by have := hld q hq; omega))
              have hro7 := HRO6.out.ch hc (fun k hk hk2 => by have := HOW.out k (.inl hk); have := hld k hk2; omega)
              have hrl7 := HRL6.out.ch hc (fun k hk hk2 => by have := HOW.out k (.inr hk); have := hld k hk2; omega)
              have hkd : k = k0 := by omega
              have HCW7 := Lib.hid hcw7; clear hcw7 hc hbb
              have HRO7 := Lib.hid hro7; clear hro7
              have HRL7 := Lib.hid hrl7; clear hrl7
              clear HRO6 HRL6 HRD6 HCW6
              have HRf := Refs23_is (w := wr) l.length lc rfl (HS.out.ch HCW7.out (by simp)) (by omega)
              go_wp2_with fail
              refine HRf.mono ?_
              rintro e W8 ⟨vo, rfl, hrp, hlp, hc8⟩
              obtain ⟨pa, pc, rfl⟩ := row.shape hrp
              have HE := Eqref_is (w := W8) oc pc (xs := l) (ys := l) (Sl.of_ints (HRO7.out.ch hc8 (by simp)) (by omega)) (Sl.of_ints hrp (by omega))
              simp only [decide_true] at HE
              clear HRf hrp hlp
              have HC8 := Lib.hid hc8; clear hc8
              go_wp2_with fail
              refine HE.mono ?_
              rintro e W9 ⟨rfl, hc9⟩
              have hc79 := HC8.out.trans hc9 (by simp)
              have HE2 := Eqbool_is (w := W9) tc vc (xs := vs) (ys := vs) (row.sv (HRL7.out.ch hc79 (by simp)) rfl (by omega)) (HV.out.ch (HCW7.out.trans hc79 (by simp)) (by simp))
              simp only [decide_true] at HE2
              have HC79 := Lib.hid hc79; clear hc79 hc9 HE
              go_wp2_with fail
              refine HE2.mono ?_
              rintro e W10 ⟨rfl, hc10⟩
              have HCF := Lib.hid ((HCW7.out.trans HC79.out (by simp)).trans hc10 (by simp))
              clear HE2 hc10
              go_wp2_with fail
              go_ret
              exact ⟨rfl, HCF.out⟩
        · have hd0 : decide ((0 : Int) ≤ (vs.length : Int) - 1) = true := decide_eq_true (by omega)
          have h1 : 1 ≤ vs.length := by omega
          clear h0
          go_wp2_with fail
          go_loopw [162] (fun i wr => ∃ k : Nat, k ≤ k0 ∧ i = .int .i64 k ∧ Ch (Value.slice da k0 dc).ownBlock.toList W6 wr ∧ ∀ j, j < k0 → ∃ (b : Nat) (ys : List Value), da = some ⟨b, 0, none⟩ ∧ blk wr b ys ∧ k0 ≤ ys.length) (fun i _ => k0 - (intOf i).toNat)
          case atStart => exact ⟨0, by omega, rfl, Ch.refl _ _, rowBlk HRD6.out⟩
          case round =>
            obtain ⟨k, hk, rfl, hc, hbb⟩ := hrel
            by_cases hlt : k < k0
            · obtain ⟨b, ys, rfl, hb, hyl⟩ := hbb k hlt
              have hold := hb.cell (List.getElem?_eq_getElem (show k < ys.length by omega))
              have hfz := hb.frozen (i := k)
              have hb2 := hb.set (i := k) (.int .i64 (-5))
              have HB2 := Lib.hid hb2; clear hb2 hbb hb
              have HC9 := Lib.hid hc; clear hc
              generalize ys[k] = old at *
              go_wp2_with fail
              go_roundw
              case rel => exact ⟨k + 1, by omega, by go_num, HC9.out.setCell (by simp) _, fun _ _ => ⟨b, _, rfl, HB2.out, by simpa using hyl⟩⟩
              case measure => simp [intOf]; omega
            · have hld : ∀ q ∈ (Value.slice da k0 dc).ownBlock.toList, w3.heap.size ≤ q := HLD.out
              have hz3 := HCW3.out.size
              have hcw7 : Ch [] w wr := HCW6.out.trans hc (fun q hq => .inr (by have := hld q hq; omega))
              have hro7 := HRO6.out.ch hc (fun k hk hk2 => by have := HOW.out k (.inl hk); have := hld k hk2; omega)
              have hrl7 := HRL6.out.ch hc (fun k hk hk2 => by have := HOW.out k (.inr hk); have := hld k hk2; omega)
              have hkd : k = k0 := by omega
              have HCW7 := Lib.hid hcw7; clear hcw7 hc hbb
              have HRO7 := Lib.hid hro7; clear hro7
              have HRL7 := Lib.hid hrl7; clear hrl7
              clear HRO6 HRL6 HRD6 HCW6
              have HRf := Refs23_is (w := wr) l.length lc rfl (HS.out.ch HCW7.out (by simp)) (by omega)
              go_wp2_with fail
              refine HRf.mono ?_
              rintro e W8 ⟨vo, rfl, hrp, hlp, hc8⟩
              obtain ⟨pa, pc, rfl⟩ := row.shape hrp
              have HE := Eqref_is (w := W8) oc pc (xs := l) (ys := l) (Sl.of_ints (HRO7.out.ch hc8 (by simp)) (by omega)) (Sl.of_ints hrp (by omega))
              simp only [decide_true] at HE
              clear HRf hrp hlp
              have HC8 := Lib.hid hc8; clear hc8
              go_wp2_with fail
              refine HE.mono ?_
              rintro e W9 ⟨rfl, hc9⟩
              have hc79 := HC8.out.trans hc9 (by simp)
              have HE2 := Eqbool_is (w := W9) tc vc (xs := vs) (ys := vs) (row.sv (HRL7.out.ch hc79 (by simp)) rfl (by omega)) (HV.out.ch (HCW7.out.trans hc79 (by simp)) (by simp))
              simp only [decide_true] at HE2
              have HC79 := Lib.hid hc79; clear hc79 hc9 HE
              go_wp2_with fail
              refine HE2.mono ?_
              rintro e W10 ⟨rfl, hc10⟩
              have HCF := Lib.hid ((HCW7.out.trans HC79.out (by simp)).trans hc10 (by simp))
              clear HE2 hc10
              go_wp2_with fail
              go_ret
              exact ⟨rfl, HCF.out⟩
end
end Go.Proofs.Ytchledddgmbndaa
namespace Go.Proofs.Ytchledddgmbndaa
open Go.RowKit Go.Mem Go.Aig
section
variable {w : World}
theorem words23_is {x : Nat} (hx : x < 4294967296) (width : Int) {la va : Option Addr} {l : List Int} {vs : List Bool} (lc vc : Nat) (hS : Sl w la l) (hV : Sb w va vs) (hl : l.length ≤ 30) (hm : vs.length ≤ 30) (hbd : ∀ r ∈ l, -9223372036854775808 ≤ r ∧ r ≤ 9223372036854775807) :
    Calls Try.prog 12 #[.int .u32 x, .int .i64 width, .slice la l.length lc, .slice va vs.length vc] w fun e w' => e = .returned (.bool true) ∧ Ch [] w w' := by
  have hrw : ∀ n : Int, rightW n = true ↔ 1 ≤ n ∧ n ≤ 17 := fun n => by unfold rightW; simp
  cases hr : rightW width
  · by_cases h1 : l.length < 1
    · exact words23_ffF1 hx hr lc vc hS hV hl hm hbd h1
    · by_cases h2 : 17 ≤ l.length
      · exact words23_ffF2 hx hr lc vc hS hV hl hm hbd h2
      · by_cases h3 : vs.length = l.length
        · exact words23_ffT hx hr lc vc hS hV hl hm hbd (by omega) (by omega) h3
        · exact words23_ffF3 hx hr lc vc hS hV hl hm hbd (by omega) (by omega) h3
  · have h0 := (hrw _).1 hr
    obtain ⟨k0, rfl⟩ : ∃ k0 : Nat, width = k0 := ⟨width.toNat, by omega⟩
    by_cases h1 : l.length < 1
    · exact words23_tfF1 hx (by omega) (by omega) lc vc hS hV hl hm hbd (by unfold rightW; simp; omega) h1
    · by_cases h2 : 17 ≤ l.length
      · by_cases h4 : l.length = 17
        · exact words23_ttF2 hx (by omega) (by omega) lc vc hS hV hl hm hbd (by omega) (by omega) h2
        · exact words23_tfF2 hx (by omega) (by omega) lc vc hS hV hl hm hbd (by unfold rightW; simp; omega) h2
      · by_cases h3 : vs.length = l.length
        · exact words23_ttT hx (by omega) (by omega) lc vc hS hV hl hm hbd (by omega) (by omega) (by omega) (by omega) h3
        · exact words23_ttF3 hx (by omega) (by omega) lc vc hS hV hl hm hbd (by omega) (by omega) (by omega) (by omega) h3
set_option maxRecDepth 100000 in
set_option maxHeartbeats 2000000 in
theorem SumsWords_walk {x : Nat} (hx : x < 4294967296) (width : Int) (_ : (Lit.int .i64 width).wf = true) {la va : Option Addr} {n lc m vc : Nat} {l : List Int} {vs : List Bool} (hL : IntS w la n lc l) (hB : BoolS w va m vc vs) :
    Calls Try.prog 3 #[.int .u32 x, .int .i64 width, .slice la n lc, .slice va m vc] w fun e w' => e = .returned (.bool true) ∧ Ch [] w w' := by
  have hn := hL.len
  have hm := hB.len
  have hle := hL.le
  have hlx := hL.max
  have hbe := hB.le
  have hbx := hB.max
  subst hn hm
  have HA := fun W => awake23_is W
  by_cases h1 : l.length ≤ 30
  · by_cases h2 : vs.length ≤ 30
    · have HW := words23_is hx width lc vc hL.sl hB.sl h1 h2 hL.bd
      have d1 : decide ((30 : Int) < l.length) = false := decide_eq_false (by omega)
      have d2 : decide ((30 : Int) < vs.length) = false := decide_eq_false (by omega)
      clear hL hB
      go_enter Try.func3, Try.ntmps3
      go_wp2_with fail
      refine HW.mono ?_
      rintro e w1 ⟨rfl, hc⟩
      have HC := Lib.hid hc; clear hc
      go_wp2_with fail
      refine (HA _).mono ?_
      rintro e w2 ⟨rfl, hc2⟩
      have HC2 := Lib.hid hc2; clear hc2
      go_wp2_with fail
      go_ret
      exact ⟨rfl, HC.out.trans HC2.out (by simp)⟩
    · have d1 : decide ((30 : Int) < l.length) = false := decide_eq_false (by omega)
      have d2 : decide ((30 : Int) < vs.length) = true := decide_eq_true (by omega)
      clear hL hB
      go_enter Try.func3, Try.ntmps3
      go_wp2_with fail
      refine (HA _).mono ?_
      rintro e w2 ⟨rfl, hc2⟩
      have HC2 := Lib.hid hc2; clear hc2
      go_wp2_with fail
      go_ret
      exact ⟨rfl, HC2.out⟩
  · have d1 : decide ((30 : Int) < l.length) = true := decide_eq_true (by omega)
    clear hL hB
    go_enter Try.func3, Try.ntmps3
    go_wp2_with fail
    refine (HA _).mono ?_
    rintro e w2 ⟨rfl, hc2⟩
    have HC2 := Lib.hid hc2; clear hc2
    go_wp2_with fail
    go_ret
    exact ⟨rfl, HC2.out⟩
end
end Go.Proofs.Ytchledddgmbndaa
