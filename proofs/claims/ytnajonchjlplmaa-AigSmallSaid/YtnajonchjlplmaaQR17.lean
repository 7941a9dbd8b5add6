/-
  Walk over none: graphs that are none refuse all. Conditions: none.
-/
import Derived.Test.YtnajonchjlplmaaQR16
namespace Go.Proofs.Ytnajonchjlplmaa
open Go.RowKit Go.Mem Go.Aig
section
set_option maxRecDepth 100000 in
set_option maxHeartbeats 8000000 in
theorem none20_is (w : World) : Calls Try.prog 32 #[] w fun e w' => e = .returned (.bool true) ∧ Ch [] w w' := by
  go_enter Try.func32, Try.ntmps32
  go_wp2_with fail
  refine wp_alw ?_
  intro W0 hW0
  have hc0 : Ch [] w W0 := by rw [hW0]; exact ((Ch.refl _ _).alloc _).alloc _
  have bg : blk W0 w.heap.size [.int .i64 0, .slice none 0 0, .map none, .slice none 0 0] := by rw [hW0]; exact (blk.new' (w := w) [.int .i64 0, .slice none 0 0, .map none, .slice none 0 0] 86 rfl).alloc _
  have bs : blk W0 (w.heap.size + 1) [.pointer none, .pointer (some ⟨w.heap.size, 0, none⟩)] := by rw [hW0]; exact blk.new' [.pointer none, .pointer (some ⟨w.heap.size, 0, none⟩)] 24 (by simp)
  clear hW0
  have BS := Lib.hid bs; clear bs
  have BG := Lib.hid bg; clear bg
  have HC0 := Lib.hid hc0; clear hc0
  go_loopw [30] (fun i wr => ∃ k : Nat, k ≤ 2 ∧ i = .int .i64 k ∧ Ch [] W0 wr) (fun i _ => 2 - (intOf i).toNat)
  case atStart => exact ⟨0, by omega, rfl, Ch.refl _ _⟩
  case round =>
    obtain ⟨k, hk, rfl, hcur⟩ := hrel
    by_cases hlt : k < 2
    · obtain ⟨v, hv, hn⟩ : ∃ v, [Value.pointer none, Value.pointer (some ⟨w.heap.size, 0, none⟩)][k]? = some (.pointer v) ∧ NoG W0 (.pointer v) := by
        rcases (by omega : k = 0 ∨ k = 1) with e | e
        · subst e; exact ⟨_, rfl, nog_nil W0⟩
        · subst e; exact ⟨_, rfl, nog_zero BG.out⟩
      have c0 := (BS.out.ch hcur (by simp)).cell hv
      have HN := Lib.hid hn; clear hn hv
      have HX1 := Lib.hid (Input_nil (NoG.ch HN.out hcur))
      go_wp2_with fail
      refine HX1.out.mono ?_
      rintro e w1 ⟨rfl, hc1⟩
      replace hcur := hcur.trans hc1 (by simp)
      clear hc1 HX1
      have HX2 := Lib.hid (And_nil (NoG.ch HN.out hcur) 0 0)
      go_wp2_with fail
      refine HX2.out.mono ?_
      rintro e w2 ⟨rfl, hc2⟩
      replace hcur := hcur.trans hc2 (by simp)
      clear hc2 HX2
      have HX3 := Lib.hid (Or_nil (NoG.ch HN.out hcur) (-1) 0)
      go_wp2_with fail
      refine HX3.out.mono ?_
      rintro e w3 ⟨rfl, hc3⟩
      replace hcur := hcur.trans hc3 (by simp)
      clear hc3 HX3
      have HX4 := Lib.hid (Xor_nil (NoG.ch HN.out hcur) 0 0)
      go_wp2_with fail
      refine HX4.out.mono ?_
      rintro e w4 ⟨rfl, hc4⟩
      replace hcur := hcur.trans hc4 (by simp)
      clear hc4 HX4
      have HX5 := Lib.hid (Mux_nil (NoG.ch HN.out hcur) 0 0 0)
      go_wp2_with fail
      refine HX5.out.mono ?_
      rintro e w5 ⟨rfl, hc5⟩
      replace hcur := hcur.trans hc5 (by simp)
      clear hc5 HX5
      have HX6 := Lib.hid (All_nil (NoG.ch HN.out hcur) none 0 0)
      go_wp2_with fail
      refine HX6.out.mono ?_
      rintro e w6 ⟨rfl, hc6⟩
      replace hcur := hcur.trans hc6 (by simp)
      clear hc6 HX6
      have HX7 := Lib.hid (Any_nil (NoG.ch HN.out hcur) none 0 0)
      go_wp2_with fail
      refine HX7.out.mono ?_
      rintro e w7 ⟨rfl, hc7⟩
      replace hcur := hcur.trans hc7 (by simp)
      clear hc7 HX7
      have HX8 := Lib.hid (Cone_nil (NoG.ch HN.out hcur) none 0 0)
      go_wp2_with fail
      refine HX8.out.mono ?_
      rintro e w8 ⟨rfl, hc8⟩
      replace hcur := hcur.trans hc8 (by simp)
      clear hc8 HX8
      have HX9 := Lib.hid (Depth_nil (NoG.ch HN.out hcur) 0)
      go_wp2_with fail
      refine HX9.out.mono ?_
      rintro e w9 ⟨rfl, hc9⟩
      replace hcur := hcur.trans hc9 (by simp)
      clear hc9 HX9
      have HX10 := Lib.hid (Cut_nil (NoG.ch HN.out hcur) 1)
      go_wp2_with fail
      refine HX10.out.mono ?_
      rintro e w10 ⟨rfl, hc10⟩
      replace hcur := hcur.trans hc10 (by simp)
      clear hc10 HX10
      go_wp2_with fail
      refine wp_alw ?_
      intro W1 hW1
      have be := alw_blk (xs := List.replicate 10 (.int .i64 1)) hW1
      have hc1 := hcur.trans (alw_ch hW1) (by simp)
      clear hW1
      generalize w10.heap.size = eb at *
      have BE := Lib.hid be; clear be
      have HC1 := Lib.hid hc1; clear hc1 hcur c0
      go_loopw [92] (fun i wr => ∃ j : Nat, j ≤ 10 ∧ i = .int .i64 j ∧ Ch [] W1 wr) (fun i _ => 10 - (intOf i).toNat)
      case atStart => exact ⟨0, by omega, rfl, Ch.refl _ _⟩
      case round =>
        obtain ⟨j, hj, rfl, hcj⟩ := hrel
        by_cases hjl : j < 10
        · have e0 := (BE.out.ch hcj (by simp)).cell (i := j) (v := .int .i64 1) (by rw [List.getElem?_replicate, if_pos hjl])
          have HCJ := Lib.hid hcj; clear hcj
          go_wp2_with fail
          go_roundw
          case rel => exact ⟨j + 1, by omega, by go_num, HCJ.out⟩
          case measure => simp [intOf]; omega
        · have hcur := HC1.out.trans hcj (by simp)
          have HJ := Lib.hid hcj; clear hcj
          have hj10 : j = 10 := by omega
          rw [hj10]
          clear hj10 hjl hj
          have HX20 := Lib.hid (Sides_nil (NoG.ch HN.out hcur) 0)
          go_wp2_with fail
          refine HX20.out.mono ?_
          rintro e w20 ⟨rfl, hc20⟩
          replace hcur := hcur.trans hc20 (by simp)
          clear hc20 HX20
          have HX21 := Lib.hid (Len_nil (NoG.ch HN.out hcur))
          go_wp2_with fail
          refine HX21.out.mono ?_
          rintro e w21 ⟨rfl, hc21⟩
          replace hcur := hcur.trans hc21 (by simp)
          clear hc21 HX21
          have HX22 := Lib.hid (Room_nil (NoG.ch HN.out hcur))
          go_wp2_with fail
          refine HX22.out.mono ?_
          rintro e w22 ⟨rfl, hc22⟩
          replace hcur := hcur.trans hc22 (by simp)
          clear hc22 HX22
          have HX23 := Lib.hid (Inputs_nil (NoG.ch HN.out hcur))
          go_wp2_with fail
          refine HX23.out.mono ?_
          rintro e w23 ⟨rfl, hc23⟩
          replace hcur := hcur.trans hc23 (by simp)
          clear hc23 HX23
          have HX24 := Lib.hid (Right_nil (NoG.ch HN.out hcur) 0)
          go_wp2_with fail
          refine HX24.out.mono ?_
          rintro e w24 ⟨rfl, hc24⟩
          replace hcur := hcur.trans hc24 (by simp)
          clear hc24 HX24
          have HX25 := Lib.hid (Kind_nil (NoG.ch HN.out hcur) 0)
          go_wp2_with fail
          refine HX25.out.mono ?_
          rintro e w25 ⟨rfl, hc25⟩
          replace hcur := hcur.trans hc25 (by simp)
          clear hc25 HX25
          have HCF := Lib.hid hcur; clear hcur
          go_wp2_with fail
          go_roundw
          case rel => exact ⟨k + 1, by omega, by go_num, HCF.out⟩
          case measure => simp [intOf]; omega
    · have HCF := Lib.hid hcur; clear hcur
      go_wp2_with fail
      go_ret
      exact ⟨rfl, HC0.out.trans HCF.out (by simp)⟩
end
end Go.Proofs.Ytnajonchjlplmaa
