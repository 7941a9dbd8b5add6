/-
  Walk over SimSmall: true. Conditions: none.
-/
import Derived.Test.YtdmmanfjafempaaQE
import Derived.Test.YtdmmanfjafempaaQF
namespace Go.Proofs.Ytdmmanfjafempaa
open Go.RowKit Go.Mem Go.Aig
section
def inN : N21 := ⟨true, 0, 0⟩
def ends21 : List Int := [-9223372036854775808, -2, -1, 0, 1, 2, 3, 4, 9223372036854775806, 9223372036854775807]
theorem ends_bd : ∀ z ∈ ends21, I64 z := by decide
theorem cnt_rep (k : Nat) : cntI (List.replicate k inN) = k := by
  induction k with
  | zero => rfl
  | succ k ih => rw [List.replicate_succ']; rw [cntI_snoc, ih]; rfl
theorem rep_bd (k : Nat) : ∀ x ∈ List.replicate k inN, I64 x.l ∧ I64 x.r := fun x hx => by
  rw [(List.mem_replicate.1 hx).2]
  exact ⟨⟨by decide, by decide⟩, ⟨by decide, by decide⟩⟩
theorem rep_inp (k : Nat) : ∀ x ∈ List.replicate k inN, x.inp = true := fun x hx => by
  rw [(List.mem_replicate.1 hx).2]
  rfl
theorem n21_app (a b : List N21) : n21Cells (a ++ b) = n21Cells a ++ n21Cells b := by simp [n21Cells]
theorem cnt_app (a b : List N21) : cntI (a ++ b) = cntI a + cntI b := by simp [cntI]
theorem cnt_le (l : List N21) : cntI l ≤ l.length := List.length_filter_le _ _
set_option maxRecDepth 100000 in
set_option maxHeartbeats 8000000 in
theorem SimSmall_walk (w : World) : Calls Try.prog 3 #[] w fun e w' => e = .returned (.bool true) ∧ Ch [] w w' := by
  go_enter Try.func3, Try.ntmps3
  go_wp2_with fail
  go_loopw [8] (fun i wr => ∃ k : Nat, k ≤ 288 ∧ i = .int .i64 k ∧ Ch [] w wr) (fun i _ => 288 - (intOf i).toNat)
  case atStart => exact ⟨0, by omega, rfl, Ch.refl _ _⟩
  case round =>
    obtain ⟨k, hk, rfl, hcur⟩ := hrel
    by_cases hlt : k < 288
    · have HC := Lib.hid hcur; clear hcur
      go_upto_region 5 with fail
      refine wp_alw ?_
      intro W1 hW1
      have hb : blk W1 wr.heap.size (n21Cells [⟨true, 0, 0⟩, ⟨false, 1, 3⟩, ⟨true, 0, 0⟩, ⟨false, (k : Int) % 6, (k : Int) / 6 % 6⟩, ⟨false, 6 + (k : Int) % 2, (k : Int) / 36⟩]) := by rw [hW1]; exact blk.new' _ _ rfl
      have hc1 := HC.out.trans (alw_ch hW1) (by simp)
      clear hW1
      generalize hL : [(⟨true, 0, 0⟩ : N21), ⟨false, 1, 3⟩, ⟨true, 0, 0⟩, ⟨false, (k : Int) % 6, (k : Int) / 6 % 6⟩, ⟨false, 6 + (k : Int) % 2, (k : Int) / 36⟩] = L at hb
      have hL5 : L.length = 5 := by rw [← hL]; rfl
      have hLb : ∀ x ∈ L, I64 x.l ∧ I64 x.r := fun x hx => by
        rw [← hL] at hx
        simp only [List.mem_cons, List.not_mem_nil, or_false] at hx
        rcases hx with rfl | rfl | rfl | rfl | rfl <;> exact ⟨⟨by simp only; omega, by simp only; omega⟩, ⟨by simp only; omega, by simp only; omega⟩⟩
      have hS := NodeS.of_blk hb hL5 (by omega) hLb
      have hcn := cnt_le L
      generalize hl0 : wr.heap.size = lb at *
      clear hL hLb hb hl0
      have HS := Lib.hid hS; clear hS
      replace HC := Lib.hid hc1; clear hc1
      have HL5 := Lib.hid hL5; clear hL5
      have HCN := Lib.hid hcn; clear hcn
      go_wp2_with fail
      refine calls_named fun W2 hW2 => ?_
      have hx2 : blk W2 W1.heap.size ([k, 3 * k].map fun z => .int .u64 (z : Nat)) := by rw [hW2]; exact (blk.new' _ _ rfl).alloc _
      have hr2 : blk W2 (W1.heap.size + 1) ([(k : Int) % 10, 7, 8].map fun z => .int .i64 z) := by rw [hW2]; exact blk.new' _ _ (by simp)
      have hc2 : Ch [] W1 W2 := by rw [hW2]; exact ((Ch.refl _ _).alloc _).alloc _
      clear hW2
      have hS2 := HS.out.ch hc2
      refine (words21_is hS2 (by omega) (NumS.of_blk (n := 2) hx2 rfl (by omega) (by simp; omega)) (by omega) (IntS.of_blk (n := 3) hr2 rfl (by omega) (by intro z hz; simp only [List.mem_cons, List.not_mem_nil, or_false] at hz; rcases hz with rfl | rfl | rfl <;> exact ⟨by omega, by omega⟩)) (by omega)).mono ?_
      rintro e w2 ⟨rfl, hc3⟩
      replace HS := Lib.hid (hS2.ch hc3)
      replace HC := Lib.hid ((HC.out.trans hc2 (by simp)).trans hc3 (by simp))
      clear hx2 hr2 hc2 hS2 hc3
      have HX := Lib.hid (tables21_is HS.out (by omega) (.inl (by have := HCN.out; have := HL5.out; omega)) ((k : Int) % 12) ((k : Int) / 12 % 10) ⟨by omega, by omega⟩ ⟨by omega, by omega⟩)
      by_cases h9 : (k : Int) % 9 = 0
      · have b9 : ((k : Int) % 9 == 0) = true := by simp [h9]
        have H9 := Lib.hid h9; clear h9
        obtain ⟨M, hM, hM4⟩ : ∃ M : Nat, (k : Int) % 4 = M ∧ M ≤ 3 := ⟨k % 4, by omega, by omega⟩
        have hmk : ∀ W : World, (Instr.makeSlice 27 (.int .i64 ((k : Int) % 4)) (.int .i64 ((k : Int) % 4))).run Try.prog W = .ok (.slice (some ⟨W.heap.size, 0, none⟩) M M) (W.alloc (.cells (u64s (List.replicate M 0)).toArray 26)) := fun W => by rw [hM]; exact run_make_u64s W M (by omega)
        clear hM
        go_wp2_with fail
        refine HX.out.mono ?_
        rintro e w3 ⟨rfl, hc3⟩
        replace HS := Lib.hid (HS.out.ch hc3)
        replace HC := Lib.hid (HC.out.trans hc3 (by simp)); clear hc3 HX
        go_wp2_with fail
        refine calls_named fun W4 hW4 => ?_
        have hx4 : blk W4 w3.heap.size ((List.replicate M 0).map fun z => .int .u64 (z : Nat)) := by rw [hW4]; exact (blk.new' (u64s (List.replicate M 0)) _ rfl).alloc _
        have hr4 : blk W4 (w3.heap.size + 1) ([(k : Int) % 13].map fun z => .int .i64 z) := by rw [hW4]; exact blk.new' _ _ (by simp)
        have hc4 : Ch [] w3 W4 := by rw [hW4]; exact ((Ch.refl _ _).alloc _).alloc _
        clear hW4 hmk
        have hS4 := HS.out.ch hc4
        refine (words21_is hS4 (by omega) (NumS.of_blk (n := M) hx4 (by simp) (by omega) (by intro z hz; rw [(List.mem_replicate.1 hz).2]; decide)) (by omega) (IntS.of_blk (n := 1) hr4 rfl (by omega) (by intro z hz; simp only [List.mem_cons, List.not_mem_nil, or_false] at hz; rcases hz with rfl; exact ⟨by omega, by omega⟩)) (by omega)).mono ?_
        rintro e w5 ⟨rfl, hc5⟩
        replace HC := Lib.hid ((HC.out.trans hc4 (by simp)).trans hc5 (by simp))
        clear hx4 hr4 hc4 hS4 hc5 HS
        go_wp2_with fail
        go_roundw
        case rel => exact ⟨k + 1, by omega, by go_num, HC.out⟩
        case measure => simp [intOf]; omega
      · have b9 : ((k : Int) % 9 == 0) = false := by simp [h9]
        clear h9
        go_wp2_with fail
        refine HX.out.mono ?_
        rintro e w3 ⟨rfl, hc3⟩
        replace HC := Lib.hid (HC.out.trans hc3 (by simp)); clear hc3 HX
        go_wp2_with fail
        go_roundw
        case rel => exact ⟨k + 1, by omega, by go_num, HC.out⟩
        case measure => simp [intOf]; omega
    · have HC := Lib.hid hcur; clear hcur
      go_wp2_with fail
      clear hk hlt
      go_loopw [3, 66] (fun v i wr => ∃ k : Nat, k ≤ 18 ∧ i = .int .i64 k ∧ row wr 23 3 v k (n21Cells (List.replicate k inN)) ∧ (∀ z ∈ v.ownBlock.toList, w.heap.size ≤ z) ∧ Ch [] w wr) (fun _ i _ => 18 - (intOf i).toNat)
      case atStart => exact ⟨0, by omega, rfl, ⟨rfl, .inl ⟨rfl, rfl⟩⟩, by simp, HC.out⟩
      case round =>
        clear HC
        obtain ⟨k, hk, rfl, hrow, hlo, hcur⟩ := hrel
        obtain ⟨va, vc, rfl⟩ := row.shape hrow
        by_cases hlt : k < 18
        · have HCL := Lib.hid (CLnode21_is hrow (by omega))
          have HC := Lib.hid hcur; clear hcur
          have HROW := Lib.hid hrow; clear hrow
          have HLO := Lib.hid hlo; clear hlo
          go_wp2_with fail
          refine HCL.out.mono ?_
          rintro e w2 ⟨v2, rfl, hr2, hlo2, hc2⟩
          obtain ⟨xa, xc, rfl⟩ := row.shape hr2
          have HR2 := Lib.hid hr2; clear hr2
          have HLO2 := Lib.hid hlo2; clear hlo2
          have HC2 := Lib.hid hc2; clear hc2 HCL
          obtain ⟨NW, hNW⟩ : ∃ NW : World, NW = w2.alloc (.cells (n21Cells [⟨false, 2, 2 * (k : Int) + 1⟩, ⟨false, 3, 2 * (k : Int) + 2⟩]).toArray 23) := ⟨_, rfl⟩
          have hcA : Ch [] w2 NW := alw_ch hNW
          have hnb := alw_blk hNW
          have hrA := HR2.out.ch hcA (by simp)
          have hNW2 : NW = w2.alloc (.cells #[.bool false, .int .i64 2, .int .i64 (2 * (k : Int) + 1), .bool false, .int .i64 3, .int .i64 (2 * (k : Int) + 2)] 23) := hNW
          have HCA := Lib.hid hcA; clear hcA
          have HNB := Lib.hid hnb; clear hnb
          have HRA := Lib.hid hrA; clear hrA HR2
          have HNW := Lib.hid hNW2; clear hNW2 hNW
          go_upto_region 13 with (at_builtin; rw [← HNW.out]; go_loud (refine wpList_append_row slNodes21 rfl _ _ rfl (v := .slice xa k xc) (n := k) (xs := n21Cells (List.replicate k inN)) rfl HRA.out (ad := ⟨w2.heap.size, 0, none⟩) (m := 2) (c := 2) (news := n21Cells [⟨false, 2, 2 * (k : Int) + 1⟩, ⟨false, 3, 2 * (k : Int) + 2⟩]) rfl rfl (news_blk HNB.out) (by intro u hu; simp [n21Cells] at hu; rcases hu with rfl | rfl | rfl | rfl | rfl | rfl <;> rfl) (by omega) (by omega) ?_; intro v' w5 hown4 hC4 hf4; have HO4 := Lib.hid hown4; clear hown4; have HCC4 := Lib.hid hC4; clear hC4; clear hf4))
          have hwt := (HC2.out.trans HCA.out (by simp)).trans HCC4.out (fun q hq => .inr (HLO2.out q hq))
          have hro := HO4.out
          rw [← n21_app] at hro
          obtain ⟨g, gc, e⟩ := hro.parts (by omega)
          subst e
          have hS := NodeS.of_row hro (by
            intro x hx
            rcases List.mem_append.1 hx with hx | hx
            · exact rep_bd k x hx
            · simp only [List.mem_cons, List.not_mem_nil, or_false] at hx
              rcases hx with rfl | rfl <;> exact ⟨⟨by simp only; omega, by simp only; omega⟩, ⟨by simp only; omega, by simp only; omega⟩⟩)
          have hcn : cntI (List.replicate k inN ++ [⟨false, 2, 2 * (k : Int) + 1⟩, ⟨false, 3, 2 * (k : Int) + 2⟩]) = k := by rw [cnt_app, cnt_rep]; rfl
          generalize List.replicate k inN ++ [⟨false, 2, 2 * (k : Int) + 1⟩, ⟨false, 3, 2 * (k : Int) + 2⟩] = LA at hS hcn
          have HS := Lib.hid hS; clear hS
          have HCN := Lib.hid hcn; clear hcn
          have HWT := Lib.hid hwt; clear hwt hro HO4 HCC4 HRA HNB HCA HNW HC2 HLO2
          by_cases hm1 : k < 10
          · have hm : k < 10 ∨ 16 < k := .inl hm1
            have hd : decide ((k : Int) < 10) = true := decide_eq_true (by omega)
            have HX := Lib.hid (tables21_is HS.out (by omega) (by have := HCN.out; omega) (2 * (k : Int) + 3) (2 * (k : Int)) ⟨by omega, by omega⟩ ⟨by omega, by omega⟩)
            have HM := Lib.hid hm; clear hm
            go_wp2_with fail
            refine HX.out.mono ?_
            rintro e w6 ⟨rfl, hc6⟩
            replace HWT := Lib.hid (HWT.out.trans hc6 (by simp))
            have hS6 := HS.out.ch hc6
            have HX2 := Lib.hid (tables21_is hS6 (by omega) (by have := HCN.out; have := HM.out; omega) (2 * (k : Int) + 4) 1 ⟨by omega, by omega⟩ ⟨by omega, by omega⟩)
            clear hS6 HS HX hc6
            go_wp2_with fail
            refine HX2.out.mono ?_
            rintro e w7 ⟨rfl, hc7⟩
            replace HWT := Lib.hid (HWT.out.trans hc7 (by simp))
            clear hc7 HX2
            obtain ⟨NX, hNX⟩ : ∃ NX : World, NX = w7.alloc (.cells (n21Cells [inN]).toArray 23) := ⟨_, rfl⟩
            have hcB : Ch [] w7 NX := alw_ch hNX
            have hnb2 := alw_blk hNX
            have hrB := (HROW.out.ch HWT.out (by simp)).ch hcB (by simp)
            have hNX2 : NX = w7.alloc (.cells #[.bool true, .int .i64 0, .int .i64 0] 23) := hNX
            have HCB := Lib.hid hcB; clear hcB
            have HNB2 := Lib.hid hnb2; clear hnb2
            have HRB := Lib.hid hrB; clear hrB
            have HNX := Lib.hid hNX2; clear hNX2 hNX
            go_wp2_with (at_builtin; rw [← HNX.out]; go_loud (refine wpList_append_row slNodes21 rfl _ _ rfl (v := .slice va k vc) (n := k) (xs := n21Cells (List.replicate k inN)) rfl HRB.out (ad := ⟨w7.heap.size, 0, none⟩) (m := 1) (c := 1) (news := n21Cells [inN]) rfl rfl (news_blk HNB2.out) (by intro u hu; simp [n21Cells] at hu; rcases hu with rfl | rfl | rfl <;> rfl) (by omega) (by omega) ?_; intro v9 w9 hown9 hC9 hf9; have HO9 := Lib.hid hown9; clear hown9; have HCC9 := Lib.hid hC9; clear hC9; have HF9 := Lib.hid hf9; clear hf9))
            go_roundw
            case rel =>
              obtain ⟨q1, q2⟩ := app_step HC.out (HWT.out.trans HCB.out (by simp)) HLO.out HCC9.out HF9.out
              refine ⟨k + 1, by omega, by go_num, ?_, q2, q1⟩
              rw [List.replicate_succ', n21_app]
              exact HO9.out
            case measure => simp [intOf]; omega
          · have hd : decide ((k : Int) < 10) = false := decide_eq_false (by omega)
            by_cases hm2 : 16 < k
            · have hm : k < 10 ∨ 16 < k := .inr hm2
              have hd2 : decide ((k : Int) > 16) = true := decide_eq_true (by omega)
              have HX := Lib.hid (tables21_is HS.out (by omega) (by have := HCN.out; omega) (2 * (k : Int) + 3) (2 * (k : Int)) ⟨by omega, by omega⟩ ⟨by omega, by omega⟩)
              have HM := Lib.hid hm; clear hm
              go_wp2_with fail
              refine HX.out.mono ?_
              rintro e w6 ⟨rfl, hc6⟩
              replace HWT := Lib.hid (HWT.out.trans hc6 (by simp))
              have hS6 := HS.out.ch hc6
              have HX2 := Lib.hid (tables21_is hS6 (by omega) (by have := HCN.out; have := HM.out; omega) (2 * (k : Int) + 4) 1 ⟨by omega, by omega⟩ ⟨by omega, by omega⟩)
              clear hS6 HS HX hc6
              go_wp2_with fail
              refine HX2.out.mono ?_
              rintro e w7 ⟨rfl, hc7⟩
              replace HWT := Lib.hid (HWT.out.trans hc7 (by simp))
              clear hc7 HX2
              obtain ⟨NX, hNX⟩ : ∃ NX : World, NX = w7.alloc (.cells (n21Cells [inN]).toArray 23) := ⟨_, rfl⟩
              have hcB : Ch [] w7 NX := alw_ch hNX
              have hnb2 := alw_blk hNX
              have hrB := (HROW.out.ch HWT.out (by simp)).ch hcB (by simp)
              have hNX2 : NX = w7.alloc (.cells #[.bool true, .int .i64 0, .int .i64 0] 23) := hNX
              have HCB := Lib.hid hcB; clear hcB
              have HNB2 := Lib.hid hnb2; clear hnb2
              have HRB := Lib.hid hrB; clear hrB
              have HNX := Lib.hid hNX2; clear hNX2 hNX
              go_wp2_with (at_builtin; rw [← HNX.out]; go_loud (refine wpList_append_row slNodes21 rfl _ _ rfl (v := .slice va k vc) (n := k) (xs := n21Cells (List.replicate k inN)) rfl HRB.out (ad := ⟨w7.heap.size, 0, none⟩) (m := 1) (c := 1) (news := n21Cells [inN]) rfl rfl (news_blk HNB2.out) (by intro u hu; simp [n21Cells] at hu; rcases hu with rfl | rfl | rfl <;> rfl) (by omega) (by omega) ?_; intro v9 w9 hown9 hC9 hf9; have HO9 := Lib.hid hown9; clear hown9; have HCC9 := Lib.hid hC9; clear hC9; have HF9 := Lib.hid hf9; clear hf9))
              go_roundw
              case rel =>
                obtain ⟨q1, q2⟩ := app_step HC.out (HWT.out.trans HCB.out (by simp)) HLO.out HCC9.out HF9.out
                refine ⟨k + 1, by omega, by go_num, ?_, q2, q1⟩
                rw [List.replicate_succ', n21_app]
                exact HO9.out
              case measure => simp [intOf]; omega
            · have hd2 : decide ((k : Int) > 16) = false := decide_eq_false (by omega)
              clear HS HCN
              obtain ⟨NX, hNX⟩ : ∃ NX : World, NX = w5.alloc (.cells (n21Cells [inN]).toArray 23) := ⟨_, rfl⟩
              have hcB : Ch [] w5 NX := alw_ch hNX
              have hnb2 := alw_blk hNX
              have hrB := (HROW.out.ch HWT.out (by simp)).ch hcB (by simp)
              have hNX2 : NX = w5.alloc (.cells #[.bool true, .int .i64 0, .int .i64 0] 23) := hNX
              have HCB := Lib.hid hcB; clear hcB
              have HNB2 := Lib.hid hnb2; clear hnb2
              have HRB := Lib.hid hrB; clear hrB
              have HNX := Lib.hid hNX2; clear hNX2 hNX
              go_wp2_with (at_builtin; rw [← HNX.out]; go_loud (refine wpList_append_row slNodes21 rfl _ _ rfl (v := .slice va k vc) (n := k) (xs := n21Cells (List.replicate k inN)) rfl HRB.out (ad := ⟨w5.heap.size, 0, none⟩) (m := 1) (c := 1) (news := n21Cells [inN]) rfl rfl (news_blk HNB2.out) (by intro u hu; simp [n21Cells] at hu; rcases hu with rfl | rfl | rfl <;> rfl) (by omega) (by omega) ?_; intro v9 w9 hown9 hC9 hf9; have HO9 := Lib.hid hown9; clear hown9; have HCC9 := Lib.hid hC9; clear hC9; have HF9 := Lib.hid hf9; clear hf9))
              go_roundw
              case rel =>
                obtain ⟨q1, q2⟩ := app_step HC.out (HWT.out.trans HCB.out (by simp)) HLO.out HCC9.out HF9.out
                refine ⟨k + 1, by omega, by go_num, ?_, q2, q1⟩
                rw [List.replicate_succ', n21_app]
                exact HO9.out
              case measure => simp [intOf]; omega
        · have hk18 : k = 18 := by omega
          obtain ⟨vb, vcap, e⟩ := hrow.parts (by omega)
          cases e
          have hS := NodeS.of_row hrow (rep_bd k)
          rw [show List.replicate k inN = List.replicate 18 inN by rw [hk18]] at hS
          have HS := Lib.hid hS
          have hvc := hS.le
          have HC := Lib.hid hcur; clear hcur
          clear hrow hlo hS hk18
          go_wp2_with fail
          refine wp_alw ?_
          intro W1 hW1
          have hb := alw_blk (xs := ends21.map fun z => .int .i64 z) hW1
          replace HS := Lib.hid (HS.out.ch (alw_ch hW1))
          replace HC := Lib.hid (HC.out.trans (alw_ch hW1) (by simp))
          clear hW1
          generalize wr.heap.size = eb at *
          have HB := Lib.hid hb; clear hb
          go_loopw [110] (fun i wr => ∃ k : Nat, k ≤ 10 ∧ i = .int .i64 k ∧ Ch [] W1 wr) (fun i _ => 10 - (intOf i).toNat)
          case atStart => exact ⟨0, by omega, rfl, Ch.refl _ _⟩
          case round =>
            obtain ⟨j, hj, rfl, hcur⟩ := hrel
            by_cases hlt2 : j < 10
            · obtain ⟨z, hz⟩ : ∃ z, ends21[j]? = some z := ⟨_, List.getElem?_eq_getElem (show j < ends21.length from hlt2)⟩
              have hzb := ends_bd z (List.mem_of_getElem? hz)
              have c0 := (HB.out.ch hcur (by simp)).cell (i := j) (v := .int .i64 z) (by rw [List.getElem?_map, hz]; rfl)
              clear hz
              have hS1 := (HS.out.ch hcur).take (m := 1) (by omega)
              have hS17 := (HS.out.ch hcur).take (m := 17) (by omega)
              have HS1 := Lib.hid hS1; clear hS1
              have HS17 := Lib.hid hS17; clear hS17
              have HCUR := Lib.hid hcur; clear hcur
              have HX := Lib.hid (tables21_is HS1.out (by omega) (.inl (by decide)) z 2 hzb ⟨by omega, by omega⟩)
              go_wp2_with fail
              refine HX.out.mono ?_
              rintro e w2 ⟨rfl, hc2⟩
              replace HCUR := Lib.hid (HCUR.out.trans hc2 (by simp))
              replace HS1 := Lib.hid (HS1.out.ch hc2)
              replace HS17 := Lib.hid (HS17.out.ch hc2)
              clear HX hc2
              have HX := Lib.hid (tables21_is HS1.out (by omega) (.inl (by decide)) 2 z ⟨by omega, by omega⟩ hzb)
              go_wp2_with fail
              refine HX.out.mono ?_
              rintro e w3 ⟨rfl, hc2⟩
              replace HCUR := Lib.hid (HCUR.out.trans hc2 (by simp))
              replace HS1 := Lib.hid (HS1.out.ch hc2)
              replace HS17 := Lib.hid (HS17.out.ch hc2)
              clear HX hc2
              have HX := Lib.hid (tables21_is HS17.out (by omega) (.inr (by decide)) z 2 hzb ⟨by omega, by omega⟩)
              go_wp2_with fail
              refine HX.out.mono ?_
              rintro e w4 ⟨rfl, hc2⟩
              replace HCUR := Lib.hid (HCUR.out.trans hc2 (by simp))
              replace HS1 := Lib.hid (HS1.out.ch hc2)
              clear HX hc2 HS17
              go_wp2_with fail
              refine calls_named fun W5 hW5 => ?_
              have hx5 : blk W5 w4.heap.size ([5].map fun z => .int .u64 (z : Nat)) := by rw [hW5]; exact (blk.new' _ _ rfl).alloc _
              have hr5 : blk W5 (w4.heap.size + 1) ([z].map fun z => .int .i64 z) := by rw [hW5]; exact blk.new' _ _ (by simp)
              have hc5 : Ch [] w4 W5 := by rw [hW5]; exact ((Ch.refl _ _).alloc _).alloc _
              clear hW5
              have hS5 := HS1.out.ch hc5
              refine (words21_is hS5 (by omega) (NumS.of_blk (n := 1) hx5 rfl (by omega) (by decide)) (by omega) (IntS.of_blk (n := 1) hr5 rfl (by omega) (by intro y hy; rw [List.mem_singleton.1 hy]; exact hzb)) (by omega)).mono ?_
              rintro e w6 ⟨rfl, hc6⟩
              replace HCUR := Lib.hid ((HCUR.out.trans hc5 (by simp)).trans hc6 (by simp))
              replace HS1 := Lib.hid (hS5.ch hc6)
              clear hx5 hr5 hc5 hS5 hc6
              go_wp2_with fail
              refine calls_named fun W7 hW7 => ?_
              have hr7 := alw_blk (xs := [2, z].map fun z => .int .i64 z) hW7
              have hc7 := alw_ch hW7
              clear hW7
              have hS7 := HS1.out.ch hc7
              refine (words21_is hS7 (by omega) (NumS.nil W7) (by omega) (IntS.of_blk (n := 2) hr7 rfl (by omega) (by intro y hy; simp only [List.mem_cons, List.not_mem_nil, or_false] at hy; rcases hy with rfl | rfl; exact ⟨by omega, by omega⟩; exact hzb)) (by omega)).mono ?_
              rintro e w8 ⟨rfl, hc8⟩
              replace HCUR := Lib.hid ((HCUR.out.trans hc7 (by simp)).trans hc8 (by simp))
              clear hr7 hc7 hS7 hc8 HS1
              go_wp2_with fail
              go_roundw
              case rel => exact ⟨j + 1, by omega, by go_num, HCUR.out⟩
              case measure => simp [intOf]; omega
            · have hS16 := (HS.out.ch hcur).take (m := 16) (by omega)
              replace HC := Lib.hid (HC.out.trans hcur (by simp)); clear hcur
              have HX := Lib.hid (wide21_is hS16 (rep_inp 16)); clear hS16
              go_wp2_with fail
              refine HX.out.mono ?_
              rintro e w2 ⟨rfl, hc2⟩
              replace HC := Lib.hid (HC.out.trans hc2 (by simp)); clear hc2 HX
              go_wp2_with fail
              refine (none21_is w2).mono ?_
              rintro e w3 ⟨rfl, hc2⟩
              replace HC := Lib.hid (HC.out.trans hc2 (by simp)); clear hc2
              go_wp2_with fail
              refine (awake21_is w3).mono ?_
              rintro e w4 ⟨rfl, hc2⟩
              replace HC := Lib.hid (HC.out.trans hc2 (by simp)); clear hc2
              go_wp2_with fail
              go_ret
              exact ⟨rfl, HC.out⟩
end
end Go.Proofs.Ytdmmanfjafempaa
