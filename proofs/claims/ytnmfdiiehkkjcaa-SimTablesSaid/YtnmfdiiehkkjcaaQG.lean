/-
  Walk over tables of chapter 21's laws: true. Conditions: a slice of at most 61 nodes of any integers, of which at most 9 are inputs, or more than 16; any integers.
  Walk over SimTables: true, whatever comes in. Conditions: nodes of any integers, any integers.
-/
import Derived.Test.YtnmfdiiehkkjcaaQF
namespace Go.Proofs.Ytnmfdiiehkkjcaa
open Go.RowKit Go.Mem Go.Aig
section
variable {w : World}
theorem HS.cellT {w0 w : World} {g : Nat} {G : Gra} {F : List Nat} {L : List (Option Addr × List Value)} (h : HS w0 w g G F L) {b : Nat} {xs : List Value} (hm : (some ⟨b, 0, none⟩, xs) ∈ L) {i : Nat} {x : Value} (hx : xs[i]? = some x) : w.cell? ⟨b, i, none⟩ = some x := by
  obtain ⟨b1, o1, e, hc⟩ := (h.held _ hm).cells i x hx
  cases e
  rwa [Nat.zero_add] at hc
theorem HS.slT {w0 w : World} {g : Nat} {G : Gra} {F : List Nat} {L : List (Option Addr × List Value)} (h : HS w0 w g G F L) {a : Option Addr} {l : List Nat} (hm : (a, refsCells l) ∈ L) : Sl w a (natInts l) := by
  have hs := h.held _ hm
  refine ⟨fun i x hx => hs.cells i _ ?_, by have := hs.bd; simpa [natInts, refsCells] using this⟩
  unfold natInts at hx
  unfold refsCells
  rw [List.getElem?_map] at hx ⊢
  cases h1 : l[i]? with
  | none => rw [h1] at hx; cases hx
  | some r => rw [h1] at hx; simp at hx; subst hx; rfl
theorem tabE_big {G : Gra} {l : List Int} (h : badIn G l = false) (hk : 16 < (inputs G.nodes).length) : tabE G l = 211 := by unfold tabE; rw [h, if_neg (by simp), if_pos hk]
theorem tabE_bad {G : Gra} {l : List Int} (h : badIn G l = true) : tabE G l = 200 := by unfold tabE; rw [h]; rfl
set_option maxRecDepth 100000 in
set_option maxHeartbeats 8000000 in
theorem tables21_is {a : Option Addr} {n ncap : Nat} {l : List N21} (hS : NodeS w a n ncap l) (hn : n ≤ 61) (hk : cntI l ≤ 9 ∨ 17 ≤ cntI l) (A B : Int) (hA : -9223372036854775808 ≤ A ∧ A ≤ 9223372036854775807) (hB : -9223372036854775808 ≤ B ∧ B ≤ 9223372036854775807) :
    Calls Try.prog 15 #[.slice a n ncap, .int .i64 A, .int .i64 B] w fun e w' => e = .returned (.bool true) ∧ Ch [] w w' := by
  have hBU := build21_is hS hn
  have hIN := fun (W : World) (hW : Ch [] w W) => inputs21_is (hS.ch hW) (by omega)
  have HBU := Lib.hid hBU; clear hBU
  have HIN := Lib.hid hIN; clear hIN hS
  go_enter Try.func15, Try.ntmps15
  go_wp2_with fail
  refine HBU.out.mono ?_
  rintro e w1 ⟨g, F, rb, rcap, G, rfl, hb, hm, hnl, hil⟩
  have HBO := Lib.hid hb; clear hb HBU
  have HM := Lib.hid hm; clear hm
  have HIL0 := Lib.hid hil; clear hil
  go_upto_region 2 with fail
  refine wp_named fun W2 hW2 => ?_
  have hb2 := alw_blk (xs := [.int .i64 G.most, .slice (some ⟨rb, 0, none⟩) G.nodes.length rcap]) hW2
  have hb := HBO.out.same (alw_ch hW2)
  have ho : HS w W2 g G F [(some ⟨w1.heap.size, 0, none⟩, [.int .i64 G.most, .slice (some ⟨rb, 0, none⟩) G.nodes.length rcap]), (some ⟨rb, 0, none⟩, rCells G.nodes)] := (((⟨⟨hb.gin, hb.own, hb.ch⟩, by simp⟩ : HS w W2 g G F []).add hb.rg.sv).blk hb2 (by simp))
  have hle := hb.rg.le
  have hmx := hb.rg.mx
  have hok := hb.rg.ok
  have hpos := hok.wf.pos
  clear hW2 hb2 hb HBO
  generalize w1.heap.size = bx at ho ⊢
  have HO := Lib.hid ho; clear ho
  have HOK := Lib.hid hok; clear hok
  have hil := HIL0.out
  clear HIL0
  obtain ⟨k, hkk⟩ : ∃ k, cntI l = k := ⟨_, rfl⟩
  simp only [hkk] at HIN
  rw [hkk] at hil hk
  clear hkk
  have HIL := Lib.hid hil; clear hil
  have hRT : ∀ (W : World) (L : List (Option Addr × List Value)) (_ : HS w W g G F L) (_ : (some ⟨rb, 0, none⟩, rCells G.nodes) ∈ L) (r : Int), Calls Try.prog 73 #[.agg #[.int .i64 G.most, .slice (some ⟨rb, 0, none⟩) G.nodes.length rcap], .int .i64 r] W fun e w' => e = .returned (.bool (right G.nodes r)) ∧ HS w w' g G F L := fun W L hh hmem r => (rRight_is (RG.held (hh.held _ hmem) hle hmx HOK.out) r).mono fun e w' ⟨h1, h2⟩ => ⟨h1, hh.same h2⟩
  have HRT := Lib.hid hRT; clear hRT
  cases hrA : right G.nodes A
  · have hbad1 : badIn G [A] = true := by simp [badIn, hrA]
    have hbad2 : badIn G [A, B] = true := by simp [badIn, hrA]
    have r1 : tableR G A = ([], 200) := by unfold tableR; rw [tabE_bad hbad1]; rfl
    have R1 := Lib.hid r1; clear r1
    have r2 : countR G A = (0, 200) := by unfold countR; rw [tabE_bad hbad1]; rfl
    have R2 := Lib.hid r2; clear r2
    have r3 : firstG G A = (([], false), 200) := by unfold firstG; rw [tabE_bad hbad1]; rfl
    have R3 := Lib.hid r3; clear r3
    have r4 : partsG G A B = (([], false), 200) := by unfold partsG; rw [tabE_bad hbad2]; rfl
    have R4 := Lib.hid r4; clear r4
    have HRA := Lib.hid hrA; clear hrA hbad1 hbad2
    go_wp2_with fail
    (with_reducible refine (simTable_h HO.out A hA R1.out (k := 0) rfl (by omega)).mono ?_)
    rintro e W3 ⟨a1, s1, rfl, ho⟩
    clear HO; have HO := Lib.hid ho; clear ho
    go_wp2_with fail
    refine (simCount_h HO.out A hA R2.out).mono ?_
    rintro e W4 ⟨rfl, ho⟩
    clear HO; have HO := Lib.hid ho; clear ho
    go_wp2_with fail
    refine (simFirst_h HO.out A hA R3.out (k := 0) rfl (by omega)).mono ?_
    rintro e W5 ⟨a2, s2, rfl, ho⟩
    clear HO; have HO := Lib.hid ho; clear ho
    go_wp2_with fail
    refine (simParts_h HO.out A B hA hB R4.out (k := 0) rfl (by omega)).mono ?_
    rintro e W6 ⟨a3, s3, rfl, ho⟩
    clear HO; have HO := Lib.hid ho; clear ho
    have hin := HIN.out W6 HO.out.own.ch
    have HIN1 := Lib.hid hin; clear hin
    go_wp2_with fail
    refine HIN1.out.mono ?_
    rintro e W7 ⟨rfl, hc7⟩
    have ho := HO.out.same hc7
    clear HO hc7 HIN1; have HO := Lib.hid ho; clear ho
    by_cases hbig : 16 < k
    · have e16 : decide ((k : Int) > 16) = true := decide_eq_true (by omega)
      have cx0 := HO.out.cellT (b := bx) (xs := [.int .i64 G.most, .slice (some ⟨rb, 0, none⟩) G.nodes.length rcap]) (by simp) (i := 0) rfl
      have cx1 := HO.out.cellT (b := bx) (xs := [.int .i64 G.most, .slice (some ⟨rb, 0, none⟩) G.nodes.length rcap]) (by simp) (i := 1) rfl
      go_wp2_with fail
      refine (HRT.out _ _ HO.out (by simp) A).mono ?_
      rintro e W8 ⟨rfl, ho⟩
      rw [HRA.out]
      clear cx0 cx1
      clear HO; have HO := Lib.hid ho; clear ho
      have cx0 := HO.out.cellT (b := bx) (xs := [.int .i64 G.most, .slice (some ⟨rb, 0, none⟩) G.nodes.length rcap]) (by simp) (i := 0) rfl
      have cx1 := HO.out.cellT (b := bx) (xs := [.int .i64 G.most, .slice (some ⟨rb, 0, none⟩) G.nodes.length rcap]) (by simp) (i := 1) rfl
      go_wp2_with fail
      refine (HRT.out _ _ HO.out (by simp) A).mono ?_
      rintro e W9 ⟨rfl, ho⟩
      rw [HRA.out]
      clear cx0 cx1
      clear HO; have HO := Lib.hid ho; clear ho
      go_wp2_with fail
      go_ret
      exact ⟨rfl, HO.out.own.ch⟩
    · have e16 : decide ((k : Int) > 16) = false := decide_eq_false (by omega)
      have cx0 := HO.out.cellT (b := bx) (xs := [.int .i64 G.most, .slice (some ⟨rb, 0, none⟩) G.nodes.length rcap]) (by simp) (i := 0) rfl
      have cx1 := HO.out.cellT (b := bx) (xs := [.int .i64 G.most, .slice (some ⟨rb, 0, none⟩) G.nodes.length rcap]) (by simp) (i := 1) rfl
      go_wp2_with fail
      refine (HRT.out _ _ HO.out (by simp) A).mono ?_
      rintro e W8 ⟨rfl, ho⟩
      rw [HRA.out]
      clear cx0 cx1
      clear HO; have HO := Lib.hid ho; clear ho
      have cx0 := HO.out.cellT (b := bx) (xs := [.int .i64 G.most, .slice (some ⟨rb, 0, none⟩) G.nodes.length rcap]) (by simp) (i := 0) rfl
      have cx1 := HO.out.cellT (b := bx) (xs := [.int .i64 G.most, .slice (some ⟨rb, 0, none⟩) G.nodes.length rcap]) (by simp) (i := 1) rfl
      go_wp2_with fail
      refine (HRT.out _ _ HO.out (by simp) A).mono ?_
      rintro e W9 ⟨rfl, ho⟩
      rw [HRA.out]
      clear cx0 cx1
      clear HO; have HO := Lib.hid ho; clear ho
      go_wp2_with fail
      go_ret
      exact ⟨rfl, HO.out.own.ch⟩
  · have hAn : ∃ p : Nat, A = p ∧ p < 2 * G.nodes.length := by
      unfold right at hrA
      have := of_decide_eq_true hrA
      exact ⟨A.toNat, by omega, by omega⟩
    have hbad1 : badIn G [A] = false := by simp [badIn, hrA]
    by_cases hbig : 16 < k
    · have hkb : 16 < (inputs G.nodes).length := by rw [HIL.out]; exact hbig
      have r1 : tableR G A = ([], 211) := by unfold tableR; rw [tabE_big hbad1 hkb]; rfl
      have R1 := Lib.hid r1; clear r1
      have r2 : countR G A = (0, 211) := by unfold countR; rw [tabE_big hbad1 hkb]; rfl
      have R2 := Lib.hid r2; clear r2
      have r3 : firstG G A = (([], false), 211) := by unfold firstG; rw [tabE_big hbad1 hkb]; rfl
      have R3 := Lib.hid r3; clear r3
      have e16 : decide ((k : Int) > 16) = true := decide_eq_true (by omega)
      cases hrB : right G.nodes B
      · have r4 : partsG G A B = (([], false), 200) := by unfold partsG; rw [tabE_bad (by simp [badIn, hrA, hrB])]; rfl
        have R4 := Lib.hid r4; clear r4
        have HRA := Lib.hid hrA; clear hrA hbad1 hAn hkb
        have HRB := Lib.hid hrB; clear hrB
        go_wp2_with fail
        (with_reducible refine (simTable_h HO.out A hA R1.out (k := 0) rfl (by omega)).mono ?_)
        rintro e W3 ⟨a1, s1, rfl, ho⟩
        clear HO; have HO := Lib.hid ho; clear ho
        go_wp2_with fail
        refine (simCount_h HO.out A hA R2.out).mono ?_
        rintro e W4 ⟨rfl, ho⟩
        clear HO; have HO := Lib.hid ho; clear ho
        go_wp2_with fail
        refine (simFirst_h HO.out A hA R3.out (k := 0) rfl (by omega)).mono ?_
        rintro e W5 ⟨a2, s2, rfl, ho⟩
        clear HO; have HO := Lib.hid ho; clear ho
        go_wp2_with fail
        refine (simParts_h HO.out A B hA hB R4.out (k := 0) rfl (by omega)).mono ?_
        rintro e W6 ⟨a3, s3, rfl, ho⟩
        clear HO; have HO := Lib.hid ho; clear ho
        have hin := HIN.out W6 HO.out.own.ch
        have HIN1 := Lib.hid hin; clear hin
        go_wp2_with fail
        refine HIN1.out.mono ?_
        rintro e W7 ⟨rfl, hc7⟩
        have ho := HO.out.same hc7
        clear HO hc7 HIN1; have HO := Lib.hid ho; clear ho
        have cx0 := HO.out.cellT (b := bx) (xs := [.int .i64 G.most, .slice (some ⟨rb, 0, none⟩) G.nodes.length rcap]) (by simp) (i := 0) rfl
        have cx1 := HO.out.cellT (b := bx) (xs := [.int .i64 G.most, .slice (some ⟨rb, 0, none⟩) G.nodes.length rcap]) (by simp) (i := 1) rfl
        go_wp2_with fail
        refine (HRT.out _ _ HO.out (by simp) A).mono ?_
        rintro e W8 ⟨rfl, ho⟩
        rw [HRA.out]
        clear cx0 cx1
        clear HO; have HO := Lib.hid ho; clear ho
        have cx0 := HO.out.cellT (b := bx) (xs := [.int .i64 G.most, .slice (some ⟨rb, 0, none⟩) G.nodes.length rcap]) (by simp) (i := 0) rfl
        have cx1 := HO.out.cellT (b := bx) (xs := [.int .i64 G.most, .slice (some ⟨rb, 0, none⟩) G.nodes.length rcap]) (by simp) (i := 1) rfl
        go_wp2_with fail
        refine (HRT.out _ _ HO.out (by simp) A).mono ?_
        rintro e W9 ⟨rfl, ho⟩
        rw [HRA.out]
        clear cx0 cx1
        clear HO; have HO := Lib.hid ho; clear ho
        have cx0 := HO.out.cellT (b := bx) (xs := [.int .i64 G.most, .slice (some ⟨rb, 0, none⟩) G.nodes.length rcap]) (by simp) (i := 0) rfl
        have cx1 := HO.out.cellT (b := bx) (xs := [.int .i64 G.most, .slice (some ⟨rb, 0, none⟩) G.nodes.length rcap]) (by simp) (i := 1) rfl
        go_wp2_with fail
        refine (HRT.out _ _ HO.out (by simp) B).mono ?_
        rintro e W10 ⟨rfl, ho⟩
        rw [HRB.out]
        clear cx0 cx1
        clear HO; have HO := Lib.hid ho; clear ho
        go_wp2_with fail
        go_ret
        exact ⟨rfl, HO.out.own.ch⟩
      · have r4 : partsG G A B = (([], false), 211) := by unfold partsG; rw [tabE_big (by simp [badIn, hrA, hrB]) hkb]; rfl
        have R4 := Lib.hid r4; clear r4
        have HRA := Lib.hid hrA; clear hrA hbad1 hAn hkb
        have HRB := Lib.hid hrB; clear hrB
        go_wp2_with fail
        (with_reducible refine (simTable_h HO.out A hA R1.out (k := 0) rfl (by omega)).mono ?_)
        rintro e W3 ⟨a1, s1, rfl, ho⟩
        clear HO; have HO := Lib.hid ho; clear ho
        go_wp2_with fail
        refine (simCount_h HO.out A hA R2.out).mono ?_
        rintro e W4 ⟨rfl, ho⟩
        clear HO; have HO := Lib.hid ho; clear ho
        go_wp2_with fail
        refine (simFirst_h HO.out A hA R3.out (k := 0) rfl (by omega)).mono ?_
        rintro e W5 ⟨a2, s2, rfl, ho⟩
        clear HO; have HO := Lib.hid ho; clear ho
        go_wp2_with fail
        refine (simParts_h HO.out A B hA hB R4.out (k := 0) rfl (by omega)).mono ?_
        rintro e W6 ⟨a3, s3, rfl, ho⟩
        clear HO; have HO := Lib.hid ho; clear ho
        have hin := HIN.out W6 HO.out.own.ch
        have HIN1 := Lib.hid hin; clear hin
        go_wp2_with fail
        refine HIN1.out.mono ?_
        rintro e W7 ⟨rfl, hc7⟩
        have ho := HO.out.same hc7
        clear HO hc7 HIN1; have HO := Lib.hid ho; clear ho
        have cx0 := HO.out.cellT (b := bx) (xs := [.int .i64 G.most, .slice (some ⟨rb, 0, none⟩) G.nodes.length rcap]) (by simp) (i := 0) rfl
        have cx1 := HO.out.cellT (b := bx) (xs := [.int .i64 G.most, .slice (some ⟨rb, 0, none⟩) G.nodes.length rcap]) (by simp) (i := 1) rfl
        go_wp2_with fail
        refine (HRT.out _ _ HO.out (by simp) A).mono ?_
        rintro e W8 ⟨rfl, ho⟩
        rw [HRA.out]
        clear cx0 cx1
        clear HO; have HO := Lib.hid ho; clear ho
        have cx0 := HO.out.cellT (b := bx) (xs := [.int .i64 G.most, .slice (some ⟨rb, 0, none⟩) G.nodes.length rcap]) (by simp) (i := 0) rfl
        have cx1 := HO.out.cellT (b := bx) (xs := [.int .i64 G.most, .slice (some ⟨rb, 0, none⟩) G.nodes.length rcap]) (by simp) (i := 1) rfl
        go_wp2_with fail
        refine (HRT.out _ _ HO.out (by simp) A).mono ?_
        rintro e W9 ⟨rfl, ho⟩
        rw [HRA.out]
        clear cx0 cx1
        clear HO; have HO := Lib.hid ho; clear ho
        have cx0 := HO.out.cellT (b := bx) (xs := [.int .i64 G.most, .slice (some ⟨rb, 0, none⟩) G.nodes.length rcap]) (by simp) (i := 0) rfl
        have cx1 := HO.out.cellT (b := bx) (xs := [.int .i64 G.most, .slice (some ⟨rb, 0, none⟩) G.nodes.length rcap]) (by simp) (i := 1) rfl
        go_wp2_with fail
        refine (HRT.out _ _ HO.out (by simp) B).mono ?_
        rintro e W10 ⟨rfl, ho⟩
        rw [HRB.out]
        clear cx0 cx1
        clear HO; have HO := Lib.hid ho; clear ho
        go_wp2_with fail
        go_ret
        exact ⟨rfl, HO.out.own.ch⟩
    · have hk9 : k ≤ 9 := by omega
      have e16 : decide ((k : Int) > 16) = false := decide_eq_false (by omega)
      obtain ⟨p, hAp, hpl⟩ := hAn
      subst hAp
      have r1 := table_ok hpl HIL.out (by omega)
      have r2 := count_ok hpl HIL.out (by omega)
      have r3 := first_ok hpl HIL.out (by omega)
      have hTo : TabOf (tabW G.nodes (oneF p) k) k (tellR G.nodes k p) := tabW_of G.nodes p k
      have hTb := tabW_lt G.nodes (oneF p) k
      have htl : (tabW G.nodes (oneF p) k).length = 2 ^ (k - 6) := tab_len _ _ _
      have htab := table_of hTo hTb
      have hcv : countV k (tellR G.nodes k p) = (trueL k (tellR G.nodes k p)).length := rfl
      have hfl := firstR_len k (tellR G.nodes k p)
      have hTR : ∀ (W : World) (L : List (Option Addr × List Value)) (_ : HS w W g G F L) (_ : (some ⟨rb, 0, none⟩, rCells G.nodes) ∈ L), _ := fun W L hh hmem => r21True_is (RG.held (hh.held _ hmem) hle hmx HOK.out) HIL.out (by omega) p hpl
      have HTR := Lib.hid hTR; clear hTR
      obtain ⟨C, hC⟩ : ∃ C, 2 ^ (k - 6) = C := ⟨_, rfl⟩
      have hC8 : C ≤ 8 := by
        have : (2 : Nat) ^ (k - 6) ≤ 2 ^ 3 := Nat.pow_le_pow_right (by omega) (by omega)
        omega
      have hD9 : (2 : Nat) ^ k ≤ 512 := Nat.pow_le_pow_right (n := 2) (by omega) hk9
      have hble := blocks_le k
      rw [hC] at htl htab hble
      have hxl := filter_len_le (tellR G.nodes k p) (2 ^ k)
      change (trueL k (tellR G.nodes k p)).length ≤ 2 ^ k at hxl
      have hxm : ∀ x ∈ trueL k (tellR G.nodes k p), x / 64 < C ∧ x < 512 := fun x hx => by
        have := List.mem_range.1 (List.mem_filter.1 hx).1
        omega
      have hf0 := first_none (n := k) (p := tellR G.nodes k p)
      have hf1 := fun x => first_some (n := k) (x := x) (p := tellR G.nodes k p)
      have hmax : ∀ ats ty, Builtin.max_ ats ty #[.int .i64 ((k : Int) - 6), .int .i64 0] = pure (.int .i64 ((k - 6 : Nat) : Int)) := fun ats ty => by
        have := max_nat ((k : Int) - 6) 0 (k - 6) (by omega) ats ty
        simpa using this
      have hC6 : C ≤ 1000000 := by omega
      have hwC : wrap64 ((2 : Int) ^ (k - 6)) = ((C : Nat) : Int) := by
        have : ((2 : Int) ^ (k - 6)) = ((2 ^ (k - 6) : Nat) : Int) := by simp
        rw [this, hC]
        exact IntWalk.wrap64_in _ (by omega)
      have hmk : ∀ W : World, (Instr.makeSlice 33 (.int .i64 (wrap64 ((2 : Int) ^ (k - 6)))) (.int .i64 (wrap64 ((2 : Int) ^ (k - 6))))).run Try.prog W = .ok (.slice (some ⟨W.heap.size, 0, none⟩) C C) (W.alloc (.cells (u64s (List.replicate C 0)).toArray 45)) := fun W => by rw [hwC]; exact run_make_u64s W C hC6
      have HMK := Lib.hid hmk; clear hmk hwC
      have HMAX := Lib.hid hmax; clear hmax
      have HPART := Lib.hid (fun q => part_first (ns := G.nodes) (n := k) (a := p) (b := q))
      have hTP : ∀ (q : Nat) (_ : q < 2 * G.nodes.length) (W : World) (L : List (Option Addr × List Value)) (_ : HS w W g G F L) (_ : (some ⟨rb, 0, none⟩, rCells G.nodes) ∈ L), _ := fun q hq W L hh hmem => r21Parted_is (RG.held (hh.held _ hmem) hle hmx HOK.out) HIL.out (by omega) p q hpl hq
      have HTP := Lib.hid hTP; clear hTP
      have hp4 := fun q hq => parts_ok (G := G) (r := p) (s := q) (k := k) hpl hq HIL.out (by omega)
      have HP4 := Lib.hid hp4; clear hp4
      have hpl2 : p ≤ 1000 := by omega
      generalize hpp : tellR G.nodes k p = pt at *
      generalize hXX : trueL k pt = X at *
      obtain ⟨xl, hxe⟩ : ∃ xl, X.length = xl := ⟨_, rfl⟩
      rw [hxe] at hxl hcv
      have hxl9 : xl ≤ 512 := by omega
      rw [hcv] at r2
      obtain ⟨T, hT⟩ : ∃ T, tabW G.nodes (oneF p) k = T := ⟨_, rfl⟩
      rw [hT] at r1 htl htab
      obtain ⟨⟨f, b⟩, hfR⟩ : ∃ fr, firstR k pt = fr := ⟨_, rfl⟩
      rw [hfR] at r3 hfl hf0
      simp only [hfR] at hf1
      simp only at hfl
      obtain ⟨fl, hfle⟩ : ∃ fl, f.length = fl := ⟨_, rfl⟩
      have hfl9 : fl ≤ 9 := by rw [← hfle, hfl]; split <;> omega
      have R1 := Lib.hid r1; clear r1
      have R2 := Lib.hid r2; clear r2
      have R3 := Lib.hid r3; clear r3
      have HFLE := Lib.hid hfle; clear hfle hfl hfR hpp
      have HTL := Lib.hid htl; clear htl
      have HTAB := Lib.hid htab; clear htab hTo hTb hT
      have HXM := Lib.hid hxm; clear hxm
      have HXE := Lib.hid hxe; clear hxe hxl hcv
      have HF0 := Lib.hid hf0; clear hf0
      have HF1 := Lib.hid hf1; clear hf1 hXX hC hble hD9
      cases hrB : right G.nodes B
      · have r4 : partsG G p B = (([], false), 200) := by unfold partsG; rw [tabE_bad (by simp [badIn, hrA, hrB])]; rfl
        have R4 := Lib.hid r4; clear r4
        have HRA := Lib.hid hrA; clear hrA hbad1
        have HRB := Lib.hid hrB; clear hrB
        go_wp2_with fail
        (with_reducible refine (simTable_h HO.out p (by omega) R1.out (k := C) HTL.out (by omega)).mono ?_)
        rintro e W3 ⟨a1, s1, rfl, ho⟩
        clear HO; have HO := Lib.hid ho; clear ho
        go_wp2_with fail
        refine (simCount_h HO.out p (by omega) R2.out).mono ?_
        rintro e W4 ⟨rfl, ho⟩
        clear HO; have HO := Lib.hid ho; clear ho
        go_wp2_with fail
        refine (simFirst_h HO.out p (by omega) R3.out (k := fl) HFLE.out (by omega)).mono ?_
        rintro e W5 ⟨a2, s2, rfl, ho⟩
        clear HO; have HO := Lib.hid ho; clear ho
        go_wp2_with fail
        refine (simParts_h HO.out p B (by omega) hB R4.out (k := 0) rfl (by omega)).mono ?_
        rintro e W6 ⟨a3, s3, rfl, ho⟩
        clear HO; have HO := Lib.hid ho; clear ho
        have hin := HIN.out W6 HO.out.own.ch
        have HIN1 := Lib.hid hin; clear hin
        go_wp2_with fail
        refine HIN1.out.mono ?_
        rintro e W7 ⟨rfl, hc7⟩
        have ho := HO.out.same hc7
        clear HO hc7 HIN1; have HO := Lib.hid ho; clear ho
        have cx0 := HO.out.cellT (b := bx) (xs := [.int .i64 G.most, .slice (some ⟨rb, 0, none⟩) G.nodes.length rcap]) (by simp) (i := 0) rfl
        have cx1 := HO.out.cellT (b := bx) (xs := [.int .i64 G.most, .slice (some ⟨rb, 0, none⟩) G.nodes.length rcap]) (by simp) (i := 1) rfl
        go_wp2_with fail
        refine (HRT.out _ _ HO.out (by simp) p).mono ?_
        rintro e W8 ⟨rfl, ho⟩
        rw [HRA.out]
        clear cx0 cx1
        clear HO; have HO := Lib.hid ho; clear ho
        have cx0 := HO.out.cellT (b := bx) (xs := [.int .i64 G.most, .slice (some ⟨rb, 0, none⟩) G.nodes.length rcap]) (by simp) (i := 0) rfl
        have cx1 := HO.out.cellT (b := bx) (xs := [.int .i64 G.most, .slice (some ⟨rb, 0, none⟩) G.nodes.length rcap]) (by simp) (i := 1) rfl
        go_wp2_with fail
        refine (HRT.out _ _ HO.out (by simp) p).mono ?_
        rintro e W9 ⟨rfl, ho⟩
        rw [HRA.out]
        clear cx0 cx1
        clear HO; have HO := Lib.hid ho; clear ho
        have cx0 := HO.out.cellT (b := bx) (xs := [.int .i64 G.most, .slice (some ⟨rb, 0, none⟩) G.nodes.length rcap]) (by simp) (i := 0) rfl
        have cx1 := HO.out.cellT (b := bx) (xs := [.int .i64 G.most, .slice (some ⟨rb, 0, none⟩) G.nodes.length rcap]) (by simp) (i := 1) rfl
        go_wp2_with fail
        refine (HRT.out _ _ HO.out (by simp) B).mono ?_
        rintro e W10 ⟨rfl, ho⟩
        rw [HRB.out]
        clear cx0 cx1
        clear HO; have HO := Lib.hid ho; clear ho
        have hin := HIN.out W10 HO.out.own.ch
        have HIN1 := Lib.hid hin; clear hin
        go_wp2_with fail
        refine HIN1.out.mono ?_
        rintro e W11 ⟨rfl, hc11⟩
        have ho := HO.out.same hc11
        clear HO hc11 HIN1; have HO := Lib.hid ho; clear ho
        have cx0 := HO.out.cellT (b := bx) (xs := [.int .i64 G.most, .slice (some ⟨rb, 0, none⟩) G.nodes.length rcap]) (by simp) (i := 0) rfl
        have cx1 := HO.out.cellT (b := bx) (xs := [.int .i64 G.most, .slice (some ⟨rb, 0, none⟩) G.nodes.length rcap]) (by simp) (i := 1) rfl
        have htr := HTR.out W11 _ HO.out (by simp)
        rw [HXE.out] at htr
        have HTR1 := Lib.hid htr; clear htr
        go_wp2_with fail
        refine HTR1.out.mono ?_
        rintro e W12 ⟨v, rfl, hrow, _, hc12⟩
        obtain ⟨xa, xc, rfl⟩ := row.shape hrow
        have ho := (HO.out.same hc12).add (row.sv hrow rfl (by omega))
        clear HO hc12 HTR1 hrow cx0 cx1; have HO := Lib.hid ho; clear ho
        have hmk := HMK.out
        have hmax := HMAX.out
        go_wp2_with fail
        clear hmk hmax
        refine wp_alw ?_
        intro W13 hW13
        have hbt := alw_blk (xs := u64s (List.replicate C 0)) hW13
        have hc13 := alw_ch hW13
        clear hW13
        generalize htb : W12.heap.size = tb at hbt ⊢
        have htb2 : W12.heap.size ≤ tb := by omega
        clear htb
        have HBT := Lib.hid hbt; clear hbt
        have HC13 := Lib.hid hc13; clear hc13
        go_loopw [136] (fun i wr => ∃ j : Nat, j ≤ xl ∧ i = .int .i64 j ∧ Ch [] W12 wr ∧ blk wr tb (u64s (setBs (List.replicate C 0) (X.take j)))) (fun i _ => xl - (intOf i).toNat)
        case atStart => exact ⟨0, by omega, rfl, HC13.out, HBT.out⟩
        case round =>
          clear HBT HC13
          obtain ⟨j, hj, rfl, hc, hbk⟩ := hrel
          by_cases hlt : j < xl
          · obtain ⟨x, hx⟩ : ∃ x, X[j]? = some x := ⟨_, List.getElem?_eq_getElem (by rw [HXE.out]; exact hlt)⟩
            obtain ⟨hxC, hx9⟩ := HXM.out x (List.mem_of_getElem? hx)
            obtain ⟨b1, o1, rfl, c1⟩ := ((HO.out.same hc).held (xa, refsCells X) (by simp)).cells j (.int .i64 x) (by unfold refsCells; rw [List.getElem?_map, hx]; rfl)
            have hts : setBs (List.replicate C 0) (X.take (j + 1)) = setB (setBs (List.replicate C 0) (X.take j)) x := by rw [List.take_add_one, hx]; exact setBs_snoc _ _ _
            have hsl := setBs_len (List.replicate C 0) (X.take j)
            rw [List.length_replicate] at hsl
            have hst := setBs_lt (T := List.replicate C 0) (fun v hv => by rw [(List.mem_replicate.1 hv).2]; decide) (X.take j)
            generalize setBs (List.replicate C 0) (X.take j) = S at *
            obtain ⟨u, hu⟩ : ∃ u, S[x / 64]? = some u := ⟨_, List.getElem?_eq_getElem (by omega)⟩
            have hub := hst u (List.mem_of_getElem? hu)
            unfold setB at hts
            rw [List.getD_eq_getElem?_getD, hu] at hts
            simp only [Option.getD_some] at hts
            obtain ⟨A64, hA64⟩ : ∃ A64, x / 64 = A64 := ⟨_, rfl⟩
            obtain ⟨R64, hR64⟩ : ∃ R64, x % 64 = R64 := ⟨_, rfl⟩
            rw [hA64] at hu hts hxC
            rw [hR64] at hts
            have eA : (x : Int) / 64 = (A64 : Int) := by omega
            have eR : (x : Int) % 64 = (R64 : Int) := by omega
            have hR6 : R64 < 64 := by omega
            have c2 := hbk.cell (i := A64) (v := .int .u64 u) (by unfold u64s; rw [List.getElem?_map, hu]; rfl)
            have f2 := hbk.frozen (i := A64)
            have HBK := Lib.hid hbk; clear hbk
            have HTS := Lib.hid hts; clear hts
            have HC := Lib.hid hc; clear hc hx hst hsl hu hA64 hR64
            go_wp2_with fail
            refine Ord.St.door (fun _ => True) [.fl, .fl, .fl, .fl, .rd, .fl, .fl, .fl, .fl, .fl, .ef] [0, 0, 2, 7, 15, 0, 32, 96, 255, 511, 1023] [0, 1, 2, 3, 4, 5, 6, 7, 8, 9, 10] mixed (by kernel_rfl) rfl ?_
            refine Ord.St.fl2 (T' := ?_) 0 [1, 2, 3, 4, 5, 6, 7, 8, 9, 10] _ _ rfl (by kernel_rfl) rfl rfl rfl rfl (fun K w' hk => ?_) ?_
            rotate_left
            · go_step; exact hk
            refine Ord.St.fl2 (T' := ?_) 1 [2, 3, 4, 5, 6, 7, 8, 9, 10] _ _ rfl (by kernel_rfl) rfl rfl rfl rfl (fun K w' hk => ?_) ?_
            rotate_left
            · go_step; exact hk
            refine Ord.St.fl2 (T' := ?_) 2 [3, 4, 5, 6, 7, 8, 9, 10] _ _ rfl (by kernel_rfl) rfl rfl rfl rfl (fun K w' hk => ?_) ?_
            rotate_left
            · go_step; exact hk
            refine Ord.St.fl2 (T' := ?_) 3 [4, 5, 6, 7, 8, 9, 10] _ _ rfl (by kernel_rfl) rfl rfl rfl rfl (fun K w' hk => ?_) ?_
            rotate_left
            · go_step; exact hk
            refine Ord.St.rd2 (T' := ?_) 4 [5, 6, 7, 8, 9, 10] _ _ rfl (by kernel_rfl) rfl rfl rfl rfl (fun K hk => ?_) ?_
            rotate_left
            · go_step; exact hk
            refine Ord.St.fl2 (T' := ?_) 5 [6, 7, 8, 9, 10] _ _ rfl (by kernel_rfl) rfl rfl rfl rfl (fun K w' hk => ?_) ?_
            rotate_left
            · go_step; exact hk
            refine Ord.St.fl2 (T' := ?_) 6 [7, 8, 9, 10] _ _ rfl (by kernel_rfl) rfl rfl rfl rfl (fun K w' hk => ?_) ?_
            rotate_left
            · go_step; exact hk
            refine Ord.St.fl2 (T' := ?_) 7 [8, 9, 10] _ _ rfl (by kernel_rfl) rfl rfl rfl rfl (fun K w' hk => ?_) ?_
            rotate_left
            · go_step; exact hk
            refine Ord.St.fl2 (T' := ?_) 8 [9, 10] _ _ rfl (by kernel_rfl) rfl rfl rfl rfl (fun K w' hk => ?_) ?_
            rotate_left
            · go_step; exact hk
            refine Ord.St.fl2 (T' := ?_) 9 [10] _ _ rfl (by kernel_rfl) rfl rfl rfl rfl (fun K w' hk => ?_) ?_
            rotate_left
            · go_step; exact hk
            refine Ord.St.ef 10 [] _ rfl (by kernel_rfl) (fun K hK => ?_)
            go_wp2_with fail
            refine ⟨rfl, hK _ _ ?_⟩; clear hK K
            refine Ord.St.nil ?_
            have hor := bits_or_u64_pow u R64 (by omega) hR6
            rw [hor]
            clear hor c1 c2 f2 eA eR
            go_wp2_with fail
            go_roundw
            case rel =>
              refine ⟨j + 1, by omega, by go_num, (HC.out.setCell (.inr htb2) _).drew, ?_⟩
              rw [HTS.out, show u64s (S.set A64 (u ||| 2 ^ R64)) = (u64s S).set A64 (.int .u64 (u ||| 2 ^ R64 : Nat)) by unfold u64s; rw [List.map_set]]
              exact (HBK.out.set _).ch ((Ch.refl [] _).drew) (by simp)
            case measure => simp [intOf]; omega
          · have hjx : j = xl := by omega
            rw [hjx, List.take_of_length_le (by rw [HXE.out]; omega), HTAB.out] at hbk
            have ho := (HO.out.same hc).blk hbk (by rw [show (u64s T).length = T.length by simp [u64s], HTL.out]; omega)
            clear HO hc hbk htb2 hjx
            have HO := Lib.hid ho; clear ho
            have exl : ((xl : Int) != (xl : Int)) = false := by simp
            by_cases hx0 : xl = 0
            · have hfb := HF0.out (List.eq_nil_of_length_eq_zero (by rw [HXE.out]; exact hx0))
              cases hfb
              have hfl0 := HFLE.out
              simp at hfl0
              subst hfl0
              subst hx0
              have egt : decide (((0 : Nat) : Int) > 0) = false := by decide
              go_wp2_with fail
              refine (EQu64_h HO.out (a := a1) (b := some ⟨tb, 0, none⟩) (xs := T) (ys := T) (ca := s1) (cb := C) (by simp) (HO.out.held (some ⟨tb, 0, none⟩, u64s T) (by simp)) HTL.out HTL.out (decide_eq_true rfl)).mono ?_
              rintro e W14 ⟨rfl, ho⟩
              clear HO; have HO := Lib.hid ho; clear ho
              have hsm := same21_no (w := W14) k s2 a2 (-1) (by omega)
              have HSM := Lib.hid hsm; clear hsm
              go_wp2_with fail
              refine HSM.out.mono ?_
              rintro e W15 ⟨rfl, hc15⟩
              have ho := HO.out.same hc15
              clear HO hc15 HSM; have HO := Lib.hid ho; clear ho
              go_wp2_with fail
              go_ret
              exact ⟨rfl, HO.out.own.ch⟩
            · obtain ⟨x0, hx0v⟩ : ∃ x0, X[0]? = some x0 := ⟨_, List.getElem?_eq_getElem (by rw [HXE.out]; omega)⟩
              obtain ⟨hfb, hx0l⟩ := HF1.out x0 hx0v
              cases hfb
              have hfl0 := HFLE.out
              rw [asgBits_len] at hfl0
              subst hfl0
              have hx0b : x0 ≤ 512 := by have := (HXM.out x0 (List.mem_of_getElem? hx0v)).2; omega
              obtain ⟨xb, xo, rfl, cX⟩ := (HO.out.held (xa, refsCells X) (by simp)).cells 0 (.int .i64 x0) (by unfold refsCells; rw [List.getElem?_map, hx0v]; rfl)
              rw [Nat.add_zero] at cX
              have egt : decide ((xl : Int) > 0) = true := decide_eq_true (by omega)
              clear hx0l hx0v
              go_wp2_with fail
              refine (EQu64_h HO.out (a := a1) (b := some ⟨tb, 0, none⟩) (xs := T) (ys := T) (ca := s1) (cb := C) (by simp) (HO.out.held (some ⟨tb, 0, none⟩, u64s T) (by simp)) HTL.out HTL.out (decide_eq_true rfl)).mono ?_
              rintro e W14 ⟨rfl, ho⟩
              clear HO; have HO := Lib.hid ho; clear ho
              have hsm := same21_yes (w := W14) k s2 x0 (by omega) (by omega) (a := a2) (HO.out.held (a2, bools (asgBits k x0)) (by simp))
              have HSM := Lib.hid hsm; clear hsm
              go_wp2_with fail
              refine HSM.out.mono ?_
              rintro e W15 ⟨rfl, hc15⟩
              have ho := HO.out.same hc15
              clear HO hc15 HSM; have HO := Lib.hid ho; clear ho
              go_wp2_with fail
              go_ret
              exact ⟨rfl, HO.out.own.ch⟩
      · obtain ⟨q, hBq, hql⟩ : ∃ q : Nat, B = q ∧ q < 2 * G.nodes.length := by
          unfold right at hrB
          have := of_decide_eq_true hrB
          exact ⟨B.toNat, by omega, by omega⟩
        subst hBq
        have r4 := HP4.out q hql
        have hpa := HPART.out q
        have htp := HTP.out q hql
        generalize firstR k (tellX G.nodes k p q) = PF at r4 hpa
        obtain ⟨pf, pb⟩ := PF
        obtain ⟨pfl, hpfl⟩ : ∃ pfl, pf.length = pfl := ⟨_, rfl⟩
        have hpf9 : pfl ≤ 9 := by
          rcases hpa with ⟨_, h2⟩ | ⟨x, _, h2, _⟩
          · cases h2; rw [← hpfl]; simp
          · cases h2; rw [← hpfl, asgBits_len]; exact hk9
        have R4 := Lib.hid r4; clear r4
        have HPA := Lib.hid hpa; clear hpa
        have HTPQ := Lib.hid htp; clear htp
        have HPFL := Lib.hid hpfl; clear hpfl
        have hq2 : q ≤ 1000 := by omega
        have HRA := Lib.hid hrA; clear hrA hbad1
        have HRB := Lib.hid hrB; clear hrB
        go_wp2_with fail
        (with_reducible refine (simTable_h HO.out p (by omega) R1.out (k := C) HTL.out (by omega)).mono ?_)
        rintro e W3 ⟨a1, s1, rfl, ho⟩
        clear HO; have HO := Lib.hid ho; clear ho
        go_wp2_with fail
        refine (simCount_h HO.out p (by omega) R2.out).mono ?_
        rintro e W4 ⟨rfl, ho⟩
        clear HO; have HO := Lib.hid ho; clear ho
        go_wp2_with fail
        refine (simFirst_h HO.out p (by omega) R3.out (k := fl) HFLE.out (by omega)).mono ?_
        rintro e W5 ⟨a2, s2, rfl, ho⟩
        clear HO; have HO := Lib.hid ho; clear ho
        go_wp2_with fail
        refine (simParts_h HO.out p q (by omega) (by omega) R4.out (k := pfl) HPFL.out (by omega)).mono ?_
        rintro e W6 ⟨a3, s3, rfl, ho⟩
        clear HO; have HO := Lib.hid ho; clear ho
        have hin := HIN.out W6 HO.out.own.ch
        have HIN1 := Lib.hid hin; clear hin
        go_wp2_with fail
        refine HIN1.out.mono ?_
        rintro e W7 ⟨rfl, hc7⟩
        have ho := HO.out.same hc7
        clear HO hc7 HIN1; have HO := Lib.hid ho; clear ho
        have cx0 := HO.out.cellT (b := bx) (xs := [.int .i64 G.most, .slice (some ⟨rb, 0, none⟩) G.nodes.length rcap]) (by simp) (i := 0) rfl
        have cx1 := HO.out.cellT (b := bx) (xs := [.int .i64 G.most, .slice (some ⟨rb, 0, none⟩) G.nodes.length rcap]) (by simp) (i := 1) rfl
        go_wp2_with fail
        refine (HRT.out _ _ HO.out (by simp) p).mono ?_
        rintro e W8 ⟨rfl, ho⟩
        rw [HRA.out]
        clear cx0 cx1
        clear HO; have HO := Lib.hid ho; clear ho
        have cx0 := HO.out.cellT (b := bx) (xs := [.int .i64 G.most, .slice (some ⟨rb, 0, none⟩) G.nodes.length rcap]) (by simp) (i := 0) rfl
        have cx1 := HO.out.cellT (b := bx) (xs := [.int .i64 G.most, .slice (some ⟨rb, 0, none⟩) G.nodes.length rcap]) (by simp) (i := 1) rfl
        go_wp2_with fail
        refine (HRT.out _ _ HO.out (by simp) p).mono ?_
        rintro e W9 ⟨rfl, ho⟩
        rw [HRA.out]
        clear cx0 cx1
        clear HO; have HO := Lib.hid ho; clear ho
        have cx0 := HO.out.cellT (b := bx) (xs := [.int .i64 G.most, .slice (some ⟨rb, 0, none⟩) G.nodes.length rcap]) (by simp) (i := 0) rfl
        have cx1 := HO.out.cellT (b := bx) (xs := [.int .i64 G.most, .slice (some ⟨rb, 0, none⟩) G.nodes.length rcap]) (by simp) (i := 1) rfl
        go_wp2_with fail
        refine (HRT.out _ _ HO.out (by simp) q).mono ?_
        rintro e W10 ⟨rfl, ho⟩
        rw [HRB.out]
        clear cx0 cx1
        clear HO; have HO := Lib.hid ho; clear ho
        have hin := HIN.out W10 HO.out.own.ch
        have HIN1 := Lib.hid hin; clear hin
        go_wp2_with fail
        refine HIN1.out.mono ?_
        rintro e W11 ⟨rfl, hc11⟩
        have ho := HO.out.same hc11
        clear HO hc11 HIN1; have HO := Lib.hid ho; clear ho
        have cx0 := HO.out.cellT (b := bx) (xs := [.int .i64 G.most, .slice (some ⟨rb, 0, none⟩) G.nodes.length rcap]) (by simp) (i := 0) rfl
        have cx1 := HO.out.cellT (b := bx) (xs := [.int .i64 G.most, .slice (some ⟨rb, 0, none⟩) G.nodes.length rcap]) (by simp) (i := 1) rfl
        have htr := HTR.out W11 _ HO.out (by simp)
        rw [HXE.out] at htr
        have HTR1 := Lib.hid htr; clear htr
        go_wp2_with fail
        refine HTR1.out.mono ?_
        rintro e W12 ⟨v, rfl, hrow, _, hc12⟩
        obtain ⟨xa, xc, rfl⟩ := row.shape hrow
        have ho := (HO.out.same hc12).add (row.sv hrow rfl (by omega))
        clear HO hc12 HTR1 hrow cx0 cx1; have HO := Lib.hid ho; clear ho
        have hmk := HMK.out
        have hmax := HMAX.out
        go_wp2_with fail
        clear hmk hmax
        refine wp_alw ?_
        intro W13 hW13
        have hbt := alw_blk (xs := u64s (List.replicate C 0)) hW13
        have hc13 := alw_ch hW13
        clear hW13
        generalize htb : W12.heap.size = tb at hbt ⊢
        have htb2 : W12.heap.size ≤ tb := by omega
        clear htb
        have HBT := Lib.hid hbt; clear hbt
        have HC13 := Lib.hid hc13; clear hc13
        go_loopw [136] (fun i wr => ∃ j : Nat, j ≤ xl ∧ i = .int .i64 j ∧ Ch [] W12 wr ∧ blk wr tb (u64s (setBs (List.replicate C 0) (X.take j)))) (fun i _ => xl - (intOf i).toNat)
        case atStart => exact ⟨0, by omega, rfl, HC13.out, HBT.out⟩
        case round =>
          clear HBT HC13
          obtain ⟨j, hj, rfl, hc, hbk⟩ := hrel
          by_cases hlt : j < xl
          · obtain ⟨x, hx⟩ : ∃ x, X[j]? = some x := ⟨_, List.getElem?_eq_getElem (by rw [HXE.out]; exact hlt)⟩
            obtain ⟨hxC, hx9⟩ := HXM.out x (List.mem_of_getElem? hx)
            obtain ⟨b1, o1, rfl, c1⟩ := ((HO.out.same hc).held (xa, refsCells X) (by simp)).cells j (.int .i64 x) (by unfold refsCells; rw [List.getElem?_map, hx]; rfl)
            have hts : setBs (List.replicate C 0) (X.take (j + 1)) = setB (setBs (List.replicate C 0) (X.take j)) x := by rw [List.take_add_one, hx]; exact setBs_snoc _ _ _
            have hsl := setBs_len (List.replicate C 0) (X.take j)
            rw [List.length_replicate] at hsl
            have hst := setBs_lt (T := List.replicate C 0) (fun v hv => by rw [(List.mem_replicate.1 hv).2]; decide) (X.take j)
            generalize setBs (List.replicate C 0) (X.take j) = S at *
            obtain ⟨u, hu⟩ : ∃ u, S[x / 64]? = some u := ⟨_, List.getElem?_eq_getElem (by omega)⟩
            have hub := hst u (List.mem_of_getElem? hu)
            unfold setB at hts
            rw [List.getD_eq_getElem?_getD, hu] at hts
            simp only [Option.getD_some] at hts
            obtain ⟨A64, hA64⟩ : ∃ A64, x / 64 = A64 := ⟨_, rfl⟩
            obtain ⟨R64, hR64⟩ : ∃ R64, x % 64 = R64 := ⟨_, rfl⟩
            rw [hA64] at hu hts hxC
            rw [hR64] at hts
            have eA : (x : Int) / 64 = (A64 : Int) := by omega
            have eR : (x : Int) % 64 = (R64 : Int) := by omega
            have hR6 : R64 < 64 := by omega
            have c2 := hbk.cell (i := A64) (v := .int .u64 u) (by unfold u64s; rw [List.getElem?_map, hu]; rfl)
            have f2 := hbk.frozen (i := A64)
            have HBK := Lib.hid hbk; clear hbk
            have HTS := Lib.hid hts; clear hts
            have HC := Lib.hid hc; clear hc hx hst hsl hu hA64 hR64
            go_wp2_with fail
            refine Ord.St.door (fun _ => True) [.fl, .fl, .fl, .fl, .rd, .fl, .fl, .fl, .fl, .fl, .ef] [0, 0, 2, 7, 15, 0, 32, 96, 255, 511, 1023] [0, 1, 2, 3, 4, 5, 6, 7, 8, 9, 10] mixed (by kernel_rfl) rfl ?_
            refine Ord.St.fl2 (T' := ?_) 0 [1, 2, 3, 4, 5, 6, 7, 8, 9, 10] _ _ rfl (by kernel_rfl) rfl rfl rfl rfl (fun K w' hk => ?_) ?_
            rotate_left
            · go_step; exact hk
            refine Ord.St.fl2 (T' := ?_) 1 [2, 3, 4, 5, 6, 7, 8, 9, 10] _ _ rfl (by kernel_rfl) rfl rfl rfl rfl (fun K w' hk => ?_) ?_
            rotate_left
            · go_step; exact hk
            refine Ord.St.fl2 (T' := ?_) 2 [3, 4, 5, 6, 7, 8, 9, 10] _ _ rfl (by kernel_rfl) rfl rfl rfl rfl (fun K w' hk => ?_) ?_
            rotate_left
            · go_step; exact hk
            refine Ord.St.fl2 (T' := ?_) 3 [4, 5, 6, 7, 8, 9, 10] _ _ rfl (by kernel_rfl) rfl rfl rfl rfl (fun K w' hk => ?_) ?_
            rotate_left
            · go_step; exact hk
            refine Ord.St.rd2 (T' := ?_) 4 [5, 6, 7, 8, 9, 10] _ _ rfl (by kernel_rfl) rfl rfl rfl rfl (fun K hk => ?_) ?_
            rotate_left
            · go_step; exact hk
            refine Ord.St.fl2 (T' := ?_) 5 [6, 7, 8, 9, 10] _ _ rfl (by kernel_rfl) rfl rfl rfl rfl (fun K w' hk => ?_) ?_
            rotate_left
            · go_step; exact hk
            refine Ord.St.fl2 (T' := ?_) 6 [7, 8, 9, 10] _ _ rfl (by kernel_rfl) rfl rfl rfl rfl (fun K w' hk => ?_) ?_
            rotate_left
            · go_step; exact hk
            refine Ord.St.fl2 (T' := ?_) 7 [8, 9, 10] _ _ rfl (by kernel_rfl) rfl rfl rfl rfl (fun K w' hk => ?_) ?_
            rotate_left
            · go_step; exact hk
            refine Ord.St.fl2 (T' := ?_) 8 [9, 10] _ _ rfl (by kernel_rfl) rfl rfl rfl rfl (fun K w' hk => ?_) ?_
            rotate_left
            · go_step; exact hk
            refine Ord.St.fl2 (T' := ?_) 9 [10] _ _ rfl (by kernel_rfl) rfl rfl rfl rfl (fun K w' hk => ?_) ?_
            rotate_left
            · go_step; exact hk
            refine Ord.St.ef 10 [] _ rfl (by kernel_rfl) (fun K hK => ?_)
            go_wp2_with fail
            refine ⟨rfl, hK _ _ ?_⟩; clear hK K
            refine Ord.St.nil ?_
            have hor := bits_or_u64_pow u R64 (by omega) hR6
            rw [hor]
            clear hor c1 c2 f2 eA eR
            go_wp2_with fail
            go_roundw
            case rel =>
              refine ⟨j + 1, by omega, by go_num, (HC.out.setCell (.inr htb2) _).drew, ?_⟩
              rw [HTS.out, show u64s (S.set A64 (u ||| 2 ^ R64)) = (u64s S).set A64 (.int .u64 (u ||| 2 ^ R64 : Nat)) by unfold u64s; rw [List.map_set]]
              exact (HBK.out.set _).ch ((Ch.refl [] _).drew) (by simp)
            case measure => simp [intOf]; omega
          · have hjx : j = xl := by omega
            rw [hjx, List.take_of_length_le (by rw [HXE.out]; omega), HTAB.out] at hbk
            have ho := (HO.out.same hc).blk hbk (by rw [show (u64s T).length = T.length by simp [u64s], HTL.out]; omega)
            clear HO hc hbk htb2 hjx
            have HO := Lib.hid ho; clear ho
            have exl : ((xl : Int) != (xl : Int)) = false := by simp
            by_cases hx0 : xl = 0
            · have hfb := HF0.out (List.eq_nil_of_length_eq_zero (by rw [HXE.out]; exact hx0))
              cases hfb
              have hfl0 := HFLE.out
              simp at hfl0
              subst hfl0
              subst hx0
              have egt : decide (((0 : Nat) : Int) > 0) = false := by decide
              go_wp2_with fail
              refine (EQu64_h HO.out (a := a1) (b := some ⟨tb, 0, none⟩) (xs := T) (ys := T) (ca := s1) (cb := C) (by simp) (HO.out.held (some ⟨tb, 0, none⟩, u64s T) (by simp)) HTL.out HTL.out (decide_eq_true rfl)).mono ?_
              rintro e W14 ⟨rfl, ho⟩
              clear HO; have HO := Lib.hid ho; clear ho
              have hsm := same21_no (w := W14) k s2 a2 (-1) (by omega)
              have HSM := Lib.hid hsm; clear hsm
              go_wp2_with fail
              refine HSM.out.mono ?_
              rintro e W15 ⟨rfl, hc15⟩
              have ho := HO.out.same hc15
              clear HO hc15 HSM; have HO := Lib.hid ho; clear ho
              have cx0 := HO.out.cellT (b := bx) (xs := [.int .i64 G.most, .slice (some ⟨rb, 0, none⟩) G.nodes.length rcap]) (by simp) (i := 0) rfl
              have cx1 := HO.out.cellT (b := bx) (xs := [.int .i64 G.most, .slice (some ⟨rb, 0, none⟩) G.nodes.length rcap]) (by simp) (i := 1) rfl
              have htp := HTPQ.out W15 _ HO.out (by simp)
              rcases HPA.out with ⟨m1, m2⟩ | ⟨y0, m1, m2, m3⟩
              · rw [m1] at htp
                cases m2
                have hpl0 := HPFL.out
                simp at hpl0
                subst hpl0
                have HTP1 := Lib.hid htp; clear htp m1
                go_wp2_with fail
                refine HTP1.out.mono ?_
                rintro e W16 ⟨rfl, hc16⟩
                have ho := HO.out.same hc16
                clear HO hc16 HTP1 cx0 cx1; have HO := Lib.hid ho; clear ho
                have hsm := same21_no (w := W16) k s3 a3 (-1) (by omega)
                have HSM := Lib.hid hsm; clear hsm
                go_wp2_with fail
                refine HSM.out.mono ?_
                rintro e W17 ⟨rfl, hc17⟩
                go_wp2_with fail
                go_ret
                exact ⟨rfl, HO.out.own.ch.trans hc17 (by simp)⟩
              · rw [m1] at htp
                cases m2
                have hpl0 := HPFL.out
                rw [asgBits_len] at hpl0
                subst hpl0
                have HTP1 := Lib.hid htp; clear htp m1
                go_wp2_with fail
                refine HTP1.out.mono ?_
                rintro e W16 ⟨rfl, hc16⟩
                have ho := HO.out.same hc16
                clear HO hc16 HTP1 cx0 cx1; have HO := Lib.hid ho; clear ho
                have hsm := same21_yes (w := W16) k s3 y0 (by omega) (by have : (2 : Nat) ^ k ≤ 512 := Nat.pow_le_pow_right (n := 2) (by omega) hk9; omega) (a := a3) (HO.out.held (a3, bools (asgBits k y0)) (by simp))
                have HSM := Lib.hid hsm; clear hsm
                go_wp2_with fail
                refine HSM.out.mono ?_
                rintro e W17 ⟨rfl, hc17⟩
                go_wp2_with fail
                go_ret
                exact ⟨rfl, HO.out.own.ch.trans hc17 (by simp)⟩
            · obtain ⟨x0, hx0v⟩ : ∃ x0, X[0]? = some x0 := ⟨_, List.getElem?_eq_getElem (by rw [HXE.out]; omega)⟩
              obtain ⟨hfb, hx0l⟩ := HF1.out x0 hx0v
              cases hfb
              have hfl0 := HFLE.out
              rw [asgBits_len] at hfl0
              subst hfl0
              have hx0b : x0 ≤ 512 := by have := (HXM.out x0 (List.mem_of_getElem? hx0v)).2; omega
              obtain ⟨xb, xo, rfl, cX⟩ := (HO.out.held (xa, refsCells X) (by simp)).cells 0 (.int .i64 x0) (by unfold refsCells; rw [List.getElem?_map, hx0v]; rfl)
              rw [Nat.add_zero] at cX
              have egt : decide ((xl : Int) > 0) = true := decide_eq_true (by omega)
              clear hx0l hx0v
              go_wp2_with fail
              refine (EQu64_h HO.out (a := a1) (b := some ⟨tb, 0, none⟩) (xs := T) (ys := T) (ca := s1) (cb := C) (by simp) (HO.out.held (some ⟨tb, 0, none⟩, u64s T) (by simp)) HTL.out HTL.out (decide_eq_true rfl)).mono ?_
              rintro e W14 ⟨rfl, ho⟩
              clear HO; have HO := Lib.hid ho; clear ho
              have hsm := same21_yes (w := W14) k s2 x0 (by omega) (by omega) (a := a2) (HO.out.held (a2, bools (asgBits k x0)) (by simp))
              have HSM := Lib.hid hsm; clear hsm
              go_wp2_with fail
              refine HSM.out.mono ?_
              rintro e W15 ⟨rfl, hc15⟩
              have ho := HO.out.same hc15
              clear HO hc15 HSM; have HO := Lib.hid ho; clear ho
              have cx0 := HO.out.cellT (b := bx) (xs := [.int .i64 G.most, .slice (some ⟨rb, 0, none⟩) G.nodes.length rcap]) (by simp) (i := 0) rfl
              have cx1 := HO.out.cellT (b := bx) (xs := [.int .i64 G.most, .slice (some ⟨rb, 0, none⟩) G.nodes.length rcap]) (by simp) (i := 1) rfl
              have htp := HTPQ.out W15 _ HO.out (by simp)
              rcases HPA.out with ⟨m1, m2⟩ | ⟨y0, m1, m2, m3⟩
              · rw [m1] at htp
                cases m2
                have hpl0 := HPFL.out
                simp at hpl0
                subst hpl0
                have HTP1 := Lib.hid htp; clear htp m1
                go_wp2_with fail
                refine HTP1.out.mono ?_
                rintro e W16 ⟨rfl, hc16⟩
                have ho := HO.out.same hc16
                clear HO hc16 HTP1 cx0 cx1; have HO := Lib.hid ho; clear ho
                have hsm := same21_no (w := W16) k s3 a3 (-1) (by omega)
                have HSM := Lib.hid hsm; clear hsm
                go_wp2_with fail
                refine HSM.out.mono ?_
                rintro e W17 ⟨rfl, hc17⟩
                go_wp2_with fail
                go_ret
                exact ⟨rfl, HO.out.own.ch.trans hc17 (by simp)⟩
              · rw [m1] at htp
                cases m2
                have hpl0 := HPFL.out
                rw [asgBits_len] at hpl0
                subst hpl0
                have HTP1 := Lib.hid htp; clear htp m1
                go_wp2_with fail
                refine HTP1.out.mono ?_
                rintro e W16 ⟨rfl, hc16⟩
                have ho := HO.out.same hc16
                clear HO hc16 HTP1 cx0 cx1; have HO := Lib.hid ho; clear ho
                have hsm := same21_yes (w := W16) k s3 y0 (by omega) (by have : (2 : Nat) ^ k ≤ 512 := Nat.pow_le_pow_right (n := 2) (by omega) hk9; omega) (a := a3) (HO.out.held (a3, bools (asgBits k y0)) (by simp))
                have HSM := Lib.hid hsm; clear hsm
                go_wp2_with fail
                refine HSM.out.mono ?_
                rintro e W17 ⟨rfl, hc17⟩
                go_wp2_with fail
                go_ret
                exact ⟨rfl, HO.out.own.ch.trans hc17 (by simp)⟩
end
end Go.Proofs.Ytnmfdiiehkkjcaa
namespace Go.Proofs.Ytnmfdiiehkkjcaa
open Go.RowKit Go.Mem Go.Aig
set_option maxRecDepth 100000 in
set_option maxHeartbeats 4000000 in
theorem SimTables_walk {w : World} {a : Option Addr} {n ncap : Nat} {l : List N21} (hS : NodeS w a n ncap l) (A : Int) (hA0 : (Lit.int .i64 A).wf = true) (B : Int) (hB0 : (Lit.int .i64 B).wf = true) :
    Calls Try.prog 3 #[.slice a n ncap, .int .i64 A, .int .i64 B] w fun e w' => e = .returned (.bool true) ∧ Ch [] w w' := by
  have hA := wf_i64 hA0
  have hB := wf_i64 hB0
  have hlen := hS.len
  have hle := hS.le
  have hmx := hS.max
  have hcl : cntI l ≤ n := by
    have := List.length_filter_le (fun x : N21 => x.inp) l
    unfold cntI
    omega
  have hIN := inputs21_any hS
  have hT := fun (W : World) (hW : Ch [] w W) (hn : n ≤ 61) (hk : cntI l ≤ 9 ∨ 17 ≤ cntI l) => tables21_is (hS.ch hW) hn hk A B hA hB
  have HIN := Lib.hid hIN; clear hIN
  have HT := Lib.hid hT; clear hT
  obtain ⟨k, hk⟩ : ∃ k, cntI l = k := ⟨_, rfl⟩
  rw [hk] at hcl HIN
  simp only [hk] at HT
  clear hS hlen hk hA0 hB0
  go_enter Try.func3, Try.ntmps3
  go_wp2_with fail
  refine HIN.out.mono ?_
  rintro e w1 ⟨rfl, hc1⟩
  have HC1 := Lib.hid hc1; clear hc1 HIN
  by_cases h40 : n ≤ 40
  · have d1 : decide ((n : Int) > 40) = false := decide_eq_false (by omega)
    by_cases h9 : k ≤ 9
    · have d2 : decide ((k : Int) > 9) = false := decide_eq_false (by omega)
      have ht := HT.out w1 HC1.out (by omega) (.inl h9)
      have HT1 := Lib.hid ht; clear ht HT
      go_wp2_with fail
      refine HT1.out.mono ?_
      rintro e w2 ⟨rfl, hc2⟩
      have HC2 := Lib.hid (HC1.out.trans hc2 (by simp)); clear hc2
      go_wp2_with fail
      refine (awake21_is w2).mono ?_
      rintro e w3 ⟨rfl, hc3⟩
      go_wp2_with fail
      go_ret
      exact ⟨rfl, HC2.out.trans hc3 (by simp)⟩
    · have d2 : decide ((k : Int) > 9) = true := decide_eq_true (by omega)
      by_cases h17 : k < 17
      · have d3 : decide ((k : Int) < 17) = true := decide_eq_true (by omega)
        go_wp2_with fail
        refine (awake21_is w1).mono ?_
        rintro e w3 ⟨rfl, hc3⟩
        go_wp2_with fail
        go_ret
        exact ⟨rfl, HC1.out.trans hc3 (by simp)⟩
      · have d3 : decide ((k : Int) < 17) = false := decide_eq_false (by omega)
        have ht := HT.out w1 HC1.out (by omega) (.inr (by omega))
        have HT1 := Lib.hid ht; clear ht HT
        go_wp2_with fail
        refine HT1.out.mono ?_
        rintro e w2 ⟨rfl, hc2⟩
        have HC2 := Lib.hid (HC1.out.trans hc2 (by simp)); clear hc2
        go_wp2_with fail
        refine (awake21_is w2).mono ?_
        rintro e w3 ⟨rfl, hc3⟩
        go_wp2_with fail
        go_ret
        exact ⟨rfl, HC2.out.trans hc3 (by simp)⟩
  · have d1 : decide ((n : Int) > 40) = true := decide_eq_true (by omega)
    go_wp2_with fail
    refine (awake21_is w1).mono ?_
    rintro e w3 ⟨rfl, hc3⟩
    go_wp2_with fail
    go_ret
    exact ⟨rfl, HC1.out.trans hc3 (by simp)⟩
end Go.Proofs.Ytnmfdiiehkkjcaa
