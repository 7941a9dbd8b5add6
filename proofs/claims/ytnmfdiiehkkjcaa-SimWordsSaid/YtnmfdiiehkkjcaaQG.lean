/-
  Walk over tables of chapter 21's laws: true. Conditions: a slice of at most 61 nodes of any integers, of which at most 9 are inputs, or more than 16; any integers.
  Walk over columns of chapter 21's laws: true. Conditions: a graph of the reference that can be read; the words of its nodes and of references.
  Walk over words of chapter 21's laws: true. Conditions: a slice of at most 61 nodes of any integers, at most 70 words, at most 20 references of any integers.
  Walk over SimWords: true, whatever comes in. Conditions: nodes of any integers, any words, any integers.
-/
import Derived.Test.YtnmfdiiehkkjcaaQF
namespace Go.Proofs.Ytnmfdiiehkkjcaa
open Go.RowKit Go.Mem Go.Aig
section
variable {w : World}
theorem HS.cellT {w0 w : World} {g : Nat} {G : Gra} {F : List Nat} {L : List (Option Addr × List Value)} (h : HS w0 w g G F L) {b : Nat} {xs : List Value} (hm : (some ⟨b, 0, none⟩, xs) ∈ L) {i : Nat} {x : Value} (hx : xs[i]? = some x) : w.cell? ⟨b, i, none⟩ = some x := by
  obtain ⟨b1, o1, e, hc⟩ := (h.held _ hm).cells i x hx
  cases e
  rwa [Nat.zero_add] at hc
theorem HS.slT {w0 w : World} {g : Nat} {G : Gra} {F : List Nat} {L : List (Option Addr × List Value)} (h : HS w0 w g G F L) {a : Option Addr} {l : List Nat} (hm : (a, refsCells l) ∈ L) : Sl w a (natInts l) := by
  have hs := h.held _ hm
  refine ⟨fun i x hx => hs.cells i _ ?_, by have := hs.bd; simpa [natInts, refsCells] using this⟩
  unfold natInts at hx
  unfold refsCells
  rw [List.getElem?_map] at hx ⊢
  cases h1 : l[i]? with
  | none => rw [h1] at hx; cases hx
  | some r => rw [h1] at hx; simp at hx; subst hx; rfl
theorem tabE_big {G : Gra} {l : List Int} (h : badIn G l = false) (hk : 16 < (inputs G.nodes).length) : tabE G l = 211 := by unfold tabE; rw [h, if_neg (by simp), if_pos hk]
theorem tabE_bad {G : Gra} {l : List Int} (h : badIn G l = true) : tabE G l = 200 := by unfold tabE; rw [h]; rfl
set_option maxRecDepth 100000 in
set_option maxHeartbeats 8000000 in
theorem tables21_is {a : Option Addr} {n ncap : Nat} {l : List N21} (hS : NodeS w a n ncap l) (hn : n ≤ 61) (hk : cntI l ≤ 9 ∨ 17 ≤ cntI l) (A B : Int) (hA : -9223372036854775808 ≤ A ∧ A ≤ 9223372036854775807) (hB : -9223372036854775808 ≤ B ∧ B ≤ 9223372036854775807) :
    Calls Try.prog 15 #[.slice a n ncap, .int .i64 A, .int .i64 B] w fun e w' => e = .returned (.bool true) ∧ Ch [] w w' := by
  have hBU := build21_is hS hn
  have hIN := fun (W : World) (hW : Ch [] w W) => inputs21_is (hS.ch hW) (by omega)
  have HBU := Lib.hid hBU; clear hBU
  have HIN := Lib.hid hIN; clear hIN hS
  go_enter Try.func15, Try.ntmps15
  go_wp2_with fail
  refine HBU.out.mono ?_
  rintro e w1 ⟨g, F, rb, rcap, G, rfl, hb, hm, hnl, hil⟩
  have HBO := Lib.hid hb; clear hb HBU
  have HM := Lib.hid hm; clear hm
  have HIL0 := Lib.hid hil; clear hil
  go_upto_region 2 with fail
  refine wp_named fun W2 hW2 => ?_
  have hb2 := alw_blk (xs := [.int .i64 G.most, .slice (some ⟨rb, 0, none⟩) G.nodes.length rcap]) hW2
  have hb := HBO.out.same (alw_ch hW2)
  have ho : HS w W2 g G F [(some ⟨w1.heap.size, 0, none⟩, [.int .i64 G.most, .slice (some ⟨rb, 0, none⟩) G.nodes.length rcap]), (some ⟨rb, 0, none⟩, rCells G.nodes)] := (((⟨⟨hb.gin, hb.own, hb.ch⟩, by simp⟩ : HS w W2 g G F []).add hb.rg.sv).blk hb2 (by simp))
  have hle := hb.rg.le
  have hmx := hb.rg.mx
  have hok := hb.rg.ok
  have hpos := hok.wf.pos
  clear hW2 hb2 hb HBO
  generalize w1.heap.size = bx at ho ⊢
  have HO := Lib.hid ho; clear ho
  have HOK := Lib.hid hok; clear hok
  have hil := HIL0.out
  clear HIL0
  obtain ⟨k, hkk⟩ : ∃ k, cntI l = k := ⟨_, rfl⟩
  simp only [hkk] at HIN
  rw [hkk] at hil hk
  clear hkk
  have HIL := Lib.hid hil; clear hil
  have hRT : ∀ (W : World) (L : List (Option Addr × List Value)) (_ : HS w W g G F L) (_ : (some ⟨rb, 0, none⟩, rCells G.nodes) ∈ L) (r : Int), Calls Try.prog 73 #[.agg #[.int .i64 G.most, .slice (some ⟨rb, 0, none⟩) G.nodes.length rcap], .int .i64 r] W fun e w' => e = .returned (.bool (right G.nodes r)) ∧ HS w w' g G F L := fun W L hh hmem r => (rRight_is (RG.held (hh.held _ hmem) hle hmx HOK.out) r).mono fun e w' ⟨h1, h2⟩ => ⟨h1, hh.same h2⟩
  have HRT := Lib.hid hRT; clear hRT
  cases hrA : right G.nodes A
  · have hbad1 : badIn G [A] = true := by simp [badIn, hrA]
    have hbad2 : badIn G [A, B] = true := by simp [badIn, hrA]
    have r1 : tableR G A = ([], 200) := by unfold tableR; rw [tabE_bad hbad1]; rfl
    have R1 := Lib.hid r1; clear r1
    have r2 : countR G A = (0, 200) := by unfold countR; rw [tabE_bad hbad1]; rfl
    have R2 := Lib.hid r2; clear r2
    have r3 : firstG G A = (([], false), 200) := by unfold firstG; rw [tabE_bad hbad1]; rfl
    have R3 := Lib.hid r3; clear r3
    have r4 : partsG G A B = (([], false), 200) := by unfold partsG; rw [tabE_bad hbad2]; rfl
    have R4 := Lib.hid r4; clear r4
    have HRA := Lib.hid hrA; clear hrA hbad1 hbad2
    go_wp2_with fail
    (with_reducible refine (simTable_h HO.out A hA R1.out (k := 0) rfl (by omega)).mono ?_)
    rintro e W3 ⟨a1, s1, rfl, ho⟩
    clear HO; have HO := Lib.hid ho; clear ho
    go_wp2_with fail
    refine (simCount_h HO.out A hA R2.out).mono ?_
    rintro e W4 ⟨rfl, ho⟩
    clear HO; have HO := Lib.hid ho; clear ho
    go_wp2_with fail
    refine (simFirst_h HO.out A hA R3.out (k := 0) rfl (by omega)).mono ?_
    rintro e W5 ⟨a2, s2, rfl, ho⟩
    clear HO; have HO := Lib.hid ho; clear ho
    go_wp2_with fail
    refine (simParts_h HO.out A B hA hB R4.out (k := 0) rfl (by omega)).mono ?_
    rintro e W6 ⟨a3, s3, rfl, ho⟩
    clear HO; have HO := Lib.hid ho; clear ho
    have hin := HIN.out W6 HO.out.own.ch
    have HIN1 := Lib.hid hin; clear hin
    go_wp2_with fail
    refine HIN1.out.mono ?_
    rintro e W7 ⟨rfl, hc7⟩
    have ho := HO.out.same hc7
    clear HO hc7 HIN1; have HO := Lib.hid ho; clear ho
    by_cases hbig : 16 < k
    · have e16 : decide ((k : Int) > 16) = true := decide_eq_true (by omega)
      have cx0 := HO.out.cellT (b := bx) (xs := [.int .i64 G.most, .slice (some ⟨rb, 0, none⟩) G.nodes.length rcap]) (by simp) (i := 0) rfl
      have cx1 := HO.out.cellT (b := bx) (xs := [.int .i64 G.most, .slice (some ⟨rb, 0, none⟩) G.nodes.length rcap]) (by simp) (i := 1) rfl
      go_wp2_with fail
      refine (HRT.out _ _ HO.out (by simp) A).mono ?_
      rintro e W8 ⟨rfl, ho⟩
      rw [HRA.out]
      clear cx0 cx1
      clear HO; have HO := Lib.hid ho; clear ho
      have cx0 := HO.out.cellT (b := bx) (xs := [.int .i64 G.most, .slice (some ⟨rb, 0, none⟩) G.nodes.length rcap]) (by simp) (i := 0) rfl
      have cx1 := HO.out.cellT (b := bx) (xs := [.int .i64 G.most, .slice (some ⟨rb, 0, none⟩) G.nodes.length rcap]) (by simp) (i := 1) rfl
      go_wp2_with fail
      refine (HRT.out _ _ HO.out (by simp) A).mono ?_
      rintro e W9 ⟨rfl, ho⟩
      rw [HRA.out]
      clear cx0 cx1
      clear HO; have HO := Lib.hid ho; clear ho
      go_wp2_with fail
      go_ret
      exact ⟨rfl, HO.out.own.ch⟩
    · have e16 : decide ((k : Int) > 16) = false := decide_eq_false (by omega)
      have cx0 := HO.out.cellT (b := bx) (xs := [.int .i64 G.most, .slice (some ⟨rb, 0, none⟩) G.nodes.length rcap]) (by simp) (i := 0) rfl
      have cx1 := HO.out.cellT (b := bx) (xs := [.int .i64 G.most, .slice (some ⟨rb, 0, none⟩) G.nodes.length rcap]) (by simp) (i := 1) rfl
      go_wp2_with fail
      refine (HRT.out _ _ HO.out (by simp) A).mono ?_
      rintro e W8 ⟨rfl, ho⟩
      rw [HRA.out]
      clear cx0 cx1
      clear HO; have HO := Lib.hid ho; clear ho
      have cx0 := HO.out.cellT (b := bx) (xs := [.int .i64 G.most, .slice (some ⟨rb, 0, none⟩) G.nodes.length rcap]) (by simp) (i := 0) rfl
      have cx1 := HO.out.cellT (b := bx) (xs := [.int .i64 G.most, .slice (some ⟨rb, 0, none⟩) G.nodes.length rcap]) (by simp) (i := 1) rfl
      go_wp2_with fail
      refine (HRT.out _ _ HO.out (by simp) A).mono ?_
      rintro e W9 ⟨rfl, ho⟩
      rw [HRA.out]
      clear cx0 cx1
      clear HO; have HO := Lib.hid ho; clear ho
      go_wp2_with fail
      go_ret
      exact ⟨rfl, HO.out.own.ch⟩
  · have hAn : ∃ p : Nat, A = p ∧ p < 2 * G.nodes.length := by
      unfold right at hrA
      have := of_decide_eq_true hrA
      exact ⟨A.toNat, by omega, by omega⟩
    have hbad1 : badIn G [A] = false := by simp [badIn, hrA]
    by_cases hbig : 16 < k
    · have hkb : 16 < (inputs G.nodes).length := by rw [HIL.out]; exact hbig
      have r1 : tableR G A = ([], 211) := by unfold tableR; rw [tabE_big hbad1 hkb]; rfl
      have R1 := Lib.hid r1; clear r1
      have r2 : countR G A = (0, 211) := by unfold countR; rw [tabE_big hbad1 hkb]; rfl
      have R2 := Lib.hid r2; clear r2
      have r3 : firstG G A = (([], false), 211) := by unfold firstG; rw [tabE_big hbad1 hkb]; rfl
      have R3 := Lib.hid r3; clear r3
      have e16 : decide ((k : Int) > 16) = true := decide_eq_true (by omega)
      cases hrB : right G.nodes B
      · have r4 : partsG G A B = (([], false), 200) := by unfold partsG; rw [tabE_bad (by simp [badIn, hrA, hrB])]; rfl
        have R4 := Lib.hid r4; clear r4
        have HRA := Lib.hid hrA; clear hrA hbad1 hAn hkb
        have HRB := Lib.hid hrB; clear hrB
        go_wp2_with fail
        (with_reducible refine (simTable_h HO.out A hA R1.out (k := 0) rfl (by omega)).mono ?_)
        rintro e W3 ⟨a1, s1, rfl, ho⟩
        clear HO; have HO := Lib.hid ho; clear ho
        go_wp2_with fail
        refine (simCount_h HO.out A hA R2.out).mono ?_
        rintro e W4 ⟨rfl, ho⟩
        clear HO; have HO := Lib.hid ho; clear ho
        go_wp2_with fail
        refine (simFirst_h HO.out A hA R3.out (k := 0) rfl (by omega)).mono ?_
        rintro e W5 ⟨a2, s2, rfl, ho⟩
        clear HO; have HO := Lib.hid ho; clear ho
        go_wp2_with fail
        refine (simParts_h HO.out A B hA hB R4.out (k := 0) rfl (by omega)).mono ?_
        rintro e W6 ⟨a3, s3, rfl, ho⟩
        clear HO; have HO := Lib.hid ho; clear ho
        have hin := HIN.out W6 HO.out.own.ch
        have HIN1 := Lib.hid hin; clear hin
        go_wp2_with fail
        refine HIN1.out.mono ?_
        rintro e W7 ⟨rfl, hc7⟩
        have ho := HO.out.same hc7
        clear HO hc7 HIN1; have HO := Lib.hid ho; clear ho
        have cx0 := HO.out.cellT (b := bx) (xs := [.int .i64 G.most, .slice (some ⟨rb, 0, none⟩) G.nodes.length rcap]) (by simp) (i := 0) rfl
        have cx1 := HO.out.cellT (b := bx) (xs := [.int .i64 G.most, .slice (some ⟨rb, 0, none⟩) G.nodes.length rcap]) (by simp) (i := 1) rfl
        go_wp2_with fail
        refine (HRT.out _ _ HO.out (by simp) A).mono ?_
        rintro e W8 ⟨rfl, ho⟩
        rw [HRA.out]
        clear cx0 cx1
        clear HO; have HO := Lib.hid ho; clear ho
        have cx0 := HO.out.cellT (b := bx) (xs := [.int .i64 G.most, .slice (some ⟨rb, 0, none⟩) G.nodes.length rcap]) (by simp) (i := 0) rfl
        have cx1 := HO.out.cellT (b := bx) (xs := [.int .i64 G.most, .slice (some ⟨rb, 0, none⟩) G.nodes.length rcap]) (by simp) (i := 1) rfl
        go_wp2_with fail
        refine (HRT.out _ _ HO.out (by simp) A).mono ?_
        rintro e W9 ⟨rfl, ho⟩
        rw [HRA.out]
        clear cx0 cx1
        clear HO; have HO := Lib.hid ho; clear ho
        have cx0 := HO.out.cellT (b := bx) (xs := [.int .i64 G.most, .slice (some ⟨rb, 0, none⟩) G.nodes.length rcap]) (by simp) (i := 0) rfl
        have cx1 := HO.out.cellT (b := bx) (xs := [.int .i64 G.most, .slice (some ⟨rb, 0, none⟩) G.nodes.length rcap]) (by simp) (i := 1) rfl
        go_wp2_with fail
        refine (HRT.out _ _ HO.out (by simp) B).mono ?_
        rintro e W10 ⟨rfl, ho⟩
        rw [HRB.out]
        clear cx0 cx1
        clear HO; have HO := Lib.hid ho; clear ho
        go_wp2_with fail
        go_ret
        exact ⟨rfl, HO.out.own.ch⟩
      · have r4 : partsG G A B = (([], false), 211) := by unfold partsG; rw [tabE_big (by simp [badIn, hrA, hrB]) hkb]; rfl
        have R4 := Lib.hid r4; clear r4
        have HRA := Lib.hid hrA; clear hrA hbad1 hAn hkb
        have HRB := Lib.hid hrB; clear hrB
        go_wp2_with fail
        (with_reducible refine (simTable_h HO.out A hA R1.out (k := 0) rfl (by omega)).mono ?_)
        rintro e W3 ⟨a1, s1, rfl, ho⟩
        clear HO; have HO := Lib.hid ho; clear ho
        go_wp2_with fail
        refine (simCount_h HO.out A hA R2.out).mono ?_
        rintro e W4 ⟨rfl, ho⟩
        clear HO; have HO := Lib.hid ho; clear ho
        go_wp2_with fail
        refine (simFirst_h HO.out A hA R3.out (k := 0) rfl (by omega)).mono ?_
        rintro e W5 ⟨a2, s2, rfl, ho⟩
        clear HO; have HO := Lib.hid ho; clear ho
        go_wp2_with fail
        refine (simParts_h HO.out A B hA hB R4.out (k := 0) rfl (by omega)).mono ?_
        rintro e W6 ⟨a3, s3, rfl, ho⟩
        clear HO; have HO := Lib.hid ho; clear ho
        have hin := HIN.out W6 HO.out.own.ch
        have HIN1 := Lib.hid hin; clear hin
        go_wp2_with fail
        refine HIN1.out.mono ?_
        rintro e W7 ⟨rfl, hc7⟩
        have ho := HO.out.same hc7
        clear HO hc7 HIN1; have HO := Lib.hid ho; clear ho
        have cx0 := HO.out.cellT (b := bx) (xs := [.int .i64 G.most, .slice (some ⟨rb, 0, none⟩) G.nodes.length rcap]) (by simp) (i := 0) rfl
        have cx1 := HO.out.cellT (b := bx) (xs := [.int .i64 G.most, .slice (some ⟨rb, 0, none⟩) G.nodes.length rcap]) (by simp) (i := 1) rfl
        go_wp2_with fail
        refine (HRT.out _ _ HO.out (by simp) A).mono ?_
        rintro e W8 ⟨rfl, ho⟩
        rw [HRA.out]
        clear cx0 cx1
        clear HO; have HO := Lib.hid ho; clear ho
        have cx0 := HO.out.cellT (b := bx) (xs := [.int .i64 G.most, .slice (some ⟨rb, 0, none⟩) G.nodes.length rcap]) (by simp) (i := 0) rfl
        have cx1 := HO.out.cellT (b := bx) (xs := [.int .i64 G.most, .slice (some ⟨rb, 0, none⟩) G.nodes.length rcap]) (by simp) (i := 1) rfl
        go_wp2_with fail
        refine (HRT.out _ _ HO.out (by simp) A).mono ?_
        rintro e W9 ⟨rfl, ho⟩
        rw [HRA.out]
        clear cx0 cx1
        clear HO; have HO := Lib.hid ho; clear ho
        have cx0 := HO.out.cellT (b := bx) (xs := [.int .i64 G.most, .slice (some ⟨rb, 0, none⟩) G.nodes.length rcap]) (by simp) (i := 0) rfl
        have cx1 := HO.out.cellT (b := bx) (xs := [.int .i64 G.most, .slice (some ⟨rb, 0, none⟩) G.nodes.length rcap]) (by simp) (i := 1) rfl
        go_wp2_with fail
        refine (HRT.out _ _ HO.out (by simp) B).mono ?_
        rintro e W10 ⟨rfl, ho⟩
        rw [HRB.out]
        clear cx0 cx1
        clear HO; have HO := Lib.hid ho; clear ho
        go_wp2_with fail
        go_ret
        exact ⟨rfl, HO.out.own.ch⟩
    · have hk9 : k ≤ 9 := by omega
      have e16 : decide ((k : Int) > 16) = false := decide_eq_false (by omega)
      obtain ⟨p, hAp, hpl⟩ := hAn
      subst hAp
      have r1 := table_ok hpl HIL.out (by omega)
      have r2 := count_ok hpl HIL.out (by omega)
      have r3 := first_ok hpl HIL.out (by omega)
      have hTo : TabOf (tabW G.nodes (oneF p) k) k (tellR G.nodes k p) := tabW_of G.nodes p k
      have hTb := tabW_lt G.nodes (oneF p) k
      have htl : (tabW G.nodes (oneF p) k).length = 2 ^ (k - 6) := tab_len _ _ _
      have htab := table_of hTo hTb
      have hcv : countV k (tellR G.nodes k p) = (trueL k (tellR G.nodes k p)).length := rfl
      have hfl := firstR_len k (tellR G.nodes k p)
      have hTR : ∀ (W : World) (L : List (Option Addr × List Value)) (_ : HS w W g G F L) (_ : (some ⟨rb, 0, none⟩, rCells G.nodes) ∈ L), _ := fun W L hh hmem => r21True_is (RG.held (hh.held _ hmem) hle hmx HOK.out) HIL.out (by omega) p hpl
      have HTR := Lib.hid hTR; clear hTR
      obtain ⟨C, hC⟩ : ∃ C, 2 ^ (k - 6) = C := ⟨_, rfl⟩
      have hC8 : C ≤ 8 := by
        have : (2 : Nat) ^ (k - 6) ≤ 2 ^ 3 := Nat.pow_le_pow_right (by omega) (by omega)
        omega
      have hD9 : (2 : Nat) ^ k ≤ 512 := Nat.pow_le_pow_right (n := 2) (by omega) hk9
      have hble := blocks_le k
      rw [hC] at htl htab hble
      have hxl := filter_len_le (tellR G.nodes k p) (2 ^ k)
      change (trueL k (tellR G.nodes k p)).length ≤ 2 ^ k at hxl
      have hxm : ∀ x ∈ trueL k (tellR G.nodes k p), x / 64 < C ∧ x < 512 := fun x hx => by
        have := List.mem_range.1 (List.mem_filter.1 hx).1
        omega
      have hf0 := first_none (n := k) (p := tellR G.nodes k p)
      have hf1 := fun x => first_some (n := k) (x := x) (p := tellR G.nodes k p)
      have hmax : ∀ ats ty, Builtin.max_ ats ty #[.int .i64 ((k : Int) - 6), .int .i64 0] = pure (.int .i64 ((k - 6 : Nat) : Int)) := fun ats ty => by
        have := max_nat ((k : Int) - 6) 0 (k - 6) (by omega) ats ty
        simpa using this
      have hC6 : C ≤ 1000000 := by omega
      have hwC : wrap64 ((2 : Int) ^ (k - 6)) = ((C : Nat) : Int) := by
        have : ((2 : Int) ^ (k - 6)) = ((2 ^ (k - 6) : Nat) : Int) := by simp
        rw [this, hC]
        exact IntWalk.wrap64_in _ (by omega)
      have hmk : ∀ W : World, (Instr.makeSlice 33 (.int .i64 (wrap64 ((2 : Int) ^ (k - 6)))) (.int .i64 (wrap64 ((2 : Int) ^ (k - 6))))).run Try.prog W = .ok (.slice (some ⟨W.heap.size, 0, none⟩) C C) (W.alloc (.cells (u64s (List.replicate C 0)).toArray 45)) := fun W => by rw [hwC]; exact run_make_u64s W C hC6
      have HMK := Lib.hid hmk; clear hmk hwC
      have HMAX := Lib.hid hmax; clear hmax
      have HPART := Lib.hid (fun q => part_first (ns := G.nodes) (n := k) (a := p) (b := q))
      have hTP : ∀ (q : Nat) (_ : q < 2 * G.nodes.length) (W : World) (L : List (Option Addr × List Value)) (_ : HS w W g G F L) (_ : (some ⟨rb, 0, none⟩, rCells G.nodes) ∈ L), _ := fun q hq W L hh hmem => r21Parted_is (RG.held (hh.held _ hmem) hle hmx HOK.out) HIL.out (by omega) p q hpl hq
      have HTP := Lib.hid hTP; clear hTP
      have hp4 := fun q hq => parts_ok (G := G) (r := p) (s := q) (k := k) hpl hq HIL.out (by omega)
      have HP4 := Lib.hid hp4; clear hp4
      have hpl2 : p ≤ 1000 := by omega
      generalize hpp : tellR G.nodes k p = pt at *
      generalize hXX : trueL k pt = X at *
      obtain ⟨xl, hxe⟩ : ∃ xl, X.length = xl := ⟨_, rfl⟩
      rw [hxe] at hxl hcv
      have hxl9 : xl ≤ 512 := by omega
      rw [hcv] at r2
      obtain ⟨T, hT⟩ : ∃ T, tabW G.nodes (oneF p) k = T := ⟨_, rfl⟩
      rw [hT] at r1 htl htab
      obtain ⟨⟨f, b⟩, hfR⟩ : ∃ fr, firstR k pt = fr := ⟨_, rfl⟩
      rw [hfR] at r3 hfl hf0
      simp only [hfR] at hf1
      simp only at hfl
      obtain ⟨fl, hfle⟩ : ∃ fl, f.length = fl := ⟨_, rfl⟩
      have hfl9 : fl ≤ 9 := by rw [← hfle, hfl]; split <;> omega
      have R1 := Lib.hid r1; clear r1
      have R2 := Lib.hid r2; clear r2
      have R3 := Lib.hid r3; clear r3
      have HFLE := Lib.hid hfle; clear hfle hfl hfR hpp
      have HTL := Lib.hid htl; clear htl
      have HTAB := Lib.hid htab; clear htab hTo hTb hT
      have HXM := Lib.hid hxm; clear hxm
      have HXE := Lib.hid hxe; clear hxe hxl hcv
      have HF0 := Lib.hid hf0; clear hf0
      have HF1 := Lib.hid hf1; clear hf1 hXX hC hble hD9
      cases hrB : right G.nodes B
      · have r4 : partsG G p B = (([], false), 200) := by unfold partsG; rw [tabE_bad (by simp [badIn, hrA, hrB])]; rfl
        have R4 := Lib.hid r4; clear r4
        have HRA := Lib.hid hrA; clear hrA hbad1
        have HRB := Lib.hid hrB; clear hrB
        go_wp2_with fail
        (with_reducible refine (simTable_h HO.out p (by omega) R1.out (k := C) HTL.out (by omega)).mono ?_)
        rintro e W3 ⟨a1, s1, rfl, ho⟩
        clear HO; have HO := Lib.hid ho; clear ho
        go_wp2_with fail
        refine (simCount_h HO.out p (by omega) R2.out).mono ?_
        rintro e W4 ⟨rfl, ho⟩
        clear HO; have HO := Lib.hid ho; clear ho
        go_wp2_with fail
        refine (simFirst_h HO.out p (by omega) R3.out (k := fl) HFLE.out (by omega)).mono ?_
        rintro e W5 ⟨a2, s2, rfl, ho⟩
        clear HO; have HO := Lib.hid ho; clear ho
        go_wp2_with fail
        refine (simParts_h HO.out p B (by omega) hB R4.out (k := 0) rfl (by omega)).mono ?_
        rintro e W6 ⟨a3, s3, rfl, ho⟩
        clear HO; have HO := Lib.hid ho; clear ho
        have hin := HIN.out W6 HO.out.own.ch
        have HIN1 := Lib.hid hin; clear hin
        go_wp2_with fail
        refine HIN1.out.mono ?_
        rintro e W7 ⟨rfl, hc7⟩
        have ho := HO.out.same hc7
        clear HO hc7 HIN1; have HO := Lib.hid ho; clear ho
        have cx0 := HO.out.cellT (b := bx) (xs := [.int .i64 G.most, .slice (some ⟨rb, 0, none⟩) G.nodes.length rcap]) (by simp) (i := 0) rfl
        have cx1 := HO.out.cellT (b := bx) (xs := [.int .i64 G.most, .slice (some ⟨rb, 0, none⟩) G.nodes.length rcap]) (by simp) (i := 1) rfl
        go_wp2_with fail
        refine (HRT.out _ _ HO.out (by simp) p).mono ?_
        rintro e W8 ⟨rfl, ho⟩
        rw [HRA.out]
        clear cx0 cx1
        clear HO; have HO := Lib.hid ho; clear ho
        have cx0 := HO.out.cellT (b := bx) (xs := [.int .i64 G.most, .slice (some ⟨rb, 0, none⟩) G.nodes.length rcap]) (by simp) (i := 0) rfl
        have cx1 := HO.out.cellT (b := bx) (xs := [.int .i64 G.most, .slice (some ⟨rb, 0, none⟩) G.nodes.length rcap]) (by simp) (i := 1) rfl
        go_wp2_with fail
        refine (HRT.out _ _ HO.out (by simp) p).mono ?_
        rintro e W9 ⟨rfl, ho⟩
        rw [HRA.out]
        clear cx0 cx1
        clear HO; have HO := Lib.hid ho; clear ho
        have cx0 := HO.out.cellT (b := bx) (xs := [.int .i64 G.most, .slice (some ⟨rb, 0, none⟩) G.nodes.length rcap]) (by simp) (i := 0) rfl
        have cx1 := HO.out.cellT (b := bx) (xs := [.int .i64 G.most, .slice (some ⟨rb, 0, none⟩) G.nodes.length rcap]) (by simp) (i := 1) rfl
        go_wp2_with fail
        refine (HRT.out _ _ HO.out (by simp) B).mono ?_
        rintro e W10 ⟨rfl, ho⟩
        rw [HRB.out]
        clear cx0 cx1
        clear HO; have HO := Lib.hid ho; clear ho
        have hin := HIN.out W10 HO.out.own.ch
        have HIN1 := Lib.hid hin; clear hin
        go_wp2_with fail
        refine HIN1.out.mono ?_
        rintro e W11 ⟨rfl, hc11⟩
        have ho := HO.out.same hc11
        clear HO hc11 HIN1; have HO := Lib.hid ho; clear ho
        have cx0 := HO.out.cellT (b := bx) (xs := [.int .i64 G.most, .slice (some ⟨rb, 0, none⟩) G.nodes.length rcap]) (by simp) (i := 0) rfl
        have cx1 := HO.out.cellT (b := bx) (xs := [.int .i64 G.most, .slice (some ⟨rb, 0, none⟩) G.nodes.length rcap]) (by simp) (i := 1) rfl
        have htr := HTR.out W11 _ HO.out (by simp)
        rw [HXE.out] at htr
        have HTR1 := Lib.hid htr; clear htr
        go_wp2_with fail
        refine HTR1.out.mono ?_
        rintro e W12 ⟨v, rfl, hrow, _, hc12⟩
        obtain ⟨xa, xc, rfl⟩ := row.shape hrow
        have ho := (HO.out.same hc12).add (row.sv hrow rfl (by omega))
        clear HO hc12 HTR1 hrow cx0 cx1; have HO := Lib.hid ho; clear ho
        have hmk := HMK.out
        have hmax := HMAX.out
        go_wp2_with fail
        clear hmk hmax
        refine wp_alw ?_
        intro W13 hW13
        have hbt := alw_blk (xs := u64s (List.replicate C 0)) hW13
        have hc13 := alw_ch hW13
        clear hW13
        generalize htb : W12.heap.size = tb at hbt ⊢
        have htb2 : W12.heap.size ≤ tb := by omega
        clear htb
        have HBT := Lib.hid hbt; clear hbt
        have HC13 := Lib.hid hc13; clear hc13
        go_loopw [136] (fun i wr => ∃ j : Nat, j ≤ xl ∧ i = .int .i64 j ∧ Ch [] W12 wr ∧ blk wr tb (u64s (setBs (List.replicate C 0) (X.take j)))) (fun i _ => xl - (intOf i).toNat)
        case atStart => exact ⟨0, by omega, rfl, HC13.out, HBT.out⟩
        case round =>
          clear HBT HC13
          obtain ⟨j, hj, rfl, hc, hbk⟩ := hrel
          by_cases hlt : j < xl
          · obtain ⟨x, hx⟩ : ∃ x, X[j]? = some x := ⟨_, List.getElem?_eq_getElem (by rw [HXE.out]; exact hlt)⟩
            obtain ⟨hxC, hx9⟩ := HXM.out x (List.mem_of_getElem? hx)
            obtain ⟨b1, o1, rfl, c1⟩ := ((HO.out.same hc).held (xa, refsCells X) (by simp)).cells j (.int .i64 x) (by unfold refsCells; rw [List.getElem?_map, hx]; rfl)
            have hts : setBs (List.replicate C 0) (X.take (j + 1)) = setB (setBs (List.replicate C 0) (X.take j)) x := by rw [List.take_add_one, hx]; exact setBs_snoc _ _ _
            have hsl := setBs_len (List.replicate C 0) (X.take j)
            rw [List.length_replicate] at hsl
            have hst := setBs_lt (T := List.replicate C 0) (fun v hv => by rw [(List.mem_replicate.1 hv).2]; decide) (X.take j)
            generalize setBs (List.replicate C 0) (X.take j) = S at *
            obtain ⟨u, hu⟩ : ∃ u, S[x / 64]? = some u := ⟨_, List.getElem?_eq_getElem (by omega)⟩
            have hub := hst u (List.mem_of_getElem? hu)
            unfold setB at hts
            rw [List.getD_eq_getElem?_getD, hu] at hts
            simp only [Option.getD_some] at hts
            obtain ⟨A64, hA64⟩ : ∃ A64, x / 64 = A64 := ⟨_, rfl⟩
            obtain ⟨R64, hR64⟩ : ∃ R64, x % 64 = R64 := ⟨_, rfl⟩
            rw [hA64] at hu hts hxC
            rw [hR64] at hts
            have eA : (x : Int) / 64 = (A64 : Int) := by omega
            have eR : (x : Int) % 64 = (R64 : Int) := by omega
            have hR6 : R64 < 64 := by omega
            have c2 := hbk.cell (i := A64) (v := .int .u64 u) (by unfold u64s; rw [List.getElem?_map, hu]; rfl)
            have f2 := hbk.frozen (i := A64)
            have HBK := Lib.hid hbk; clear hbk
            have HTS := Lib.hid hts; clear hts
            have HC := Lib.hid hc; clear hc hx hst hsl hu hA64 hR64
            go_wp2_with fail
            refine Ord.St.door (fun _ => True) [.fl, .fl, .fl, .fl, .rd, .fl, .fl, .fl, .fl, .fl, .ef] [0, 0, 2, 7, 15, 0, 32, 96, 255, 511, 1023] [0, 1, 2, 3, 4, 5, 6, 7, 8, 9, 10] mixed (by kernel_rfl) rfl ?_
            refine Ord.St.fl2 (T' := ?_) 0 [1, 2, 3, 4, 5, 6, 7, 8, 9, 10] _ _ rfl (by kernel_rfl) rfl rfl rfl rfl (fun K w' hk => ?_) ?_
            rotate_left
            · go_step; exact hk
            refine Ord.St.fl2 (T' := ?_) 1 [2, 3, 4, 5, 6, 7, 8, 9, 10] _ _ rfl (by kernel_rfl) rfl rfl rfl rfl (fun K w' hk => ?_) ?_
            rotate_left
            · go_step; exact hk
            refine Ord.St.fl2 (T' := ?_) 2 [3, 4, 5, 6, 7, 8, 9, 10] _ _ rfl (by kernel_rfl) rfl rfl rfl rfl (fun K w' hk => ?_) ?_
            rotate_left
            · go_step; exact hk
            refine Ord.St.fl2 (T' := ?_) 3 [4, 5, 6, 7, 8, 9, 10] _ _ rfl (by kernel_rfl) rfl rfl rfl rfl (fun K w' hk => ?_) ?_
            rotate_left
            · go_step; exact hk
            refine Ord.St.rd2 (T' := ?_) 4 [5, 6, 7, 8, 9, 10] _ _ rfl (by kernel_rfl) rfl rfl rfl rfl (fun K hk => ?_) ?_
            rotate_left
            · go_step; exact hk
            refine Ord.St.fl2 (T' := ?_) 5 [6, 7, 8, 9, 10] _ _ rfl (by kernel_rfl) rfl rfl rfl rfl (fun K w' hk => ?_) ?_
            rotate_left
            · go_step; exact hk
            refine Ord.St.fl2 (T' := ?_) 6 [7, 8, 9, 10] _ _ rfl (by kernel_rfl) rfl rfl rfl rfl (fun K w' hk => ?_) ?_
            rotate_left
            · go_step; exact hk
            refine Ord.St.fl2 (T' := ?_) 7 [8, 9, 10] _ _ rfl (by kernel_rfl) rfl rfl rfl rfl (fun K w' hk => ?_) ?_
            rotate_left
            · go_step; exact hk
            refine Ord.St.fl2 (T' := ?_) 8 [9, 10] _ _ rfl (by kernel_rfl) rfl rfl rfl rfl (fun K w' hk => ?_) ?_
            rotate_left
            · go_step; exact hk
            refine Ord.St.fl2 (T' := ?_) 9 [10] _ _ rfl (by kernel_rfl) rfl rfl rfl rfl (fun K w' hk => ?_) ?_
            rotate_left
            · go_step; exact hk
            refine Ord.St.ef 10 [] _ rfl (by kernel_rfl) (fun K hK => ?_)
            go_wp2_with fail
            refine ⟨rfl, hK _ _ ?_⟩; clear hK K
            refine Ord.St.nil ?_
            have hor := bits_or_u64_pow u R64 (by omega) hR6
            rw [hor]
            clear hor c1 c2 f2 eA eR
            go_wp2_with fail
            go_roundw
            case rel =>
              refine ⟨j + 1, by omega, by go_num, (HC.out.setCell (.inr htb2) _).drew, ?_⟩
              rw [HTS.out, show u64s (S.set A64 (u ||| 2 ^ R64)) = (u64s S).set A64 (.int .u64 (u ||| 2 ^ R64 : Nat)) by unfold u64s; rw [List.map_set]]
              exact (HBK.out.set _).ch ((Ch.refl [] _).drew) (by simp)
            case measure => simp [intOf]; omega
          · have hjx : j = xl := by omega
            rw [hjx, List.take_of_length_le (by rw [HXE.out]; omega), HTAB.out] at hbk
            have ho := (HO.out.same hc).blk hbk (by rw [show (u64s T).length = T.length by simp [u64s], HTL.out]; omega)
            clear HO hc hbk htb2 hjx
            have HO := Lib.hid ho; clear ho
            have exl : ((xl : Int) != (xl : Int)) = false := by simp
            by_cases hx0 : xl = 0
            · have hfb := HF0.out (List.eq_nil_of_length_eq_zero (by rw [HXE.out]; exact hx0))
              cases hfb
              have hfl0 := HFLE.out
              simp at hfl0
              subst hfl0
              subst hx0
              have egt : decide (((0 : Nat) : Int) > 0) = false := by decide
              go_wp2_with fail
              refine (EQu64_h HO.out (a := a1) (b := some ⟨tb, 0, none⟩) (xs := T) (ys := T) (ca := s1) (cb := C) (by simp) (HO.out.held (some ⟨tb, 0, none⟩, u64s T) (by simp)) HTL.out HTL.out (decide_eq_true rfl)).mono ?_
              rintro e W14 ⟨rfl, ho⟩
              clear HO; have HO := Lib.hid ho; clear ho
              have hsm := same21_no (w := W14) k s2 a2 (-1) (by omega)
              have HSM := Lib.hid hsm; clear hsm
              go_wp2_with fail
              refine HSM.out.mono ?_
              rintro e W15 ⟨rfl, hc15⟩
              have ho := HO.out.same hc15
              clear HO hc15 HSM; have HO := Lib.hid ho; clear ho
              go_wp2_with fail
              go_ret
              exact ⟨rfl, HO.out.own.ch⟩
            · obtain ⟨x0, hx0v⟩ : ∃ x0, X[0]? = some x0 := ⟨_, List.getElem?_eq_getElem (by rw [HXE.out]; omega)⟩
              obtain ⟨hfb, hx0l⟩ := HF1.out x0 hx0v
              cases hfb
              have hfl0 := HFLE.out
              rw [asgBits_len] at hfl0
              subst hfl0
              have hx0b : x0 ≤ 512 := by have := (HXM.out x0 (List.mem_of_getElem? hx0v)).2; omega
              obtain ⟨xb, xo, rfl, cX⟩ := (HO.out.held (xa, refsCells X) (by simp)).cells 0 (.int .i64 x0) (by unfold refsCells; rw [List.getElem?_map, hx0v]; rfl)
              rw [Nat.add_zero] at cX
              have egt : decide ((xl : Int) > 0) = true := decide_eq_true (by omega)
              clear hx0l hx0v
              go_wp2_with fail
              refine (EQu64_h HO.out (a := a1) (b := some ⟨tb, 0, none⟩) (xs := T) (ys := T) (ca := s1) (cb := C) (by simp) (HO.out.held (some ⟨tb, 0, none⟩, u64s T) (by simp)) HTL.out HTL.out (decide_eq_true rfl)).mono ?_
              rintro e W14 ⟨rfl, ho⟩
              clear HO; have HO := Lib.hid ho; clear ho
              have hsm := same21_yes (w := W14) k s2 x0 (by omega) (by omega) (a := a2) (HO.out.held (a2, bools (asgBits k x0)) (by simp))
              have HSM := Lib.hid hsm; clear hsm
              go_wp2_with fail
              refine HSM.out.mono ?_
              rintro e W15 ⟨rfl, hc15⟩
              have ho := HO.out.same hc15
              clear HO hc15 HSM; have HO := Lib.hid ho; clear ho
              go_wp2_with fail
              go_ret
              exact ⟨rfl, HO.out.own.ch⟩
      · obtain ⟨q, hBq, hql⟩ : ∃ q : Nat, B = q ∧ q < 2 * G.nodes.length := by
          unfold right at hrB
          have := of_decide_eq_true hrB
          exact ⟨B.toNat, by omega, by omega⟩
        subst hBq
        have r4 := HP4.out q hql
        have hpa := HPART.out q
        have htp := HTP.out q hql
        generalize firstR k (tellX G.nodes k p q) = PF at r4 hpa
        obtain ⟨pf, pb⟩ := PF
        obtain ⟨pfl, hpfl⟩ : ∃ pfl, pf.length = pfl := ⟨_, rfl⟩
        have hpf9 : pfl ≤ 9 := by
          rcases hpa with ⟨_, h2⟩ | ⟨x, _, h2, _⟩
          · cases h2; rw [← hpfl]; simp
          · cases h2; rw [← hpfl, asgBits_len]; exact hk9
        have R4 := Lib.hid r4; clear r4
        have HPA := Lib.hid hpa; clear hpa
        have HTPQ := Lib.hid htp; clear htp
        have HPFL := Lib.hid hpfl; clear hpfl
        have hq2 : q ≤ 1000 := by omega
        have HRA := Lib.hid hrA; clear hrA hbad1
        have HRB := Lib.hid hrB; clear hrB
        go_wp2_with fail
        (with_reducible refine (simTable_h HO.out p (by omega) R1.out (k := C) HTL.out (by omega)).mono ?_)
        rintro e W3 ⟨a1, s1, rfl, ho⟩
        clear HO; have HO := Lib.hid ho; clear ho
        go_wp2_with fail
        refine (simCount_h HO.out p (by omega) R2.out).mono ?_
        rintro e W4 ⟨rfl, ho⟩
        clear HO; have HO := Lib.hid ho; clear ho
        go_wp2_with fail
        refine (simFirst_h HO.out p (by omega) R3.out (k := fl) HFLE.out (by omega)).mono ?_
        rintro e W5 ⟨a2, s2, rfl, ho⟩
        clear HO; have HO := Lib.hid ho; clear ho
        go_wp2_with fail
        refine (simParts_h HO.out p q (by omega) (by omega) R4.out (k := pfl) HPFL.out (by omega)).mono ?_
        rintro e W6 ⟨a3, s3, rfl, ho⟩
        clear HO; have HO := Lib.hid ho; clear ho
        have hin := HIN.out W6 HO.out.own.ch
        have HIN1 := Lib.hid hin; clear hin
        go_wp2_with fail
        refine HIN1.out.mono ?_
        rintro e W7 ⟨rfl, hc7⟩
        have ho := HO.out.same hc7
        clear HO hc7 HIN1; have HO := Lib.hid ho; clear ho
        have cx0 := HO.out.cellT (b := bx) (xs := [.int .i64 G.most, .slice (some ⟨rb, 0, none⟩) G.nodes.length rcap]) (by simp) (i := 0) rfl
        have cx1 := HO.out.cellT (b := bx) (xs := [.int .i64 G.most, .slice (some ⟨rb, 0, none⟩) G.nodes.length rcap]) (by simp) (i := 1) rfl
        go_wp2_with fail
        refine (HRT.out _ _ HO.out (by simp) p).mono ?_
        rintro e W8 ⟨rfl, ho⟩
        rw [HRA.out]
        clear cx0 cx1
        clear HO; have HO := Lib.hid ho; clear ho
        have cx0 := HO.out.cellT (b := bx) (xs := [.int .i64 G.most, .slice (some ⟨rb, 0, none⟩) G.nodes.length rcap]) (by simp) (i := 0) rfl
        have cx1 := HO.out.cellT (b := bx) (xs := [.int .i64 G.most, .slice (some ⟨rb, 0, none⟩) G.nodes.length rcap]) (by simp) (i := 1) rfl
        go_wp2_with fail
        refine (HRT.out _ _ HO.out (by simp) p).mono ?_
        rintro e W9 ⟨rfl, ho⟩
        rw [HRA.out]
        clear cx0 cx1
        clear HO; have HO := Lib.hid ho; clear ho
        have cx0 := HO.out.cellT (b := bx) (xs := [.int .i64 G.most, .slice (some ⟨rb, 0, none⟩) G.nodes.length rcap]) (by simp) (i := 0) rfl
        have cx1 := HO.out.cellT (b := bx) (xs := [.int .i64 G.most, .slice (some ⟨rb, 0, none⟩) G.nodes.length rcap]) (by simp) (i := 1) rfl
        go_wp2_with fail
        refine (HRT.out _ _ HO.out (by simp) q).mono ?_
        rintro e W10 ⟨rfl, ho⟩
        rw [HRB.out]
        clear cx0 cx1
        clear HO; have HO := Lib.hid ho; clear ho
        have hin := HIN.out W10 HO.out.own.ch
        have HIN1 := Lib.hid hin; clear hin
        go_wp2_with fail
        refine HIN1.out.mono ?_
        rintro e W11 ⟨rfl, hc11⟩
        have ho := HO.out.same hc11
        clear HO hc11 HIN1; have HO := Lib.hid ho; clear ho
        have cx0 := HO.out.cellT (b := bx) (xs := [.int .i64 G.most, .slice (some ⟨rb, 0, none⟩) G.nodes.length rcap]) (by simp) (i := 0) rfl
        have cx1 := HO.out.cellT (b := bx) (xs := [.int .i64 G.most, .slice (some ⟨rb, 0, none⟩) G.nodes.length rcap]) (by simp) (i := 1) rfl
        have htr := HTR.out W11 _ HO.out (by simp)
        rw [HXE.out] at htr
        have HTR1 := Lib.hid htr; clear htr
        go_wp2_with fail
        refine HTR1.out.mono ?_
        rintro e W12 ⟨v, rfl, hrow, _, hc12⟩
        obtain ⟨xa, xc, rfl⟩ := row.shape hrow
        have ho := (HO.out.same hc12).add (row.sv hrow rfl (by omega))
        clear HO hc12 HTR1 hrow cx0 cx1; have HO := Lib.hid ho; clear ho
        have hmk := HMK.out
        have hmax := HMAX.out
        go_wp2_with fail
        clear hmk hmax
        refine wp_alw ?_
        intro W13 hW13
        have hbt := alw_blk (xs := u64s (List.replicate C 0)) hW13
        have hc13 := alw_ch hW13
        clear hW13
        generalize htb : W12.heap.size = tb at hbt ⊢
        have htb2 : W12.heap.size ≤ tb := by omega
        clear htb
        have HBT := Lib.hid hbt; clear hbt
        have HC13 := Lib.hid hc13; clear hc13
        go_loopw [136] (fun i wr => ∃ j : Nat, j ≤ xl ∧ i = .int .i64 j ∧ Ch [] W12 wr ∧ blk wr tb (u64s (setBs (List.replicate C 0) (X.take j)))) (fun i _ => xl - (intOf i).toNat)
        case atStart => exact ⟨0, by omega, rfl, HC13.out, HBT.out⟩
        case round =>
          clear HBT HC13
          obtain ⟨j, hj, rfl, hc, hbk⟩ := hrel
          by_cases hlt : j < xl
          · obtain ⟨x, hx⟩ : ∃ x, X[j]? = some x := ⟨_, List.getElem?_eq_getElem (by rw [HXE.out]; exact hlt)⟩
            obtain ⟨hxC, hx9⟩ := HXM.out x (List.mem_of_getElem? hx)
            obtain ⟨b1, o1, rfl, c1⟩ := ((HO.out.same hc).held (xa, refsCells X) (by simp)).cells j (.int .i64 x) (by unfold refsCells; rw [List.getElem?_map, hx]; rfl)
            have hts : setBs (List.replicate C 0) (X.take (j + 1)) = setB (setBs (List.replicate C 0) (X.take j)) x := by rw [List.take_add_one, hx]; exact setBs_snoc _ _ _
            have hsl := setBs_len (List.replicate C 0) (X.take j)
            rw [List.length_replicate] at hsl
            have hst := setBs_lt (T := List.replicate C 0) (fun v hv => by rw [(List.mem_replicate.1 hv).2]; decide) (X.take j)
            generalize setBs (List.replicate C 0) (X.take j) = S at *
            obtain ⟨u, hu⟩ : ∃ u, S[x / 64]? = some u := ⟨_, List.getElem?_eq_getElem (by omega)⟩
            have hub := hst u (List.mem_of_getElem? hu)
            unfold setB at hts
            rw [List.getD_eq_getElem?_getD, hu] at hts
            simp only [Option.getD_some] at hts
            obtain ⟨A64, hA64⟩ : ∃ A64, x / 64 = A64 := ⟨_, rfl⟩
            obtain ⟨R64, hR64⟩ : ∃ R64, x % 64 = R64 := ⟨_, rfl⟩
            rw [hA64] at hu hts hxC
            rw [hR64] at hts
            have eA : (x : Int) / 64 = (A64 : Int) := by omega
            have eR : (x : Int) % 64 = (R64 : Int) := by omega
            have hR6 : R64 < 64 := by omega
            have c2 := hbk.cell (i := A64) (v := .int .u64 u) (by unfold u64s; rw [List.getElem?_map, hu]; rfl)
            have f2 := hbk.frozen (i := A64)
            have HBK := Lib.hid hbk; clear hbk
            have HTS := Lib.hid hts; clear hts
            have HC := Lib.hid hc; clear hc hx hst hsl hu hA64 hR64
            go_wp2_with fail
            refine Ord.St.door (fun _ => True) [.fl, .fl, .fl, .fl, .rd, .fl, .fl, .fl, .fl, .fl, .ef] [0, 0, 2, 7, 15, 0, 32, 96, 255, 511, 1023] [0, 1, 2, 3, 4, 5, 6, 7, 8, 9, 10] mixed (by kernel_rfl) rfl ?_
            refine Ord.St.fl2 (T' := ?_) 0 [1, 2, 3, 4, 5, 6, 7, 8, 9, 10] _ _ rfl (by kernel_rfl) rfl rfl rfl rfl (fun K w' hk => ?_) ?_
            rotate_left
            · go_step; exact hk
            refine Ord.St.fl2 (T' := ?_) 1 [2, 3, 4, 5, 6, 7, 8, 9, 10] _ _ rfl (by kernel_rfl) rfl rfl rfl rfl (fun K w' hk => ?_) ?_
            rotate_left
            · go_step; exact hk
            refine Ord.St.fl2 (T' := ?_) 2 [3, 4, 5, 6, 7, 8, 9, 10] _ _ rfl (by kernel_rfl) rfl rfl rfl rfl (fun K w' hk => ?_) ?_
            rotate_left
            · go_step; exact hk
            refine Ord.St.fl2 (T' := ?_) 3 [4, 5, 6, 7, 8, 9, 10] _ _ rfl (by kernel_rfl) rfl rfl rfl rfl (fun K w' hk => ?_) ?_
            rotate_left
            · go_step; exact hk
            refine Ord.St.rd2 (T' := ?_) 4 [5, 6, 7, 8, 9, 10] _ _ rfl (by kernel_rfl) rfl rfl rfl rfl (fun K hk => ?_) ?_
            rotate_left
            · go_step; exact hk
            refine Ord.St.fl2 (T' := ?_) 5 [6, 7, 8, 9, 10] _ _ rfl (by kernel_rfl) rfl rfl rfl rfl (fun K w' hk => ?_) ?_
            rotate_left
            · go_step; exact hk
            refine Ord.St.fl2 (T' := ?_) 6 [7, 8, 9, 10] _ _ rfl (by kernel_rfl) rfl rfl rfl rfl (fun K w' hk => ?_) ?_
            rotate_left
            · go_step; exact hk
            refine Ord.St.fl2 (T' := ?_) 7 [8, 9, 10] _ _ rfl (by kernel_rfl) rfl rfl rfl rfl (fun K w' hk => ?_) ?_
            rotate_left
            · go_step; exact hk
            refine Ord.St.fl2 (T' := ?_) 8 [9, 10] _ _ rfl (by kernel_rfl) rfl rfl rfl rfl (fun K w' hk => ?_) ?_
            rotate_left
            · go_step; exact hk
            refine Ord.St.fl2 (T' := ?_) 9 [10] _ _ rfl (by kernel_rfl) rfl rfl rfl rfl (fun K w' hk => ?_) ?_
            rotate_left
            · go_step; exact hk
            refine Ord.St.ef 10 [] _ rfl (by kernel_rfl) (fun K hK => ?_)
            go_wp2_with fail
            refine ⟨rfl, hK _ _ ?_⟩; clear hK K
            refine Ord.St.nil ?_
            have hor := bits_or_u64_pow u R64 (by omega) hR6
            rw [hor]
            clear hor c1 c2 f2 eA eR
            go_wp2_with fail
            go_roundw
            case rel =>
              refine ⟨j + 1, by omega, by go_num, (HC.out.setCell (.inr htb2) _).drew, ?_⟩
              rw [HTS.out, show u64s (S.set A64 (u ||| 2 ^ R64)) = (u64s S).set A64 (.int .u64 (u ||| 2 ^ R64 : Nat)) by unfold u64s; rw [List.map_set]]
              exact (HBK.out.set _).ch ((Ch.refl [] _).drew) (by simp)
            case measure => simp [intOf]; omega
          · have hjx : j = xl := by omega
            rw [hjx, List.take_of_length_le (by rw [HXE.out]; omega), HTAB.out] at hbk
            have ho := (HO.out.same hc).blk hbk (by rw [show (u64s T).length = T.length by simp [u64s], HTL.out]; omega)
            clear HO hc hbk htb2 hjx
            have HO := Lib.hid ho; clear ho
            have exl : ((xl : Int) != (xl : Int)) = false := by simp
            by_cases hx0 : xl = 0
            · have hfb := HF0.out (List.eq_nil_of_length_eq_zero (by rw [HXE.out]; exact hx0))
              cases hfb
              have hfl0 := HFLE.out
              simp at hfl0
              subst hfl0
              subst hx0
              have egt : decide (((0 : Nat) : Int) > 0) = false := by decide
              go_wp2_with fail
              refine (EQu64_h HO.out (a := a1) (b := some ⟨tb, 0, none⟩) (xs := T) (ys := T) (ca := s1) (cb := C) (by simp) (HO.out.held (some ⟨tb, 0, none⟩, u64s T) (by simp)) HTL.out HTL.out (decide_eq_true rfl)).mono ?_
              rintro e W14 ⟨rfl, ho⟩
              clear HO; have HO := Lib.hid ho; clear ho
              have hsm := same21_no (w := W14) k s2 a2 (-1) (by omega)
              have HSM := Lib.hid hsm; clear hsm
              go_wp2_with fail
              refine HSM.out.mono ?_
              rintro e W15 ⟨rfl, hc15⟩
              have ho := HO.out.same hc15
              clear HO hc15 HSM; have HO := Lib.hid ho; clear ho
              have cx0 := HO.out.cellT (b := bx) (xs := [.int .i64 G.most, .slice (some ⟨rb, 0, none⟩) G.nodes.length rcap]) (by simp) (i := 0) rfl
              have cx1 := HO.out.cellT (b := bx) (xs := [.int .i64 G.most, .slice (some ⟨rb, 0, none⟩) G.nodes.length rcap]) (by simp) (i := 1) rfl
              have htp := HTPQ.out W15 _ HO.out (by simp)
              rcases HPA.out with ⟨m1, m2⟩ | ⟨y0, m1, m2, m3⟩
              · rw [m1] at htp
                cases m2
                have hpl0 := HPFL.out
                simp at hpl0
                subst hpl0
                have HTP1 := Lib.hid htp; clear htp m1
                go_wp2_with fail
                refine HTP1.out.mono ?_
                rintro e W16 ⟨rfl, hc16⟩
                have ho := HO.out.same hc16
                clear HO hc16 HTP1 cx0 cx1; have HO := Lib.hid ho; clear ho
                have hsm := same21_no (w := W16) k s3 a3 (-1) (by omega)
                have HSM := Lib.hid hsm; clear hsm
                go_wp2_with fail
                refine HSM.out.mono ?_
                rintro e W17 ⟨rfl, hc17⟩
                go_wp2_with fail
                go_ret
                exact ⟨rfl, HO.out.own.ch.trans hc17 (by simp)⟩
              · rw [m1] at htp
                cases m2
                have hpl0 := HPFL.out
                rw [asgBits_len] at hpl0
                subst hpl0
                have HTP1 := Lib.hid htp; clear htp m1
                go_wp2_with fail
                refine HTP1.out.mono ?_
                rintro e W16 ⟨rfl, hc16⟩
                have ho := HO.out.same hc16
                clear HO hc16 HTP1 cx0 cx1; have HO := Lib.hid ho; clear ho
                have hsm := same21_yes (w := W16) k s3 y0 (by omega) (by have : (2 : Nat) ^ k ≤ 512 := Nat.pow_le_pow_right (n := 2) (by omega) hk9; omega) (a := a3) (HO.out.held (a3, bools (asgBits k y0)) (by simp))
                have HSM := Lib.hid hsm; clear hsm
                go_wp2_with fail
                refine HSM.out.mono ?_
                rintro e W17 ⟨rfl, hc17⟩
                go_wp2_with fail
                go_ret
                exact ⟨rfl, HO.out.own.ch.trans hc17 (by simp)⟩
            · obtain ⟨x0, hx0v⟩ : ∃ x0, X[0]? = some x0 := ⟨_, List.getElem?_eq_getElem (by rw [HXE.out]; omega)⟩
              obtain ⟨hfb, hx0l⟩ := HF1.out x0 hx0v
              cases hfb
              have hfl0 := HFLE.out
              rw [asgBits_len] at hfl0
              subst hfl0
              have hx0b : x0 ≤ 512 := by have := (HXM.out x0 (List.mem_of_getElem? hx0v)).2; omega
              obtain ⟨xb, xo, rfl, cX⟩ := (HO.out.held (xa, refsCells X) (by simp)).cells 0 (.int .i64 x0) (by unfold refsCells; rw [List.getElem?_map, hx0v]; rfl)
              rw [Nat.add_zero] at cX
              have egt : decide ((xl : Int) > 0) = true := decide_eq_true (by omega)
              clear hx0l hx0v
              go_wp2_with fail
              refine (EQu64_h HO.out (a := a1) (b := some ⟨tb, 0, none⟩) (xs := T) (ys := T) (ca := s1) (cb := C) (by simp) (HO.out.held (some ⟨tb, 0, none⟩, u64s T) (by simp)) HTL.out HTL.out (decide_eq_true rfl)).mono ?_
              rintro e W14 ⟨rfl, ho⟩
              clear HO; have HO := Lib.hid ho; clear ho
              have hsm := same21_yes (w := W14) k s2 x0 (by omega) (by omega) (a := a2) (HO.out.held (a2, bools (asgBits k x0)) (by simp))
              have HSM := Lib.hid hsm; clear hsm
              go_wp2_with fail
              refine HSM.out.mono ?_
              rintro e W15 ⟨rfl, hc15⟩
              have ho := HO.out.same hc15
              clear HO hc15 HSM; have HO := Lib.hid ho; clear ho
              have cx0 := HO.out.cellT (b := bx) (xs := [.int .i64 G.most, .slice (some ⟨rb, 0, none⟩) G.nodes.length rcap]) (by simp) (i := 0) rfl
              have cx1 := HO.out.cellT (b := bx) (xs := [.int .i64 G.most, .slice (some ⟨rb, 0, none⟩) G.nodes.length rcap]) (by simp) (i := 1) rfl
              have htp := HTPQ.out W15 _ HO.out (by simp)
              rcases HPA.out with ⟨m1, m2⟩ | ⟨y0, m1, m2, m3⟩
              · rw [m1] at htp
                cases m2
                have hpl0 := HPFL.out
                simp at hpl0
                subst hpl0
                have HTP1 := Lib.hid htp; clear htp m1
                go_wp2_with fail
                refine HTP1.out.mono ?_
                rintro e W16 ⟨rfl, hc16⟩
                have ho := HO.out.same hc16
                clear HO hc16 HTP1 cx0 cx1; have HO := Lib.hid ho; clear ho
                have hsm := same21_no (w := W16) k s3 a3 (-1) (by omega)
                have HSM := Lib.hid hsm; clear hsm
                go_wp2_with fail
                refine HSM.out.mono ?_
                rintro e W17 ⟨rfl, hc17⟩
                go_wp2_with fail
                go_ret
                exact ⟨rfl, HO.out.own.ch.trans hc17 (by simp)⟩
              · rw [m1] at htp
                cases m2
                have hpl0 := HPFL.out
                rw [asgBits_len] at hpl0
                subst hpl0
                have HTP1 := Lib.hid htp; clear htp m1
                go_wp2_with fail
                refine HTP1.out.mono ?_
                rintro e W16 ⟨rfl, hc16⟩
                have ho := HO.out.same hc16
                clear HO hc16 HTP1 cx0 cx1; have HO := Lib.hid ho; clear ho
                have hsm := same21_yes (w := W16) k s3 y0 (by omega) (by have : (2 : Nat) ^ k ≤ 512 := Nat.pow_le_pow_right (n := 2) (by omega) hk9; omega) (a := a3) (HO.out.held (a3, bools (asgBits k y0)) (by simp))
                have HSM := Lib.hid hsm; clear hsm
                go_wp2_with fail
                refine HSM.out.mono ?_
                rintro e W17 ⟨rfl, hc17⟩
                go_wp2_with fail
                go_ret
                exact ⟨rfl, HO.out.own.ch.trans hc17 (by simp)⟩
end
end Go.Proofs.Ytnmfdiiehkkjcaa
namespace Go.Proofs.Ytnmfdiiehkkjcaa
open Go.RowKit Go.Mem Go.Aig
section
variable {w : World}
/-- the bit of a word is what the reference says -/
theorem col_val {I : List Nat} (ns : List Nd) (r k : Nat) : wref 1 (valsN (colN I k) ns) r = ((wref U64 (wvF U64 I ns).1 r).testBit k && decide (k < 64)).toNat ∨ 64 ≤ k := by
  by_cases hk : k < 64
  · refine .inl ?_
    rw [vals_bv (colN_le I k), colN_bits, decide_eq_true hk, Bool.and_true]
    have := wv_bv (N := 64) hk I ns r
    rw [u64_pow] at this
    rw [this]
  · exact .inr (by omega)
theorem col_ref {I : List Nat} (ns : List Nd) (r k : Nat) (hk : k < 64) : wref 1 (valsN (colN I k) ns) r = ((wref U64 (wvF U64 I ns).1 r).testBit k).toNat := by
  rcases col_val (I := I) ns r k with h | h
  · rw [h, decide_eq_true hk, Bool.and_true]
  · omega
theorem col_node {I : List Nat} (ns : List Nd) (n k : Nat) (hk : k < 64) (hn : n < ns.length) : ∃ v x, (wvF U64 I ns).1[n]? = some x ∧ (valsN (colN I k) ns)[n]? = some v ∧ v = (x.testBit k).toNat := by
  have h := col_ref (I := I) ns (2 * n) k hk
  have h1 : (wvF U64 I ns).1.length = ns.length := wvF_len _ _ _
  have h2 := valsN_len (colN I k) ns
  refine ⟨_, _, List.getElem?_eq_getElem (by omega), List.getElem?_eq_getElem (by omega), ?_⟩
  unfold wref at h
  rw [if_neg (by omega), if_neg (by omega), show 2 * n / 2 = n by omega, List.getD_eq_getElem?_getD, List.getD_eq_getElem?_getD, List.getElem?_eq_getElem (by omega), List.getElem?_eq_getElem (by omega)] at h
  exact h
set_option maxRecDepth 100000 in
set_option maxHeartbeats 8000000 in
theorem columns21_is {rb rcap : Nat} {G : Gra} (h : RG w rb rcap G) {xa : Option Addr} {I : List Nat} (m xc : Nat) (hm : I.length = m) (hI : Sv w xa (u64s I)) (hlt : ∀ v ∈ I, v < 2 ^ 64) (hml : m ≤ 1000) (hin : (inputs G.nodes).length = m)
    {ra : Option Addr} {R : List Int} (rn rc : Nat) (hrn : R.length = rn) (hR : Sl w ra R) (hrl : rn ≤ 1000)
    {na : Option Addr} (nc : Nat) (hV : Sv w na (u64s (wvF U64 I G.nodes).1))
    {ga : Option Addr} {gs : List Nat} (gn gc : Nat) (hgn : gs.length = gn) (hG : Sv w ga (u64s gs)) {oa : Option Addr} {os : List Bool} (on oc : Nat) (hon : os.length = on) (hO : Sb w oa os) (b : Bool)
    (hb : b = true → badIn G R = false ∧ gs = wsOf I G.nodes (nats R) ∧ os = (wsOf I G.nodes (nats R)).map fun v => v.testBit 0) :
    Calls Try.prog 97 #[.agg #[.int .i64 G.most, .slice (some ⟨rb, 0, none⟩) G.nodes.length rcap], .slice xa m xc, .slice ra rn rc, .slice na G.nodes.length nc, .slice ga gn gc, .slice oa on oc, .bool b] w fun e w' => e = .returned (.bool true) ∧ Ch [] w w' := by
  obtain ⟨hl, hp, hmo⟩ := h.len
  have hVAL := fun (W : World) (hW : Ch [] w W) (k : Nat) (ya : Option Addr) (yc : Nat) (hI : Sv W ya (refsCells (colN I k))) => r21Values_is (h.ch hW (by simp)) (xa := ya) m yc (by rw [colN_len, hm]) hI (colN_le I k) (by omega)
  have hCOL := fun (W : World) (hW : Ch [] w W) (k : Nat) (hk : k ≤ 63) => r21Column_is (w := W) (xa := xa) (I := I) m xc k hm (hI.ch hW (by simp)) hlt (by omega) hk
  have hnode := fun (i k : Nat) (hk : k < 64) (hi : i < G.nodes.length) => col_node (I := I) G.nodes i k hk hi
  have href := fun (r k : Nat) (hk : k < 64) => col_ref (I := I) G.nodes r k hk
  have hVlt := (wvF_lt (N := 64) hlt G.nodes).1
  rw [u64_pow] at hVlt
  have hgl : b = true → gs.length = rn ∧ os.length = rn := fun hb1 => by
    obtain ⟨h1, h2, h3⟩ := hb hb1
    have : (nats R).length = rn := by unfold nats; rw [List.length_map, hrn]
    rw [h2, h3]
    unfold wsOf
    simp [this]
  have hgat : b = true → ∀ (i : Nat) (z : Int), R[i]? = some z → ∃ r g : Nat, z = r ∧ r < 2 * G.nodes.length ∧ gs[i]? = some g ∧ g < 2 ^ 64 ∧ g = wref U64 (wvF U64 I G.nodes).1 r ∧ os[i]? = some (g.testBit 0) := fun hb1 i z hz => by
    obtain ⟨h1, h2, h3⟩ := hb hb1
    obtain ⟨q1, q2⟩ := badIn_no h1
    have hz2 : (nats R)[i]? = some z.toNat := by unfold nats; rw [List.getElem?_map, hz]; rfl
    have hzr := q2 _ (List.mem_of_getElem? hz2)
    have hznn : z = (z.toNat : Int) := by
      have : ((nats R).map (fun (r : Nat) => (r : Int)))[i]? = some z := by rw [q1, hz]
      rw [List.getElem?_map, hz2] at this
      simpa using this.symm
    have hw : (wsOf I G.nodes (nats R))[i]? = some (wref U64 (wvF U64 I G.nodes).1 z.toNat) := by
      unfold wsOf
      rw [List.getElem?_map, hz2]
      rfl
    refine ⟨z.toNat, _, hznn, hzr, by rw [h2]; exact hw, ?_, rfl, by rw [h3, List.getElem?_map, hw]; rfl⟩
    have := wref_lt (N := 64) (vs := (wvF U64 I G.nodes).1) hVlt z.toNat
    rw [u64_pow] at this
    exact this
  have hVl : (wvF U64 I G.nodes).1.length = G.nodes.length := wvF_len _ _ _
  have hvn1 := fun k => valsN_le (colN_le I k) G.nodes
  have hvnl := fun k => valsN_len (colN I k) G.nodes
  have hwr1 := fun (k r : Nat) => wref1 (valsN (colN I k) G.nodes) r
  generalize (wvF U64 I G.nodes).1 = V at *
  have hgl1 : b = true → gn = rn ∧ on = rn := fun hb1 => by
    obtain ⟨h1, h2⟩ := hgl hb1
    omega
  have HRG := Lib.hid h; clear h
  have HVAL := Lib.hid hVAL; clear hVAL
  have HCOL := Lib.hid hCOL; clear hCOL
  have HNODE := Lib.hid hnode; clear hnode
  have HREF := Lib.hid href; clear href
  have HVLT := Lib.hid hVlt; clear hVlt
  have HGAT := Lib.hid hgat; clear hgat
  have HVL := Lib.hid hVl; clear hVl
  have HVN1 := Lib.hid hvn1; clear hvn1
  have HVNL := Lib.hid hvnl; clear hvnl
  have HWR1 := Lib.hid hwr1; clear hwr1
  have HR := Lib.hid hR; clear hR
  have HV := Lib.hid hV; clear hV
  have HG := Lib.hid hG; clear hG
  have HO := Lib.hid hO; clear hO
  have HRN := Lib.hid hrn; clear hrn
  have e1 : ((G.nodes.length : Int) != (G.nodes.length : Int)) = false := by simp
  have hgb : (b = false) ∨ (b = true ∧ gn = rn ∧ on = rn) := by
    cases b
    · exact .inl rfl
    · exact .inr ⟨rfl, hgl1 rfl⟩
  clear hb hgl hgl1 hm hI hlt hgn hon hin
  have hgo : ∀ (gn' on' : Nat), (b = true → gn' = rn ∧ on' = rn) → True := fun _ _ _ => trivial
  clear hgo
  go_enter Try.func97, Try.ntmps97
  go_upto_region 1 with fail
  refine wp_alw ?_
  intro W0 hW0
  have hb0 := alw_blk (xs := [.int .i64 G.most, .slice (some ⟨rb, 0, none⟩) G.nodes.length rcap]) hW0
  have HC0 := Lib.hid (alw_ch hW0)
  clear hW0
  generalize w.heap.size = bx at hb0 ⊢
  have cx1 := hb0.cell (i := 1) rfl
  have HB0 := Lib.hid hb0; clear hb0
  have e2 : ((rn : Int) != (rn : Int)) = false := by simp
  rcases hgb with hb0 | ⟨hb1, hg1, ho1⟩
  · subst hb0
    clear HGAT
    go_wp2_with fail
    clear cx1
    go_loopw [45] (fun i wr => ∃ k : Nat, k ≤ 64 ∧ i = .int .i64 k ∧ Ch [] W0 wr) (fun i _ => 64 - (intOf i).toNat)
    case atStart => exact ⟨0, by omega, rfl, Ch.refl _ _⟩
    case round =>
      obtain ⟨k, hk, rfl, hc⟩ := hrel
      by_cases hlt : k < 64
      · have d1 : decide ((k : Int) < 64) = true := decide_eq_true (by omega)
        have bR := HB0.out.ch hc (by simp)
        have HBR := Lib.hid bR
        have cx0 := bR.cell (i := 0) rfl
        have cx1 := bR.cell (i := 1) rfl
        have HC := Lib.hid hc; clear hc bR
        go_upto_region 6 with fail
        go_cut [16] (fun v wd => ∃ va vc, v = .slice va G.nodes.length vc ∧ Sv wd va (refsCells (valsN (colN I k) G.nodes)) ∧ Ch [] W0 wd)
        case first =>
          refine Ord.St.door (fun w' => w'.cell? ⟨bx, 0, none⟩ = some (.int .i64 G.most) ∧ w'.cell? ⟨bx, 1, none⟩ = some (.slice (some ⟨rb, 0, none⟩) G.nodes.length rcap)) [.ho, .fl, .fl, .ef, .ef, .fl] [0, 0, 0, 6, 15, 31] [0, 1, 2, 3, 4, 5] mixed (by kernel_rfl) rfl ?_
          obtain ⟨Wc, hWc⟩ : ∃ Wc, Wc = wr.drew := ⟨_, rfl⟩
          rw [← hWc]
          have hcc : Ch [] wr Wc := by rw [hWc]; exact (Ch.refl _ _).drew
          clear hWc cx0 cx1
          have HCC := Lib.hid hcc
          have cx0 := (HBR.out.ch hcc (by simp)).cell (i := 0) rfl
          have cx1 := (HBR.out.ch hcc (by simp)).cell (i := 1) rfl
          clear hcc
          refine Ord.St.ho2 (T' := ?_) 0 [1, 2, 3, 4, 5] _ _ rfl (by kernel_rfl) rfl rfl rfl rfl ?_ (fun K w' hw' hk => ?_) ?_
          rotate_left
          · exact ⟨cx0, cx1⟩
          · obtain ⟨q1, q2⟩ := hw'; go_step; exact hk
          refine Ord.St.fl2 (T' := ?_) 1 [2, 3, 4, 5] _ _ rfl (by kernel_rfl) rfl rfl rfl rfl (fun K w' hk => ?_) ?_
          rotate_left
          · go_step; exact hk
          refine Ord.St.fl2 (T' := ?_) 2 [3, 4, 5] _ _ rfl (by kernel_rfl) rfl rfl rfl rfl (fun K w' hk => ?_) ?_
          rotate_left
          · go_step; exact hk
          refine Ord.St.efC 3 [4, 5] _ rfl (by kernel_rfl) (fun K hK => ?_)
          have hco := HCOL.out Wc ((HC0.out.trans HC.out (by simp)).trans HCC.out (by simp)) k (by omega)
          have HCO := Lib.hid hco
          clear hco
          go_wp2_with fail
          refine HCO.out.mono ?_
          rintro e w3 ⟨v, rfl, hrw, _, hc3⟩
          obtain ⟨aa, ac, rfl⟩ := row.shape hrw
          have hsv := row.sv hrw rfl (by omega)
          have HCD := Lib.hid (HCC.out.trans hc3 (by simp))
          have hvv := HVAL.out w3 ((HC0.out.trans HC.out (by simp)).trans HCD.out (by simp)) k aa ac hsv
          have HVV := Lib.hid hvv
          clear hrw hsv hvv hc3 cx0 cx1 HCO
          have cx0 := (HBR.out.ch HCD.out (by simp)).cell (i := 0) rfl
          have cx1 := (HBR.out.ch HCD.out (by simp)).cell (i := 1) rfl
          go_wp2_with fail
          refine ⟨rfl, hK _ _ ?_ ?_⟩
          · exact ⟨cx0, cx1⟩
          clear hK K
          refine Ord.St.ef 4 [5] _ rfl (by kernel_rfl) (fun K hK => ?_)
          go_wp2_with fail
          refine HVV.out.mono ?_
          rintro e w4 ⟨v, rfl, hrw, _, hc4⟩
          obtain ⟨ab, ad, rfl⟩ := row.shape hrw
          have hsv := row.sv hrw rfl (by omega)
          have HSV := Lib.hid hsv
          have HCE := Lib.hid ((HC.out.trans HCD.out (by simp)).trans hc4 (by simp))
          clear hrw hsv hc4 cx0 cx1 HVV
          go_wp2_with fail
          refine ⟨rfl, hK _ _ ?_⟩; clear hK K
          refine Ord.St.fl2 (T' := ?_) 5 [] _ _ rfl (by kernel_rfl) rfl rfl rfl rfl (fun K w' hk => ?_) ?_
          rotate_left
          · go_step; exact hk
          refine Ord.St.nil ?_
          go_wp2_with fail
          go_meet
          case rel => exact ⟨ab, ad, rfl, HSV.out, HCE.out⟩
        case rest =>
          obtain ⟨va, vc, rfl, hsv, hcc⟩ := hcut
          have HSV := Lib.hid hsv; clear hsv
          have HCC := Lib.hid hcc; clear hcc
          clear cx0 cx1 HBR HC
          have hvl := HVNL.out k
          have hv1 := HVN1.out k
          have hnd := fun i hi => HNODE.out i k hlt hi
          have hrf := fun r => HREF.out r k hlt
          have hwr := HWR1.out k
          generalize valsN (colN I k) G.nodes = VV at *
          have HND := Lib.hid hnd; clear hnd
          have HRF := Lib.hid hrf; clear hrf
          have HWR := Lib.hid hwr; clear hwr
          have HVVL := Lib.hid hvl; clear hvl
          have HVV1 := Lib.hid hv1; clear hv1
          go_wp2_with fail
          go_loopw [55] (fun i wr => ∃ j : Nat, j ≤ G.nodes.length ∧ i = .int .i64 j ∧ Ch [] wc wr) (fun i _ => G.nodes.length - (intOf i).toNat)
          case atStart => exact ⟨0, by omega, rfl, Ch.refl _ _⟩
          case round =>
            obtain ⟨j, hj, rfl, hc⟩ := hrel
            by_cases hjl : j < G.nodes.length
            · obtain ⟨v, x, hx, hv, hvx⟩ := HND.out j hjl
              have hxb := HVLT.out x (List.mem_of_getElem? hx)
              obtain ⟨b1, o1, rfl, c1⟩ := (HV.out.ch ((HC0.out.trans HCC.out (by simp)).trans hc (by simp)) (by simp)).cells j (.int .u64 x) (u64s_get hx)
              obtain ⟨b2, o2, rfl, c2⟩ := (HSV.out.ch hc (by simp)).cells j (.int .i64 v) (by unfold refsCells; rw [List.getElem?_map, hv]; rfl)
              have hqb := half_bit x k
              obtain ⟨q, hq⟩ : ∃ q, x / 2 ^ k = q := ⟨_, rfl⟩
              have hqx : q ≤ x := by rw [← hq]; exact Nat.div_le_self _ _
              rw [← hvx, hq] at hqb
              have hvb : v ≤ 1 := by omega
              have ee2 : (q : Int) % 2 = (v : Int) := by omega
              have ee1 : ∀ [Nonempty Unit], (x : Int) / 2 ^ k = (q : Int) := by rw [← hq]; simp
              have evv : ((v : Int) != (v : Int)) = false := by simp
              have HC := Lib.hid hc; clear hc hx hv hvx hqb hq
              go_wp2_with fail
              refine Ord.St.door (fun _ => True) [.fl, .fl, .fl, .fl, .fl, .fl, .fl, .fl, .rd, .fl] [0, 0, 3, 7, 15, 0, 0, 96, 224, 511] [0, 1, 2, 3, 4, 5, 6, 7, 8, 9] mixed (by kernel_rfl) rfl ?_
              refine Ord.St.fl2 (T' := ?_) 0 [1, 2, 3, 4, 5, 6, 7, 8, 9] _ _ rfl (by kernel_rfl) rfl rfl rfl rfl (fun K w' hk => ?_) ?_
              rotate_left
              · go_step; exact hk
              refine Ord.St.fl2 (T' := ?_) 1 [2, 3, 4, 5, 6, 7, 8, 9] _ _ rfl (by kernel_rfl) rfl rfl rfl rfl (fun K w' hk => ?_) ?_
              rotate_left
              · go_step; exact hk
              refine Ord.St.fl2 (T' := ?_) 2 [3, 4, 5, 6, 7, 8, 9] _ _ rfl (by kernel_rfl) rfl rfl rfl rfl (fun K w' hk => ?_) ?_
              rotate_left
              · go_step; exact hk
              refine Ord.St.fl2 (T' := ?_) 3 [4, 5, 6, 7, 8, 9] _ _ rfl (by kernel_rfl) rfl rfl rfl rfl (fun K w' hk => ?_) ?_
              rotate_left
              · go_step; exact hk
              refine Ord.St.fl2 (T' := ?_) 4 [5, 6, 7, 8, 9] _ _ rfl (by kernel_rfl) rfl rfl rfl rfl (fun K w' hk => ?_) ?_
              rotate_left
              · go_step; exact hk
              refine Ord.St.fl2 (T' := ?_) 5 [6, 7, 8, 9] _ _ rfl (by kernel_rfl) rfl rfl rfl rfl (fun K w' hk => ?_) ?_
              rotate_left
              · go_step; exact hk
              refine Ord.St.fl2 (T' := ?_) 6 [7, 8, 9] _ _ rfl (by kernel_rfl) rfl rfl rfl rfl (fun K w' hk => ?_) ?_
              rotate_left
              · go_step; exact hk
              refine Ord.St.fl2 (T' := ?_) 7 [8, 9] _ _ rfl (by kernel_rfl) rfl rfl rfl rfl (fun K w' hk => ?_) ?_
              rotate_left
              · go_step; exact hk
              refine Ord.St.rd2 (T' := ?_) 8 [9] _ _ rfl (by kernel_rfl) rfl rfl rfl rfl (fun K hk => ?_) ?_
              rotate_left
              · go_step; exact hk
              refine Ord.St.fl2 (T' := ?_) 9 [] _ _ rfl (by kernel_rfl) rfl rfl rfl rfl (fun K w' hk => ?_) ?_
              rotate_left
              · go_step; exact hk
              refine Ord.St.nil ?_
              clear c1 c2 ee1 ee2 evv
              go_wp2_with fail
              go_roundw
              case rel => exact ⟨j + 1, by omega, by go_num, HC.out.drew⟩
              case measure => simp [intOf]; omega
            · have HC1 := Lib.hid (HCC.out.trans hc (by simp))
              have HSVr := Lib.hid (HSV.out.ch hc (by simp)); clear hc
              obtain ⟨wo, hwo⟩ : ∃ wo, wo = wr := ⟨_, rfl⟩
              subst hwo
              go_wp2_with fail
              go_loopw [73] (fun i wr => ∃ j : Nat, j ≤ rn ∧ i = .int .i64 j ∧ wo = wr) (fun i _ => rn - (intOf i).toNat)
              case atStart => exact ⟨0, by omega, rfl, rfl⟩
              case round =>
                obtain ⟨j2, hj2, rfl, rfl⟩ := hrel
                by_cases hjr : j2 < rn
                · obtain ⟨z, hz⟩ : ∃ z, R[j2]? = some z := ⟨_, List.getElem?_eq_getElem (by rw [HRN.out]; exact hjr)⟩
                  obtain ⟨b3, o3, rfl, c3⟩ := (HR.out.ch (HC0.out.trans HC1.out (by simp)) (by simp)).cells j2 z hz
                  go_wp2_with fail
                  go_roundw
                  case rel => exact ⟨k + 1, by omega, by go_num, HC1.out⟩
                  case measure => simp [intOf]; omega
                · go_wp2_with fail
                  go_roundw
                  case rel => exact ⟨k + 1, by omega, by go_num, HC1.out⟩
                  case measure => simp [intOf]; omega
      · have HC := Lib.hid hc; clear hc
        go_wp2_with fail
        go_ret
        exact ⟨rfl, HC0.out.trans HC.out (by simp)⟩
  · subst hb1
    obtain rfl : rn = gn := hg1.symm
    obtain rfl : rn = on := ho1.symm
    have HGA := Lib.hid (HGAT.out rfl); clear HGAT
    go_wp2_with fail
    clear cx1
    go_loopw [45] (fun i wr => ∃ k : Nat, k ≤ 64 ∧ i = .int .i64 k ∧ Ch [] W0 wr) (fun i _ => 64 - (intOf i).toNat)
    case atStart => exact ⟨0, by omega, rfl, Ch.refl _ _⟩
    case round =>
      obtain ⟨k, hk, rfl, hc⟩ := hrel
      by_cases hlt : k < 64
      · have d1 : decide ((k : Int) < 64) = true := decide_eq_true (by omega)
        have bR := HB0.out.ch hc (by simp)
        have HBR := Lib.hid bR
        have cx0 := bR.cell (i := 0) rfl
        have cx1 := bR.cell (i := 1) rfl
        have HC := Lib.hid hc; clear hc bR
        go_upto_region 6 with fail
        go_cut [16] (fun v wd => ∃ va vc, v = .slice va G.nodes.length vc ∧ Sv wd va (refsCells (valsN (colN I k) G.nodes)) ∧ Ch [] W0 wd)
        case first =>
          refine Ord.St.door (fun w' => w'.cell? ⟨bx, 0, none⟩ = some (.int .i64 G.most) ∧ w'.cell? ⟨bx, 1, none⟩ = some (.slice (some ⟨rb, 0, none⟩) G.nodes.length rcap)) [.ho, .fl, .fl, .ef, .ef, .fl] [0, 0, 0, 6, 15, 31] [0, 1, 2, 3, 4, 5] mixed (by kernel_rfl) rfl ?_
          obtain ⟨Wc, hWc⟩ : ∃ Wc, Wc = wr.drew := ⟨_, rfl⟩
          rw [← hWc]
          have hcc : Ch [] wr Wc := by rw [hWc]; exact (Ch.refl _ _).drew
          clear hWc cx0 cx1
          have HCC := Lib.hid hcc
          have cx0 := (HBR.out.ch hcc (by simp)).cell (i := 0) rfl
          have cx1 := (HBR.out.ch hcc (by simp)).cell (i := 1) rfl
          clear hcc
          refine Ord.St.ho2 (T' := ?_) 0 [1, 2, 3, 4, 5] _ _ rfl (by kernel_rfl) rfl rfl rfl rfl ?_ (fun K w' hw' hk => ?_) ?_
          rotate_left
          · exact ⟨cx0, cx1⟩
          · obtain ⟨q1, q2⟩ := hw'; go_step; exact hk
          refine Ord.St.fl2 (T' := ?_) 1 [2, 3, 4, 5] _ _ rfl (by kernel_rfl) rfl rfl rfl rfl (fun K w' hk => ?_) ?_
          rotate_left
          · go_step; exact hk
          refine Ord.St.fl2 (T' := ?_) 2 [3, 4, 5] _ _ rfl (by kernel_rfl) rfl rfl rfl rfl (fun K w' hk => ?_) ?_
          rotate_left
          · go_step; exact hk
          refine Ord.St.efC 3 [4, 5] _ rfl (by kernel_rfl) (fun K hK => ?_)
          have hco := HCOL.out Wc ((HC0.out.trans HC.out (by simp)).trans HCC.out (by simp)) k (by omega)
          have HCO := Lib.hid hco
          clear hco
          go_wp2_with fail
          refine HCO.out.mono ?_
          rintro e w3 ⟨v, rfl, hrw, _, hc3⟩
          obtain ⟨aa, ac, rfl⟩ := row.shape hrw
          have hsv := row.sv hrw rfl (by omega)
          have HCD := Lib.hid (HCC.out.trans hc3 (by simp))
          have hvv := HVAL.out w3 ((HC0.out.trans HC.out (by simp)).trans HCD.out (by simp)) k aa ac hsv
          have HVV := Lib.hid hvv
          clear hrw hsv hvv hc3 cx0 cx1 HCO
          have cx0 := (HBR.out.ch HCD.out (by simp)).cell (i := 0) rfl
          have cx1 := (HBR.out.ch HCD.out (by simp)).cell (i := 1) rfl
          go_wp2_with fail
          refine ⟨rfl, hK _ _ ?_ ?_⟩
          · exact ⟨cx0, cx1⟩
          clear hK K
          refine Ord.St.ef 4 [5] _ rfl (by kernel_rfl) (fun K hK => ?_)
          go_wp2_with fail
          refine HVV.out.mono ?_
          rintro e w4 ⟨v, rfl, hrw, _, hc4⟩
          obtain ⟨ab, ad, rfl⟩ := row.shape hrw
          have hsv := row.sv hrw rfl (by omega)
          have HSV := Lib.hid hsv
          have HCE := Lib.hid ((HC.out.trans HCD.out (by simp)).trans hc4 (by simp))
          clear hrw hsv hc4 cx0 cx1 HVV
          go_wp2_with fail
          refine ⟨rfl, hK _ _ ?_⟩; clear hK K
          refine Ord.St.fl2 (T' := ?_) 5 [] _ _ rfl (by kernel_rfl) rfl rfl rfl rfl (fun K w' hk => ?_) ?_
          rotate_left
          · go_step; exact hk
          refine Ord.St.nil ?_
          go_wp2_with fail
          go_meet
          case rel => exact ⟨ab, ad, rfl, HSV.out, HCE.out⟩
        case rest =>
          obtain ⟨va, vc, rfl, hsv, hcc⟩ := hcut
          have HSV := Lib.hid hsv; clear hsv
          have HCC := Lib.hid hcc; clear hcc
          clear cx0 cx1 HBR HC
          have hvl := HVNL.out k
          have hv1 := HVN1.out k
          have hnd := fun i hi => HNODE.out i k hlt hi
          have hrf := fun r => HREF.out r k hlt
          have hwr := HWR1.out k
          generalize valsN (colN I k) G.nodes = VV at *
          have HND := Lib.hid hnd; clear hnd
          have HRF := Lib.hid hrf; clear hrf
          have HWR := Lib.hid hwr; clear hwr
          have HVVL := Lib.hid hvl; clear hvl
          have HVV1 := Lib.hid hv1; clear hv1
          go_wp2_with fail
          go_loopw [55] (fun i wr => ∃ j : Nat, j ≤ G.nodes.length ∧ i = .int .i64 j ∧ Ch [] wc wr) (fun i _ => G.nodes.length - (intOf i).toNat)
          case atStart => exact ⟨0, by omega, rfl, Ch.refl _ _⟩
          case round =>
            obtain ⟨j, hj, rfl, hc⟩ := hrel
            by_cases hjl : j < G.nodes.length
            · obtain ⟨v, x, hx, hv, hvx⟩ := HND.out j hjl
              have hxb := HVLT.out x (List.mem_of_getElem? hx)
              obtain ⟨b1, o1, rfl, c1⟩ := (HV.out.ch ((HC0.out.trans HCC.out (by simp)).trans hc (by simp)) (by simp)).cells j (.int .u64 x) (u64s_get hx)
              obtain ⟨b2, o2, rfl, c2⟩ := (HSV.out.ch hc (by simp)).cells j (.int .i64 v) (by unfold refsCells; rw [List.getElem?_map, hv]; rfl)
              have hqb := half_bit x k
              obtain ⟨q, hq⟩ : ∃ q, x / 2 ^ k = q := ⟨_, rfl⟩
              have hqx : q ≤ x := by rw [← hq]; exact Nat.div_le_self _ _
              rw [← hvx, hq] at hqb
              have hvb : v ≤ 1 := by omega
              have ee2 : (q : Int) % 2 = (v : Int) := by omega
              have ee1 : ∀ [Nonempty Unit], (x : Int) / 2 ^ k = (q : Int) := by rw [← hq]; simp
              have evv : ((v : Int) != (v : Int)) = false := by simp
              have HC := Lib.hid hc; clear hc hx hv hvx hqb hq
              go_wp2_with fail
              refine Ord.St.door (fun _ => True) [.fl, .fl, .fl, .fl, .fl, .fl, .fl, .fl, .rd, .fl] [0, 0, 3, 7, 15, 0, 0, 96, 224, 511] [0, 1, 2, 3, 4, 5, 6, 7, 8, 9] mixed (by kernel_rfl) rfl ?_
              refine Ord.St.fl2 (T' := ?_) 0 [1, 2, 3, 4, 5, 6, 7, 8, 9] _ _ rfl (by kernel_rfl) rfl rfl rfl rfl (fun K w' hk => ?_) ?_
              rotate_left
              · go_step; exact hk
              refine Ord.St.fl2 (T' := ?_) 1 [2, 3, 4, 5, 6, 7, 8, 9] _ _ rfl (by kernel_rfl) rfl rfl rfl rfl (fun K w' hk => ?_) ?_
              rotate_left
              · go_step; exact hk
              refine Ord.St.fl2 (T' := ?_) 2 [3, 4, 5, 6, 7, 8, 9] _ _ rfl (by kernel_rfl) rfl rfl rfl rfl (fun K w' hk => ?_) ?_
              rotate_left
              · go_step; exact hk
              refine Ord.St.fl2 (T' := ?_) 3 [4, 5, 6, 7, 8, 9] _ _ rfl (by kernel_rfl) rfl rfl rfl rfl (fun K w' hk => ?_) ?_
              rotate_left
              · go_step; exact hk
              refine Ord.St.fl2 (T' := ?_) 4 [5, 6, 7, 8, 9] _ _ rfl (by kernel_rfl) rfl rfl rfl rfl (fun K w' hk => ?_) ?_
              rotate_left
              · go_step; exact hk
              refine Ord.St.fl2 (T' := ?_) 5 [6, 7, 8, 9] _ _ rfl (by kernel_rfl) rfl rfl rfl rfl (fun K w' hk => ?_) ?_
              rotate_left
              · go_step; exact hk
              refine Ord.St.fl2 (T' := ?_) 6 [7, 8, 9] _ _ rfl (by kernel_rfl) rfl rfl rfl rfl (fun K w' hk => ?_) ?_
              rotate_left
              · go_step; exact hk
              refine Ord.St.fl2 (T' := ?_) 7 [8, 9] _ _ rfl (by kernel_rfl) rfl rfl rfl rfl (fun K w' hk => ?_) ?_
              rotate_left
              · go_step; exact hk
              refine Ord.St.rd2 (T' := ?_) 8 [9] _ _ rfl (by kernel_rfl) rfl rfl rfl rfl (fun K hk => ?_) ?_
              rotate_left
              · go_step; exact hk
              refine Ord.St.fl2 (T' := ?_) 9 [] _ _ rfl (by kernel_rfl) rfl rfl rfl rfl (fun K w' hk => ?_) ?_
              rotate_left
              · go_step; exact hk
              refine Ord.St.nil ?_
              clear c1 c2 ee1 ee2 evv
              go_wp2_with fail
              go_roundw
              case rel => exact ⟨j + 1, by omega, by go_num, HC.out.drew⟩
              case measure => simp [intOf]; omega
            · have HC1 := Lib.hid (HCC.out.trans hc (by simp))
              have HSVr := Lib.hid (HSV.out.ch hc (by simp)); clear hc
              obtain ⟨wo, hwo⟩ : ∃ wo, wo = wr := ⟨_, rfl⟩
              subst hwo
              go_wp2_with fail
              go_loopw [73] (fun i wr => ∃ j : Nat, j ≤ rn ∧ i = .int .i64 j ∧ wo = wr) (fun i _ => rn - (intOf i).toNat)
              case atStart => exact ⟨0, by omega, rfl, rfl⟩
              case round =>
                obtain ⟨j2, hj2, rfl, rfl⟩ := hrel
                by_cases hjr : j2 < rn
                · obtain ⟨z, hz⟩ : ∃ z, R[j2]? = some z := ⟨_, List.getElem?_eq_getElem (by rw [HRN.out]; exact hjr)⟩
                  obtain ⟨b3, o3, rfl, c3⟩ := (HR.out.ch (HC0.out.trans HC1.out (by simp)) (by simp)).cells j2 z hz
                  obtain ⟨r, gv, hzr, hrl2, hgv, hgb2, hgw, hov⟩ := HGA.out j2 z hz
                  subst hzr
                  obtain ⟨L, hL⟩ : ∃ L, r / 2 = L := ⟨_, rfl⟩
                  obtain ⟨rm, hrm⟩ : ∃ rm, r % 2 = rm := ⟨_, rfl⟩
                  obtain ⟨p, hp2⟩ : ∃ p, VV[L]? = some p := ⟨_, List.getElem?_eq_getElem (by rw [HVVL.out]; omega)⟩
                  have hp1 := HVV1.out p (List.mem_of_getElem? hp2)
                  have hx1 := HWR.out r
                  rw [HRF.out r, hL, hrm, List.getD_eq_getElem?_getD, hp2, ← hgw] at hx1
                  simp only [Option.getD_some] at hx1
                  obtain ⟨b4, o4, rfl, c4⟩ := (HSVr.out).cells L (.int .i64 p) (by unfold refsCells; rw [List.getElem?_map, hp2]; rfl)
                  obtain ⟨b5, o5, rfl, c5⟩ := (HG.out.ch (HC0.out.trans HC1.out (by simp)) (by simp)).cells j2 (.int .u64 gv) (u64s_get hgv)
                  obtain ⟨b6, o6, rfl, c6⟩ := (HO.out.ch (HC0.out.trans HC1.out (by simp)) (by simp)).cells j2 (.bool (gv.testBit 0)) (by rw [List.getElem?_map, hov]; rfl)
                  have ex1 := bits_xor_i64_nat p rm (by omega) (by omega)
                  have hqb := half_bit gv k
                  rw [hx1] at hqb
                  have h0b := half_bit gv 0
                  obtain ⟨A, hA⟩ : ∃ A, p ^^^ rm = A := ⟨_, rfl⟩
                  rw [hA] at ex1 hqb hx1
                  obtain ⟨q, hq⟩ : ∃ q, gv / 2 ^ k = q := ⟨_, rfl⟩
                  have hqx : q ≤ gv := by rw [← hq]; exact Nat.div_le_self _ _
                  rw [hq] at hqb
                  have hAb : A ≤ 1 := by omega
                  have ee2 : (q : Int) % 2 = (A : Int) := by omega
                  have ee1 : ∀ [Nonempty Unit], (gv : Int) / 2 ^ k = (q : Int) := by rw [← hq]; simp
                  have evv : ((A : Int) != (A : Int)) = false := by simp
                  have el1 : (r : Int) / 2 = (L : Int) := by omega
                  have el2 : (r : Int) % 2 = (rm : Int) := by omega
                  have hLN : L < G.nodes.length := by omega
                  have hk0 : k = 0 → ((A : Int) == 1) = gv.testBit 0 := fun e => by
                    rw [e] at hx1
                    rw [← hx1]
                    cases gv.testBit 0 <;> rfl
                  have hrb2 : r ≤ 200000 := by omega
                  clear hz hgv hgw hov hp2 hL hrm hx1 hqb h0b hA hq
                  by_cases hk00 : k = 0
                  · have eq1 := hk0 hk00
                    obtain ⟨tb, htb⟩ : ∃ tb, gv.testBit 0 = tb := ⟨_, rfl⟩
                    rw [htb] at eq1 c6
                    have ek : ((k : Int) == 0) = true := by rw [hk00]; rfl
                    have ebb : (tb != tb) = false := by cases tb <;> rfl
                    clear htb hk0 hk00
                    go_wp2_with fail
                    go_roundw
                    case rel => exact ⟨j2 + 1, by omega, by go_num, trivial⟩
                    case measure => simp [intOf]; omega
                  · have ek : ((k : Int) == 0) = false := by rw [beq_eq_false_iff_ne]; omega
                    clear hk0
                    go_wp2_with fail
                    go_roundw
                    case rel => exact ⟨j2 + 1, by omega, by go_num, trivial⟩
                    case measure => simp [intOf]; omega
                · go_wp2_with fail
                  go_roundw
                  case rel => exact ⟨k + 1, by omega, by go_num, HC1.out⟩
                  case measure => simp [intOf]; omega
      · have HC := Lib.hid hc; clear hc
        go_wp2_with fail
        go_ret
        exact ⟨rfl, HC0.out.trans HC.out (by simp)⟩
end
end Go.Proofs.Ytnmfdiiehkkjcaa
namespace Go.Proofs.Ytnmfdiiehkkjcaa
open Go.RowKit Go.Mem Go.Aig
section
variable {w : World}
theorem intSl {w : World} {a : Option Addr} {n c : Nat} {l : List Int} (h : row w 29 1 (.slice a n c) n (intCells l)) (hn : n ≤ 1000000) : Sl w a l := Sl.of_ints h hn
theorem badIn_take {G : Gra} {R : List Int} {j : Nat} {z : Int} (hz : R[j]? = some z) : (!badIn G (R.take (j + 1))) = (!badIn G (R.take j) && right G.nodes z) := by
  unfold badIn
  rw [List.take_add_one, hz, List.any_append]
  simp
set_option maxRecDepth 100000 in
set_option maxHeartbeats 8000000 in
theorem words21_is {a : Option Addr} {n ncap : Nat} {l : List N21} (hS : NodeS w a n ncap l) (hn : n ≤ 61) {xa : Option Addr} {m xc : Nat} {I : List Nat} (hX : NumS .u64 64 w xa m xc I) (hm70 : m ≤ 70) {ra : Option Addr} {rn rc : Nat} {R : List Int} (hR : IntS w ra rn rc R) (hr20 : rn ≤ 20) :
    Calls Try.prog 37 #[.slice a n ncap, .slice xa m xc, .slice ra rn rc] w fun e w' => e = .returned (.bool true) ∧ Ch [] w w' := by
  have hBU := build21_is hS hn
  have hIN := fun (W : World) (hW : Ch [] w W) => inputs21_is (hS.ch hW) (by omega)
  have hlen := hX.len
  have hle := hX.le
  have hmx := hX.max
  have HBU := Lib.hid hBU; clear hBU
  have HIN := Lib.hid hIN; clear hIN hS
  have HX := Lib.hid hX; clear hX
  have hrlen := hR.len
  have hrle := hR.le
  have hrmx := hR.max
  have hRbd := hR.bd
  have HRR := Lib.hid hR; clear hR
  have HRB := Lib.hid hRbd; clear hRbd
  have HRL := Lib.hid hrlen; clear hrlen
  have HXL := Lib.hid hlen; clear hlen
  go_enter Try.func37, Try.ntmps37
  go_wp2_with fail
  refine HBU.out.mono ?_
  rintro e w1 ⟨g, F, rb, rcap, G, rfl, hb, hm, hnl, hil⟩
  have HBO := Lib.hid hb; clear hb HBU
  have HM := Lib.hid hm; clear hm
  have HIL0 := Lib.hid hil; clear hil
  go_upto_region 2 with fail
  refine wp_named fun W2 hW2 => ?_
  have hb2 := alw_blk (xs := [.int .i64 G.most, .slice (some ⟨rb, 0, none⟩) G.nodes.length rcap]) hW2
  have hb := HBO.out.same (alw_ch hW2)
  have ho : HS w W2 g G F [(some ⟨w1.heap.size, 0, none⟩, [.int .i64 G.most, .slice (some ⟨rb, 0, none⟩) G.nodes.length rcap]), (some ⟨rb, 0, none⟩, rCells G.nodes)] := (((⟨⟨hb.gin, hb.own, hb.ch⟩, by simp⟩ : HS w W2 g G F []).add hb.rg.sv).blk hb2 (by simp))
  have hgle := hb.rg.le
  have hgmx := hb.rg.mx
  have hok := hb.rg.ok
  have hpos := hok.wf.pos
  clear hW2 hb2 hb HBO
  generalize w1.heap.size = bx at ho ⊢
  have HO := Lib.hid ho; clear ho
  have HOK := Lib.hid hok; clear hok
  have hil := HIL0.out
  clear HIL0
  obtain ⟨k, hkk⟩ : ∃ k, cntI l = k := ⟨_, rfl⟩
  simp only [hkk] at HIN
  rw [hkk] at hil
  clear hkk
  have hk61 : k ≤ 62 := by
    have : ∀ (l : List Nd) (k : Nat), (inputsFrom l k).length ≤ l.length := fun l => by
      induction l with
      | nil => intro n; simp [inputsFrom]
      | cons a l ih => intro n; unfold inputsFrom; split <;> simp <;> have := ih (n + 1) <;> omega
    have := this G.nodes 0
    unfold inputs at hil
    omega
  have HIL := Lib.hid hil; clear hil
  have hRT : ∀ (W : World) (L : List (Option Addr × List Value)) (_ : HS w W g G F L) (_ : (some ⟨rb, 0, none⟩, rCells G.nodes) ∈ L) (r : Int), Calls Try.prog 73 #[.agg #[.int .i64 G.most, .slice (some ⟨rb, 0, none⟩) G.nodes.length rcap], .int .i64 r] W fun e w' => e = .returned (.bool (right G.nodes r)) ∧ Ch [] W w' := fun W L hh hmem r => rRight_is (RG.held (hh.held _ hmem) hgle hgmx HOK.out) r
  have HRT := Lib.hid hRT; clear hRT
  have HBT := Lib.hid (fun j z (hz : R[j]? = some z) => badIn_take (G := G) hz)
  have hb00 : (!badIn G (R.take 0)) = true := rfl
  have HB00 := Lib.hid hb00; clear hb00
  go_wp2_with fail
  go_loopw [10, 11, 38] (fun o q i wr => ∃ j : Nat, j ≤ rn ∧ i = .int .i64 j ∧ q = .bool (!badIn G (R.take j)) ∧ Ch [] W2 wr ∧ row wr 29 1 o j (intCells (R.take j)) ∧ (j = 0 → o = .slice none 0 0) ∧ ∀ z ∈ o.ownBlock.toList, W2.heap.size ≤ z) (fun _ _ i _ => rn - (intOf i).toNat)
  case atStart => exact ⟨0, by omega, rfl, by rw [HB00.out], Ch.refl _ _, ⟨rfl, .inl ⟨rfl, rfl⟩⟩, fun _ => rfl, by simp⟩
  case round =>
    obtain ⟨j, hj, rfl, rfl, hc, hrow, hj0, hlo⟩ := hrel
    obtain ⟨oa, oc, rfl⟩ := row.shape hrow
    have HJ0 := Lib.hid hj0; clear hj0
    have HROW := Lib.hid hrow; clear hrow
    have HLO := Lib.hid hlo; clear hlo
    by_cases hlt : j < rn
    · obtain ⟨z, hz⟩ : ∃ z, R[j]? = some z := ⟨_, List.getElem?_eq_getElem (by rw [HRL.out]; exact hlt)⟩
      have hbt := HBT.out j z hz
      have hts : R.take (j + 1) = R.take j ++ [z] := by rw [List.take_add_one, hz]; rfl
      obtain ⟨b1, o1, rfl, c1⟩ := (HRR.out.sl.ch (HO.out.own.ch.trans hc (by simp)) (by simp)).cells j z hz
      have hO := HO.out.same hc
      have HOr := Lib.hid hO; clear hO
      have HTS := Lib.hid hts; clear hts
      have HC := Lib.hid hc; clear hc hz
      obtain ⟨q, hq⟩ : ∃ q, (!badIn G (R.take j)) = q := ⟨_, rfl⟩
      rw [hq] at hbt ⊢
      have HBTJ := Lib.hid hbt; clear hbt hq
      have hcA : Ch [] wr (wr.alloc (.cells #[.int .i64 z] 29)) := (Ch.refl _ _).alloc _
      have hrA := HROW.out.ch hcA (by simp)
      have hbA : blk (wr.alloc (.cells #[.int .i64 z] 29)) wr.heap.size [.int .i64 z] := blk.new' _ _ rfl
      have HRA := Lib.hid hrA; clear hrA
      have HBA := Lib.hid hbA; clear hbA
      have HCA := Lib.hid hcA; clear hcA
      go_upto_region 10 with (at_builtin; go_loud (refine wpList_append_row slRefs rfl _ _ rfl (v := .slice oa j oc) (n := j) (xs := intCells (R.take j)) rfl HRA.out (ad := ⟨wr.heap.size, 0, none⟩) (m := 1) (c := 1) (news := [.int .i64 z]) rfl rfl (news_blk HBA.out) (by simp [Value.oneCell']) (by omega) (by omega) ?_; intro v' w5 hown4 hC4 hf4; have HO4 := Lib.hid hown4; clear hown4; have HC4 := Lib.hid hC4; clear hC4; have HF4 := Lib.hid hf4; clear hf4))
      have hown := HO4.out
      rw [show intCells (R.take j) ++ [.int .i64 z] = intCells (R.take j ++ [z]) by simp [intCells], ← HTS.out] at hown
      have HO5 := Lib.hid hown; clear hown HO4
      have hq5 := app_step HC.out HCA.out HLO.out HC4.out HF4.out
      have hH5 := HO.out.same hq5.1
      have HQ5 := Lib.hid hq5; clear hq5 HC4 HF4 HCA HBA HRA HROW HLO HC HOr
      have HH5 := Lib.hid hH5; clear hH5
      cases q
      · go_wp2_with fail
        go_roundw
        case rel => exact ⟨j + 1, by omega, by go_num, by rw [HBTJ.out]; rfl, HQ5.out.1, HO5.out, fun e => by omega, HQ5.out.2⟩
        case measure => simp [intOf]; omega
      · have cx0 := HH5.out.cellT (b := bx) (xs := [.int .i64 G.most, .slice (some ⟨rb, 0, none⟩) G.nodes.length rcap]) (by simp) (i := 0) rfl
        have cx1 := HH5.out.cellT (b := bx) (xs := [.int .i64 G.most, .slice (some ⟨rb, 0, none⟩) G.nodes.length rcap]) (by simp) (i := 1) rfl
        have hrt := HRT.out w5 _ HH5.out (by simp) z
        have HRT1 := Lib.hid hrt; clear hrt
        go_wp2_with fail
        refine HRT1.out.mono ?_
        rintro e w6 ⟨rfl, hc6⟩
        have HC6 := Lib.hid hc6; clear hc6 cx0 cx1
        go_wp2_with fail
        go_roundw
        case rel => exact ⟨j + 1, by omega, by go_num, by rw [HBTJ.out]; rfl, HQ5.out.1.trans HC6.out (by simp), HO5.out.ch HC6.out (by simp), fun e => by omega, HQ5.out.2⟩
        case measure => simp [intOf]; omega
    · have hjr : j = rn := by omega
      subst hjr
      have hrow := HROW.out
      rw [List.take_of_length_le (by rw [HRL.out]; omega)] at hrow
      have hosl := intSl hrow (by omega)
      have hosv := row.sv hrow rfl (by omega)
      obtain ⟨bad, hbad⟩ : ∃ bad, badIn G R = bad := ⟨_, rfl⟩
      rw [List.take_of_length_le (by rw [HRL.out]; omega), hbad]
      have ho := (HO.out.same hc).add hosv
      clear HO HROW HLO hc hrow hosv hlt hj
      have HO := Lib.hid ho; clear ho
      have HOSL := Lib.hid hosl; clear hosl
      have HBAD := Lib.hid hbad; clear hbad
      have hcl := CLu64_is (w := wr) (a := xa) (l := I) m xc HXL.out (HX.out.sv.ch HO.out.own.ch (by simp)) (by omega)
      have HCL := Lib.hid hcl; clear hcl
      go_wp2_with fail
      refine HCL.out.mono ?_
      rintro e w4 ⟨v, rfl, hrow, hv, hc4⟩
      obtain ⟨za, zc, rfl⟩ := row.shape hrow
      have hzcap := row.capLe' hrow
      have ho := (HO.out.same hc4).add (row.sv hrow rfl (by omega))
      have HOSL4 := Lib.hid (HOSL.out.ch hc4 (by simp))
      clear HO hrow hv hc4 HCL HOSL
      have HO := Lib.hid ho; clear ho
      have hIlt := HX.out.bd
      have HILT := Lib.hid hIlt; clear hIlt
      obtain ⟨B, hB⟩ : ∃ B, I.map (fun v => v.testBit 0) = B := ⟨_, rfl⟩
      have hBl : B.length = m := by rw [← hB, List.length_map, HXL.out]
      have hBt : ∀ (i v : Nat), I[i]? = some v → B.take (i + 1) = B.take i ++ [v.testBit 0] := fun i v hv => by
        rw [List.take_add_one]
        congr 1
        rw [← hB, List.getElem?_map, hv]
        rfl
      have HB := Lib.hid hB; clear hB
      have HBL := Lib.hid hBl; clear hBl
      have HBTK := Lib.hid hBt; clear hBt
      have HXS := Lib.hid (HX.out.sv.ch HO.out.own.ch (by simp))
      obtain ⟨wo, hwo⟩ : ∃ wo, wo = w4 := ⟨_, rfl⟩
      subst hwo
      go_wp2_with fail
      go_loopw [15, 57] (fun o i wr => ∃ s : Nat, s ≤ m ∧ i = .int .i64 s ∧ Ch [] wo wr ∧ row wr 4 1 o s (bools (B.take s)) ∧ ∀ q ∈ o.ownBlock.toList, wo.heap.size ≤ q) (fun _ i _ => m - (intOf i).toNat)
      case atStart => exact ⟨0, by omega, rfl, Ch.refl _ _, ⟨rfl, .inl ⟨rfl, rfl⟩⟩, by simp⟩
      case round =>
        obtain ⟨s, hs, rfl, hc, hrow, hlo⟩ := hrel
        obtain ⟨ba, bc, rfl⟩ := row.shape hrow
        have HROW := Lib.hid hrow; clear hrow
        have HLO := Lib.hid hlo; clear hlo
        by_cases hlt : s < m
        · obtain ⟨v, hv⟩ : ∃ v, I[s]? = some v := ⟨_, List.getElem?_eq_getElem (by rw [HXL.out]; exact hlt)⟩
          have hvb := HILT.out v (List.mem_of_getElem? hv)
          have hsn := HBTK.out s v hv
          obtain ⟨b1, o1, rfl, c1⟩ := (HXS.out.ch hc (by simp)).cells s (.int .u64 v) (by rw [List.getElem?_map, hv]; rfl)
          have hbit : (((v : Int) % 2) == 1) = v.testBit 0 := by
            have h1 := half_bit v 0
            rw [Nat.pow_zero, Nat.div_one] at h1
            cases h2 : v.testBit 0
            · rw [h2] at h1
              rw [beq_eq_false_iff_ne]
              simp at h1
              omega
            · rw [h2] at h1
              rw [beq_iff_eq]
              simp at h1
              omega
          have HC := Lib.hid hc; clear hc hv
          generalize v.testBit 0 = tb at hsn hbit
          have HSU := Lib.hid hsn; clear hsn
          have hcA : Ch [] wr (wr.alloc (.cells #[.bool tb] 4)) := (Ch.refl _ _).alloc _
          have hrA := HROW.out.ch hcA (by simp)
          have hbA : blk (wr.alloc (.cells #[.bool tb] 4)) wr.heap.size [.bool tb] := blk.new' _ _ rfl
          have HRA := Lib.hid hrA; clear hrA
          have HBA := Lib.hid hbA; clear hbA
          have HCA := Lib.hid hcA; clear hcA
          go_wp2_with (at_builtin; go_loud (refine wpList_append_row slBools rfl _ _ rfl (v := .slice ba s bc) (n := s) (xs := bools (B.take s)) rfl HRA.out (ad := ⟨wr.heap.size, 0, none⟩) (m := 1) (c := 1) (news := [.bool tb]) rfl rfl (news_blk HBA.out) (by simp [Value.oneCell']) (by omega) (by omega) ?_; intro v' w5 hown4 hC4 hf4; have HO4 := Lib.hid hown4; clear hown4; have HCC4 := Lib.hid hC4; clear hC4; have HF4 := Lib.hid hf4; clear hf4))
          go_roundw
          case rel =>
            obtain ⟨q1, q2⟩ := app_step HC.out HCA.out HLO.out HCC4.out HF4.out
            refine ⟨s + 1, by omega, by go_num, q1, ?_, q2⟩
            rw [HSU.out, show bools (B.take s ++ [tb]) = bools (B.take s) ++ [.bool tb] by simp [bools]]
            exact HO4.out
          case measure => simp [intOf]; omega
        · have hsm : s = m := by omega
          have hrow := HROW.out
          rw [hsm, List.take_of_length_le (by rw [HBL.out]; omega)] at hrow
          have ho := (HO.out.same hc).add (row.sv hrow rfl (by omega))
          have hin := HIN.out wr ho.own.ch
          have HIN1 := Lib.hid hin; clear hin
          have HOSL5 := Lib.hid (HOSL4.out.ch hc (by simp))
          rw [hsm]
          clear HO hc hrow HROW HLO hsm HOSL4
          have HO := Lib.hid ho; clear ho
          go_wp2_with fail
          refine HIN1.out.mono ?_
          rintro e w6 ⟨rfl, hc6⟩
          have ho := HO.out.same hc6
          have HOSL6 := Lib.hid (HOSL5.out.ch hc6 (by simp))
          clear HO hc6 HIN1 HOSL5
          have HO := Lib.hid ho; clear ho
          have hhl : ∀ (W : World) (L : List (Option Addr × List Value)) (_ : HS w W g G F L) (_ : (oa, intCells R) ∈ L), ∀ q, oa = some q → q.block < W.heap.size := fun W L hh hmem q hq => by
            by_cases h0 : j = 0
            · have := HJ0.out h0
              cases this
              cases hq
            · obtain ⟨b1, o1, e1, c1⟩ := (hh.held _ hmem).cells 0 _ (List.getElem?_eq_getElem (by simp [intCells, HRL.out]; omega))
              rw [hq] at e1
              cases e1
              exact cell_lt c1
          have HHL := Lib.hid hhl; clear hhl
          have hsl : ∀ (W : World) (L : List (Option Addr × List Value)) (_ : HS w W g G F L) (_ : (oa, intCells R) ∈ L), Sl W oa R := fun W L hh hmem => ⟨fun i x hx => (hh.held _ hmem).cells i _ (by unfold intCells; rw [List.getElem?_map, hx]; rfl), by have := (hh.held _ hmem).bd; simpa [intCells] using this⟩
          have HSL := Lib.hid hsl; clear hsl HOSL6
          by_cases hmk : m = k
          · have emk : ((m : Int) == (k : Int)) = true := by rw [hmk]; simp
            have hmI : I.length = (inputs G.nodes).length := by rw [HXL.out, HIL.out]; exact hmk
            have hmB : B.length = (inputs G.nodes).length := by rw [HBL.out, HIL.out]; exact hmk
            have hkm : (inputs G.nodes).length = m := by rw [HIL.out]; exact hmk.symm
            cases bad
            · have hbad := HBAD.out
              have nR : nodesR G I = ((wvF U64 I G.nodes).1, 0) := by unfold nodesR; rw [if_neg (by simpa using hmI)]
              have wR : wordsR G I R = (wsOf I G.nodes (nats R), 0) := by unfold wordsR; rw [hbad, if_neg (by simp), if_neg (by simpa using hmI)]
              have bR := bits_words hmI hbad (kk := 0) (by omega)
              rw [HB.out] at bR
              have hwl : (wsOf I G.nodes (nats R)).length = j := by unfold wsOf; rw [List.length_map]; unfold nats; rw [List.length_map, HRL.out]
              have sR : suppR G R = (suppL G.nodes (nats R) k, 0) := by unfold suppR; rw [hbad, HIL.out]; rfl
              obtain ⟨hbn1, hbn2⟩ := badIn_no hbad
              have hsl := suppL_len G.nodes (nats R) k
              obtain ⟨sn, hsn⟩ : ∃ sn, (suppL G.nodes (nats R) k).length = sn := ⟨_, rfl⟩
              rw [hsn] at hsl
              have HBN1 := Lib.hid hbn1; clear hbn1
              have HBN2 := Lib.hid hbn2; clear hbn2
              have HSN := Lib.hid hsn; clear hsn
              have WR := Lib.hid wR; clear wR
              have BR := Lib.hid bR; clear bR
              have SR := Lib.hid sR; clear sR
              have hND := simNodes_is HO.out.own.gin (xa := za) (ins := I) m zc HXL.out (HO.out.held (za, u64s I) (by simp)) HILT.out hzcap.1 hzcap.2 (by omega)
              rw [nR] at hND
              have HND := Lib.hid hND; clear hND nR hbad hmI hmB hmk
              have HWL := Lib.hid hwl; clear hwl
              have HKM := Lib.hid hkm; clear hkm
              go_wp2_with fail
              refine HND.out.mono ?_
              rintro e w7 ⟨v, rfl, hv1, hv2, hc7⟩
              obtain ⟨nb, hvn, _, hbn⟩ := hv1 (by first | rfl | trivial)
              subst hvn
              have ho := (HO.out.same hc7).blk hbn (by have := wvF_len U64 I G.nodes; rw [show (u64s (wvF U64 I G.nodes).1).length = (wvF U64 I G.nodes).1.length by simp [u64s], this]; omega)
              clear hv1 hv2 hc7 HND hbn
              clear HO; have HO := Lib.hid ho; clear ho
              go_wp2_with fail
              refine (simWords_h HO.out (xa := za) (ins := I) (by simp) HXL.out HILT.out hzcap.1 hzcap.2 (a := oa) (l := R) (n := j) (c := oc) HRL.out (HSL.out _ _ HO.out (by simp)) HRB.out (by omega) WR.out (k := j) HWL.out (by omega)).mono ?_
              rintro e w8 ⟨ga, gc, rfl, ho⟩
              clear HO; have HO := Lib.hid ho; clear ho
              go_wp2_with fail
              refine (simBits_h HO.out (xa := ba) (ins := B) (m := m) (by simp) HBL.out (by omega) (a := oa) (l := R) (n := j) (c := oc) HRL.out (HSL.out _ _ HO.out (by simp)) HRB.out (by omega) BR.out (k := j) (by rw [List.length_map]; exact HWL.out) (by omega)).mono ?_
              rintro e w9 ⟨ta, tc, rfl, ho⟩
              clear HO; have HO := Lib.hid ho; clear ho
              go_wp2_with fail
              refine (simSupport_h HO.out (a := oa) (l := R) (n := j) (c := oc) HRL.out (HSL.out _ _ HO.out (by simp)) (HHL.out _ _ HO.out (by simp)) HRB.out SR.out (k := sn) HSN.out (by omega)).mono ?_
              rintro e w10 ⟨ya, yc, rfl, ho⟩
              clear HO; have HO := Lib.hid ho; clear ho
              have cx0 := HO.out.cellT (b := bx) (xs := [.int .i64 G.most, .slice (some ⟨rb, 0, none⟩) G.nodes.length rcap]) (by simp) (i := 0) rfl
              have cx1 := HO.out.cellT (b := bx) (xs := [.int .i64 G.most, .slice (some ⟨rb, 0, none⟩) G.nodes.length rcap]) (by simp) (i := 1) rfl
              have hsp := r21Support_is (RG.held (HO.out.held (some ⟨rb, 0, none⟩, rCells G.nodes) (by simp)) hgle hgmx HOK.out) (a := ra) (l := nats R) j rc (by unfold nats; rw [List.length_map]; exact HRL.out) (by rw [show natInts (nats R) = R from HBN1.out]; exact HRR.out.sl.ch HO.out.own.ch (by simp)) HBN2.out (by omega)
              rw [HIL.out, HSN.out] at hsp
              have HSP := Lib.hid hsp; clear hsp
              go_wp2_with fail
              refine HSP.out.mono ?_
              rintro e w11 ⟨v, rfl, hrow, _, hc11⟩
              obtain ⟨qa, qc, rfl⟩ := row.shape hrow
              have ho := (HO.out.same hc11).add (row.sv hrow rfl (by omega))
              clear hrow hc11 HSP cx0 cx1
              clear HO; have HO := Lib.hid ho; clear ho
              go_wp2_with fail
              refine (Eqint_h HO.out (a := ya) (b := qa) (ca := yc) (cb := qc) (xs := natInts (suppL G.nodes (nats R) k)) (ys := natInts (suppL G.nodes (nats R) k)) (HO.out.slT (by simp)) (HO.out.slT (List.mem_cons_self ..)) (by rw [natInts_len]; exact HSN.out) (by rw [natInts_len]; exact HSN.out) (decide_eq_true rfl)).mono ?_
              rintro e w12 ⟨rfl, ho⟩
              clear HO; have HO := Lib.hid ho; clear ho
              have cx0 := HO.out.cellT (b := bx) (xs := [.int .i64 G.most, .slice (some ⟨rb, 0, none⟩) G.nodes.length rcap]) (by simp) (i := 0) rfl
              have cx1 := HO.out.cellT (b := bx) (xs := [.int .i64 G.most, .slice (some ⟨rb, 0, none⟩) G.nodes.length rcap]) (by simp) (i := 1) rfl
              have hco := columns21_is (RG.held (HO.out.held (some ⟨rb, 0, none⟩, rCells G.nodes) (by simp)) hgle hgmx HOK.out) (xa := xa) (I := I) m xc HXL.out (HX.out.sv.ch HO.out.own.ch (by simp)) HILT.out (by omega) HKM.out (ra := ra) (R := R) j rc HRL.out (HRR.out.sl.ch HO.out.own.ch (by simp)) (by omega) (na := some ⟨nb, 0, none⟩) G.nodes.length (HO.out.held (some ⟨nb, 0, none⟩, u64s (wvF U64 I G.nodes).1) (by simp)) (ga := ga) (gs := wsOf I G.nodes (nats R)) j gc HWL.out (HO.out.held (ga, u64s (wsOf I G.nodes (nats R))) (by simp)) (oa := ta) (os := (wsOf I G.nodes (nats R)).map fun (v : Nat) => v.testBit 0) j tc (by rw [List.length_map]; exact HWL.out) (HO.out.held (ta, bools ((wsOf I G.nodes (nats R)).map fun (v : Nat) => v.testBit 0)) (by simp)) true (fun _ => ⟨HBAD.out, rfl, rfl⟩)
              have HCO := Lib.hid hco; clear hco
              go_wp2_with fail
              refine HCO.out.mono ?_
              rintro e w13 ⟨rfl, hc13⟩
              have ho := HO.out.same hc13
              clear hc13 HCO cx0 cx1
              clear HO; have HO := Lib.hid ho; clear ho
              go_wp2_with fail
              refine (EQu64_h HO.out (a := za) (b := xa) (xs := I) (ys := I) (ca := zc) (cb := xc) (by simp) (HX.out.sv.ch HO.out.own.ch (by simp)) HXL.out HXL.out (decide_eq_true rfl)).mono ?_
              rintro e w14 ⟨rfl, ho⟩
              clear HO; have HO := Lib.hid ho; clear ho
              have hef := EFref_yes (w := w14) (a := oa) (b := ra) (xs := R) (ys := R) j oc rc 99 HRL.out HRL.out (by omega) (HSL.out _ _ HO.out (by simp)) (HRR.out.sl.ch HO.out.own.ch (by simp)) (fun i x y hx hy => by rw [hx] at hy; cases hy; exact words21_1_is x) fnvwords21_1
              have HEF := Lib.hid hef; clear hef
              go_wp2_with fail
              refine HEF.out.mono ?_
              rintro e w' ⟨rfl, rfl⟩
              go_wp2_with fail
              go_ret
              exact ⟨rfl, HO.out.own.ch⟩
            · have hbad := HBAD.out
              have nR : nodesR G I = ((wvF U64 I G.nodes).1, 0) := by unfold nodesR; rw [if_neg (by simpa using hmI)]
              have wR : wordsR G I R = ([], 200) := by unfold wordsR; rw [hbad]; rfl
              have bR : bitsR G B R = ([], 200) := by unfold bitsR; rw [hbad]; rfl
              have sR : suppR G R = ([], 200) := by unfold suppR; rw [hbad]; rfl
              have WR := Lib.hid wR; clear wR
              have BR := Lib.hid bR; clear bR
              have SR := Lib.hid sR; clear sR
              have hND := simNodes_is HO.out.own.gin (xa := za) (ins := I) m zc HXL.out (HO.out.held (za, u64s I) (by simp)) HILT.out hzcap.1 hzcap.2 (by omega)
              rw [nR] at hND
              have HND := Lib.hid hND; clear hND nR hbad hmI hmB hmk
              have HKM := Lib.hid hkm; clear hkm
              go_wp2_with fail
              refine HND.out.mono ?_
              rintro e w7 ⟨v, rfl, hv1, hv2, hc7⟩
              obtain ⟨nb, hvn, _, hbn⟩ := hv1 (by first | rfl | trivial)
              subst hvn
              have ho := (HO.out.same hc7).blk hbn (by have := wvF_len U64 I G.nodes; rw [show (u64s (wvF U64 I G.nodes).1).length = (wvF U64 I G.nodes).1.length by simp [u64s], this]; omega)
              clear hv1 hv2 hc7 HND hbn
              clear HO; have HO := Lib.hid ho; clear ho
              go_wp2_with fail
              refine (simWords_h HO.out (xa := za) (ins := I) (by simp) HXL.out HILT.out hzcap.1 hzcap.2 (a := oa) (l := R) (n := j) (c := oc) HRL.out (HSL.out _ _ HO.out (by simp)) HRB.out (by omega) WR.out (k := 0) rfl (by omega)).mono ?_
              rintro e w8 ⟨ga, gc, rfl, ho⟩
              clear HO; have HO := Lib.hid ho; clear ho
              go_wp2_with fail
              refine (simBits_h HO.out (xa := ba) (ins := B) (m := m) (by simp) HBL.out (by omega) (a := oa) (l := R) (n := j) (c := oc) HRL.out (HSL.out _ _ HO.out (by simp)) HRB.out (by omega) BR.out (k := 0) rfl (by omega)).mono ?_
              rintro e w9 ⟨ta, tc, rfl, ho⟩
              clear HO; have HO := Lib.hid ho; clear ho
              go_wp2_with fail
              refine (simSupport_h HO.out (a := oa) (l := R) (n := j) (c := oc) HRL.out (HSL.out _ _ HO.out (by simp)) (HHL.out _ _ HO.out (by simp)) HRB.out SR.out (k := 0) rfl (by omega)).mono ?_
              rintro e w10 ⟨ya, yc, rfl, ho⟩
              clear HO; have HO := Lib.hid ho; clear ho
              have cx0 := HO.out.cellT (b := bx) (xs := [.int .i64 G.most, .slice (some ⟨rb, 0, none⟩) G.nodes.length rcap]) (by simp) (i := 0) rfl
              have cx1 := HO.out.cellT (b := bx) (xs := [.int .i64 G.most, .slice (some ⟨rb, 0, none⟩) G.nodes.length rcap]) (by simp) (i := 1) rfl
              have hco := columns21_is (RG.held (HO.out.held (some ⟨rb, 0, none⟩, rCells G.nodes) (by simp)) hgle hgmx HOK.out) (xa := xa) (I := I) m xc HXL.out (HX.out.sv.ch HO.out.own.ch (by simp)) HILT.out (by omega) HKM.out (ra := ra) (R := R) j rc HRL.out (HRR.out.sl.ch HO.out.own.ch (by simp)) (by omega) (na := some ⟨nb, 0, none⟩) G.nodes.length (HO.out.held (some ⟨nb, 0, none⟩, u64s (wvF U64 I G.nodes).1) (by simp)) (ga := ga) (gs := []) 0 gc rfl (HO.out.held (ga, u64s []) (by simp)) (oa := ta) (os := []) 0 tc rfl (HO.out.held (ta, bools []) (by simp)) false (fun h => by cases h)
              have HCO := Lib.hid hco; clear hco
              go_wp2_with fail
              refine HCO.out.mono ?_
              rintro e w13 ⟨rfl, hc13⟩
              have ho := HO.out.same hc13
              clear hc13 HCO cx0 cx1
              clear HO; have HO := Lib.hid ho; clear ho
              go_wp2_with fail
              refine (EQu64_h HO.out (a := za) (b := xa) (xs := I) (ys := I) (ca := zc) (cb := xc) (by simp) (HX.out.sv.ch HO.out.own.ch (by simp)) HXL.out HXL.out (decide_eq_true rfl)).mono ?_
              rintro e w14 ⟨rfl, ho⟩
              clear HO; have HO := Lib.hid ho; clear ho
              have hef := EFref_yes (w := w14) (a := oa) (b := ra) (xs := R) (ys := R) j oc rc 99 HRL.out HRL.out (by omega) (HSL.out _ _ HO.out (by simp)) (HRR.out.sl.ch HO.out.own.ch (by simp)) (fun i x y hx hy => by rw [hx] at hy; cases hy; exact words21_1_is x) fnvwords21_1
              have HEF := Lib.hid hef; clear hef
              go_wp2_with fail
              refine HEF.out.mono ?_
              rintro e w' ⟨rfl, rfl⟩
              go_wp2_with fail
              go_ret
              exact ⟨rfl, HO.out.own.ch⟩
          · have emk : ((m : Int) == (k : Int)) = false := by rw [beq_eq_false_iff_ne]; omega
            have hmI : I.length ≠ (inputs G.nodes).length := by rw [HXL.out, HIL.out]; exact hmk
            have hmB : B.length ≠ (inputs G.nodes).length := by rw [HBL.out, HIL.out]; exact hmk
            cases bad
            · have hbad := HBAD.out
              have nR : nodesR G I = ([], 210) := by unfold nodesR; rw [if_pos hmI]
              have wR : wordsR G I R = ([], 210) := by unfold wordsR; rw [hbad, if_neg (by simp), if_pos hmI]
              have bR : bitsR G B R = ([], 210) := by unfold bitsR; rw [hbad, if_neg (by simp), if_pos hmB]
              have sR : suppR G R = (suppL G.nodes (nats R) k, 0) := by unfold suppR; rw [hbad, HIL.out]; rfl
              obtain ⟨hbn1, hbn2⟩ := badIn_no hbad
              have hsl := suppL_len G.nodes (nats R) k
              obtain ⟨sn, hsn⟩ : ∃ sn, (suppL G.nodes (nats R) k).length = sn := ⟨_, rfl⟩
              rw [hsn] at hsl
              have HBN1 := Lib.hid hbn1; clear hbn1
              have HBN2 := Lib.hid hbn2; clear hbn2
              have HSN := Lib.hid hsn; clear hsn
              have WR := Lib.hid wR; clear wR
              have BR := Lib.hid bR; clear bR
              have SR := Lib.hid sR; clear sR
              have hND := simNodes_is HO.out.own.gin (xa := za) (ins := I) m zc HXL.out (HO.out.held (za, u64s I) (by simp)) HILT.out hzcap.1 hzcap.2 (by omega)
              rw [nR] at hND
              have HND := Lib.hid hND; clear hND nR hbad hmI hmB hmk
              go_wp2_with fail
              refine HND.out.mono ?_
              rintro e w7 ⟨v, rfl, hv1, hv2, hc7⟩
              have hv := hv2 (by decide)
              subst hv
              have ho := HO.out.same hc7
              clear hv1 hv2 hc7 HND
              clear HO; have HO := Lib.hid ho; clear ho
              go_wp2_with fail
              refine (simWords_h HO.out (xa := za) (ins := I) (by simp) HXL.out HILT.out hzcap.1 hzcap.2 (a := oa) (l := R) (n := j) (c := oc) HRL.out (HSL.out _ _ HO.out (by simp)) HRB.out (by omega) WR.out (k := 0) rfl (by omega)).mono ?_
              rintro e w8 ⟨ga, gc, rfl, ho⟩
              clear HO; have HO := Lib.hid ho; clear ho
              go_wp2_with fail
              refine (simBits_h HO.out (xa := ba) (ins := B) (m := m) (by simp) HBL.out (by omega) (a := oa) (l := R) (n := j) (c := oc) HRL.out (HSL.out _ _ HO.out (by simp)) HRB.out (by omega) BR.out (k := 0) rfl (by omega)).mono ?_
              rintro e w9 ⟨ta, tc, rfl, ho⟩
              clear HO; have HO := Lib.hid ho; clear ho
              go_wp2_with fail
              refine (simSupport_h HO.out (a := oa) (l := R) (n := j) (c := oc) HRL.out (HSL.out _ _ HO.out (by simp)) (HHL.out _ _ HO.out (by simp)) HRB.out SR.out (k := sn) HSN.out (by omega)).mono ?_
              rintro e w10 ⟨ya, yc, rfl, ho⟩
              clear HO; have HO := Lib.hid ho; clear ho
              have cx0 := HO.out.cellT (b := bx) (xs := [.int .i64 G.most, .slice (some ⟨rb, 0, none⟩) G.nodes.length rcap]) (by simp) (i := 0) rfl
              have cx1 := HO.out.cellT (b := bx) (xs := [.int .i64 G.most, .slice (some ⟨rb, 0, none⟩) G.nodes.length rcap]) (by simp) (i := 1) rfl
              have hsp := r21Support_is (RG.held (HO.out.held (some ⟨rb, 0, none⟩, rCells G.nodes) (by simp)) hgle hgmx HOK.out) (a := ra) (l := nats R) j rc (by unfold nats; rw [List.length_map]; exact HRL.out) (by rw [show natInts (nats R) = R from HBN1.out]; exact HRR.out.sl.ch HO.out.own.ch (by simp)) HBN2.out (by omega)
              rw [HIL.out, HSN.out] at hsp
              have HSP := Lib.hid hsp; clear hsp
              go_wp2_with fail
              refine HSP.out.mono ?_
              rintro e w11 ⟨v, rfl, hrow, _, hc11⟩
              obtain ⟨qa, qc, rfl⟩ := row.shape hrow
              have ho := (HO.out.same hc11).add (row.sv hrow rfl (by omega))
              clear hrow hc11 HSP cx0 cx1
              clear HO; have HO := Lib.hid ho; clear ho
              go_wp2_with fail
              refine (Eqint_h HO.out (a := ya) (b := qa) (ca := yc) (cb := qc) (xs := natInts (suppL G.nodes (nats R) k)) (ys := natInts (suppL G.nodes (nats R) k)) (HO.out.slT (by simp)) (HO.out.slT (List.mem_cons_self ..)) (by rw [natInts_len]; exact HSN.out) (by rw [natInts_len]; exact HSN.out) (decide_eq_true rfl)).mono ?_
              rintro e w12 ⟨rfl, ho⟩
              clear HO; have HO := Lib.hid ho; clear ho
              go_wp2_with fail
              refine (EQu64_h HO.out (a := za) (b := xa) (xs := I) (ys := I) (ca := zc) (cb := xc) (by simp) (HX.out.sv.ch HO.out.own.ch (by simp)) HXL.out HXL.out (decide_eq_true rfl)).mono ?_
              rintro e w14 ⟨rfl, ho⟩
              clear HO; have HO := Lib.hid ho; clear ho
              have hef := EFref_yes (w := w14) (a := oa) (b := ra) (xs := R) (ys := R) j oc rc 99 HRL.out HRL.out (by omega) (HSL.out _ _ HO.out (by simp)) (HRR.out.sl.ch HO.out.own.ch (by simp)) (fun i x y hx hy => by rw [hx] at hy; cases hy; exact words21_1_is x) fnvwords21_1
              have HEF := Lib.hid hef; clear hef
              go_wp2_with fail
              refine HEF.out.mono ?_
              rintro e w' ⟨rfl, rfl⟩
              go_wp2_with fail
              go_ret
              exact ⟨rfl, HO.out.own.ch⟩
            · have hbad := HBAD.out
              have nR : nodesR G I = ([], 210) := by unfold nodesR; rw [if_pos hmI]
              have wR : wordsR G I R = ([], 200) := by unfold wordsR; rw [hbad]; rfl
              have bR : bitsR G B R = ([], 200) := by unfold bitsR; rw [hbad]; rfl
              have sR : suppR G R = ([], 200) := by unfold suppR; rw [hbad]; rfl
              have WR := Lib.hid wR; clear wR
              have BR := Lib.hid bR; clear bR
              have SR := Lib.hid sR; clear sR
              have hND := simNodes_is HO.out.own.gin (xa := za) (ins := I) m zc HXL.out (HO.out.held (za, u64s I) (by simp)) HILT.out hzcap.1 hzcap.2 (by omega)
              rw [nR] at hND
              have HND := Lib.hid hND; clear hND nR hbad hmI hmB hmk
              go_wp2_with fail
              refine HND.out.mono ?_
              rintro e w7 ⟨v, rfl, hv1, hv2, hc7⟩
              have hv := hv2 (by decide)
              subst hv
              have ho := HO.out.same hc7
              clear hv1 hv2 hc7 HND
              clear HO; have HO := Lib.hid ho; clear ho
              go_wp2_with fail
              refine (simWords_h HO.out (xa := za) (ins := I) (by simp) HXL.out HILT.out hzcap.1 hzcap.2 (a := oa) (l := R) (n := j) (c := oc) HRL.out (HSL.out _ _ HO.out (by simp)) HRB.out (by omega) WR.out (k := 0) rfl (by omega)).mono ?_
              rintro e w8 ⟨ga, gc, rfl, ho⟩
              clear HO; have HO := Lib.hid ho; clear ho
              go_wp2_with fail
              refine (simBits_h HO.out (xa := ba) (ins := B) (m := m) (by simp) HBL.out (by omega) (a := oa) (l := R) (n := j) (c := oc) HRL.out (HSL.out _ _ HO.out (by simp)) HRB.out (by omega) BR.out (k := 0) rfl (by omega)).mono ?_
              rintro e w9 ⟨ta, tc, rfl, ho⟩
              clear HO; have HO := Lib.hid ho; clear ho
              go_wp2_with fail
              refine (simSupport_h HO.out (a := oa) (l := R) (n := j) (c := oc) HRL.out (HSL.out _ _ HO.out (by simp)) (HHL.out _ _ HO.out (by simp)) HRB.out SR.out (k := 0) rfl (by omega)).mono ?_
              rintro e w10 ⟨ya, yc, rfl, ho⟩
              clear HO; have HO := Lib.hid ho; clear ho
              go_wp2_with fail
              refine (EQu64_h HO.out (a := za) (b := xa) (xs := I) (ys := I) (ca := zc) (cb := xc) (by simp) (HX.out.sv.ch HO.out.own.ch (by simp)) HXL.out HXL.out (decide_eq_true rfl)).mono ?_
              rintro e w14 ⟨rfl, ho⟩
              clear HO; have HO := Lib.hid ho; clear ho
              have hef := EFref_yes (w := w14) (a := oa) (b := ra) (xs := R) (ys := R) j oc rc 99 HRL.out HRL.out (by omega) (HSL.out _ _ HO.out (by simp)) (HRR.out.sl.ch HO.out.own.ch (by simp)) (fun i x y hx hy => by rw [hx] at hy; cases hy; exact words21_1_is x) fnvwords21_1
              have HEF := Lib.hid hef; clear hef
              go_wp2_with fail
              refine HEF.out.mono ?_
              rintro e w' ⟨rfl, rfl⟩
              go_wp2_with fail
              go_ret
              exact ⟨rfl, HO.out.own.ch⟩
end
end Go.Proofs.Ytnmfdiiehkkjcaa
namespace Go.Proofs.Ytnmfdiiehkkjcaa
open Go.RowKit Go.Mem Go.Aig
set_option maxRecDepth 100000 in
set_option maxHeartbeats 4000000 in
theorem SimWords_walk {w : World} {a : Option Addr} {n ncap : Nat} {l : List N21} (hS : NodeS w a n ncap l) {xa : Option Addr} {m xc : Nat} {I : List Nat} (hX : NumS .u64 64 w xa m xc I) {ra : Option Addr} {rn rc : Nat} {R : List Int} (hR : IntS w ra rn rc R) :
    Calls Try.prog 8 #[.slice a n ncap, .slice xa m xc, .slice ra rn rc] w fun e w' => e = .returned (.bool true) ∧ Ch [] w w' := by
  have hT := fun (h1 : n ≤ 61) (h2 : m ≤ 70) (h3 : rn ≤ 20) => words21_is hS h1 hX h2 hR h3
  have HT := Lib.hid hT; clear hT hS hX hR
  by_cases h60 : n ≤ 60
  · have d1 : decide ((n : Int) > 60) = false := decide_eq_false (by omega)
    by_cases h70 : m ≤ 70
    · have d2 : decide ((m : Int) > 70) = false := decide_eq_false (by omega)
      by_cases h20 : rn ≤ 20
      · have d3 : decide ((rn : Int) > 20) = false := decide_eq_false (by omega)
        have HT1 := Lib.hid (HT.out (by omega) h70 h20)
        clear HT
        go_enter Try.func8, Try.ntmps8
        go_wp2_with fail
        refine HT1.out.mono ?_
        rintro e w2 ⟨rfl, hc2⟩
        have HC2 := Lib.hid hc2; clear hc2
        go_wp2_with fail
        refine (awake21_is w2).mono ?_
        rintro e w3 ⟨rfl, hc3⟩
        go_wp2_with fail
        go_ret
        exact ⟨rfl, HC2.out.trans hc3 (by simp)⟩
      · have d3 : decide ((rn : Int) > 20) = true := decide_eq_true (by omega)
        go_enter Try.func8, Try.ntmps8
        go_wp2_with fail
        refine (awake21_is w).mono ?_
        rintro e w3 ⟨rfl, hc3⟩
        go_wp2_with fail
        go_ret
        exact ⟨rfl, hc3⟩
    · have d2 : decide ((m : Int) > 70) = true := decide_eq_true (by omega)
      go_enter Try.func8, Try.ntmps8
      go_wp2_with fail
      refine (awake21_is w).mono ?_
      rintro e w3 ⟨rfl, hc3⟩
      go_wp2_with fail
      go_ret
      exact ⟨rfl, hc3⟩
  · have d1 : decide ((n : Int) > 60) = true := decide_eq_true (by omega)
    go_enter Try.func8, Try.ntmps8
    go_wp2_with fail
    refine (awake21_is w).mono ?_
    rintro e w3 ⟨rfl, hc3⟩
    go_wp2_with fail
    go_ret
    exact ⟨rfl, hc3⟩
end Go.Proofs.Ytnmfdiiehkkjcaa
