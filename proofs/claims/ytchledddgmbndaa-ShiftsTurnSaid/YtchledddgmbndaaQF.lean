/-
  Walks over slices.Sort at references, of at most 9: what comes of it is in order, and has the same elements. Conditions: a row of one's own.
  Walk over ShiftsTurn: true, whatever comes in. Conditions: none.
-/
import Derived.Test.YtchledddgmbndaaQE
import Derived.Test.YtchledddgmbndaaQD
namespace Go.Aig
/-- the front is in order -/
def Front (L : List Int) (i : Nat) : Prop := ∀ p q x y, p < q → q < i → L[p]? = some x → L[q]? = some y → x ≤ y
/-- the front up to i is in order, but for what is moved down, which stands at j -/
def InsAt (L : List Int) (i j : Nat) : Prop := ∀ p q x y, p < q → q ≤ i → q ≠ j → L[p]? = some x → L[q]? = some y → x ≤ y
theorem Front.at {L : List Int} {i : Nat} (h : Front L i) : InsAt L i i := fun p q x y hpq hq hne hx hy => h p q x y hpq (by omega) hx hy
theorem Front.one (L : List Int) : Front L 1 := fun p q x y hpq hq => by omega
theorem InsAt.done0 {L : List Int} {i : Nat} (h : InsAt L i 0) : Front L (i + 1) := fun p q x y hpq hq hx hy => h p q x y hpq (by omega) (by omega) hx hy
theorem InsAt.done {L : List Int} {i j : Nat} {x y : Int} (h : InsAt L i (j + 1)) (hj : j + 1 ≤ i) (hx : L[j]? = some x) (hy : L[j + 1]? = some y) (hle : x ≤ y) : Front L (i + 1) := fun p q a b hpq hq ha hb => by
  by_cases hne : q = j + 1
  · subst hne
    rw [hy] at hb; cases hb
    by_cases hp : p = j
    · subst hp; rw [hx] at ha; cases ha; exact hle
    · exact Int.le_trans (h p j a x (by omega) (by omega) (by omega) ha hx) hle
  · exact h p q a b hpq (by omega) hne ha hb
theorem InsAt.step {L : List Int} {i j : Nat} {x y : Int} (h : InsAt L i (j + 1)) (hj : j + 1 ≤ i) (hx : L[j]? = some x) (hy : L[j + 1]? = some y) (hlt : y < x) : InsAt ((L.set (j + 1) x).set j y) i j := fun p q a b hpq hq hne ha hb => by
  have l1 := (List.getElem?_eq_some_iff.1 hy).1
  have g : ∀ k, ((L.set (j + 1) x).set j y)[k]? = if k = j then some y else if k = j + 1 then some x else L[k]? := fun k => by
    by_cases h1 : k = j
    · subst h1; rw [if_pos rfl, List.getElem?_set_self (by simp; omega)]
    · rw [if_neg h1, List.getElem?_set_ne (by omega)]
      by_cases h2 : k = j + 1
      · subst h2; rw [if_pos rfl, List.getElem?_set_self l1]
      · rw [if_neg h2, List.getElem?_set_ne (by omega)]
  rw [g] at ha hb
  rw [if_neg hne] at hb
  by_cases hq1 : q = j + 1
  · rw [if_pos hq1] at hb
    cases hb
    by_cases hp : p = j
    · rw [if_pos hp] at ha; cases ha; omega
    · rw [if_neg hp, if_neg (by omega)] at ha
      exact h p j a x (by omega) (by omega) (by omega) ha hx
  · rw [if_neg hq1] at hb
    by_cases hp : p = j
    · rw [if_pos hp] at ha
      cases ha
      exact h (j + 1) q y b (by omega) hq hq1 hy hb
    · rw [if_neg hp] at ha
      by_cases hp1 : p = j + 1
      · rw [if_pos hp1] at ha
        cases ha
        exact h j q x b (by omega) hq hq1 hx hb
      · rw [if_neg hp1] at ha
        exact h p q a b hpq hq hq1 ha hb
theorem swap_perm {L : List Int} {j : Nat} {x y : Int} (hx : L[j]? = some x) (hy : L[j + 1]? = some y) : ((L.set (j + 1) x).set j y).Perm L := by
  obtain ⟨l1, rfl⟩ := List.getElem?_eq_some_iff.1 hy
  obtain ⟨l0, rfl⟩ := List.getElem?_eq_some_iff.1 hx
  exact List.set_set_perm l1 l0
theorem Front.sorted {L : List Int} (h : Front L L.length) : L.Pairwise (· ≤ ·) := by
  rw [List.pairwise_iff_getElem]
  intro i j hi hj hij
  exact h i j _ _ hij hj (List.getElem?_eq_getElem hi) (List.getElem?_eq_getElem hj)
theorem sorted_eq {L M : List Int} (hp : L.Perm M) (h1 : L.Pairwise (· ≤ ·)) (h2 : M.Pairwise (· ≤ ·)) : L = M :=
  List.Perm.eq_of_pairwise (fun _ _ _ _ h1 h2 => Int.le_antisymm h1 h2) h1 h2 hp
end Go.Aig
namespace Go.Proofs.Ytchledddgmbndaa
open Go.RowKit Go.Mem Go.Aig
section
variable {w : World}
set_option maxRecDepth 100000 in
set_option maxHeartbeats 1000000 in
theorem ints_set2 (l : List Int) (i : Nat) (r : Int) : intCells (l.set i r) = (intCells l).set i (.int .i64 r) := by unfold intCells; rw [List.map_set]
set_option maxRecDepth 100000 in
set_option maxHeartbeats 1000000 in
theorem isNaNr_is (x : Int) : Calls Try.prog 159 #[.int .i64 x] w fun e w' => e = .returned (.bool false) ∧ w = w' := by
  go_enter Try.func159, Try.ntmps159
  go_wp2_with fail
  go_ret
  exact ⟨by simp, rfl⟩
set_option maxRecDepth 100000 in
set_option maxHeartbeats 1000000 in
theorem Lessr_is (x y : Int) : Calls Try.prog 142 #[.int .i64 x, .int .i64 y] w fun e w' => e = .returned (.bool (decide (x < y))) ∧ w = w' := by
  go_enter Try.func142, Try.ntmps142
  go_wp2_with fail
  refine (isNaNr_is x).mono ?_
  rintro e w' ⟨rfl, rfl⟩
  go_wp2_with fail
  go_ret
  exact ⟨by simp, rfl⟩
set_option maxRecDepth 100000 in
set_option maxHeartbeats 4000000 in
theorem Insr_is {b n c : Nat} {l : List Int} (hr : row w 34 1 (.slice (some ⟨b, 0, none⟩) n c) n (intCells l)) (hl : l.length = n) (h1 : 1 ≤ n) (hn : n ≤ 12) :
    Calls Try.prog 136 #[.slice (some ⟨b, 0, none⟩) n c, .int .i64 0, .int .i64 n] w fun e w' => e = .returned (.tuple #[]) ∧ ∃ L : List Int, L.Perm l ∧ Front L n ∧ row w' 34 1 (.slice (some ⟨b, 0, none⟩) n c) n (intCells L) ∧ Ch [b] w w' := by
  have HR := Lib.hid hr; clear hr
  have HL := Lib.hid hl; clear hl
  go_enter Try.func136, Try.ntmps136
  go_wp2_with fail
  go_loopw [6] (fun i wr => ∃ (k : Nat) (L : List Int), 1 ≤ k ∧ k ≤ n ∧ i = .int .i64 k ∧ L.Perm l ∧ Front L k ∧ row wr 34 1 (.slice (some ⟨b, 0, none⟩) n c) n (intCells L) ∧ Ch [b] w wr) (fun i _ => n - (intOf i).toNat)
  case atStart => exact ⟨1, l, by omega, by omega, rfl, List.Perm.refl _, Front.one _, HR.out, Ch.refl _ _⟩
  case round =>
    obtain ⟨k, L, hk1, hk, rfl, hp, hf, hrow, hc⟩ := hrel
    clear HR
    by_cases hlt : k < n
    · have HP := Lib.hid hp; clear hp
      have HF := Lib.hid hf; clear hf
      have HROW := Lib.hid hrow; clear hrow
      have HC := Lib.hid hc; clear hc
      go_wp2_with fail
      go_loopw [7] (fun j wq => ∃ (m : Nat) (M : List Int), m ≤ k ∧ j = .int .i64 m ∧ M.Perm l ∧ InsAt M k m ∧ row wq 34 1 (.slice (some ⟨b, 0, none⟩) n c) n (intCells M) ∧ Ch [b] w wq) (fun j _ => (intOf j).toNat)
      case atStart => exact ⟨k, L, by omega, rfl, HP.out, HF.out.at, HROW.out, HC.out⟩
      case round =>
        obtain ⟨m, M, hm, rfl, hp, hf, hrow, hc⟩ := hrel
        clear HP HF HROW HC
        have hML : M.length = n := by rw [hp.length_eq, HL.out]
        by_cases hm0 : 0 < m
        · obtain ⟨j, rfl⟩ : ∃ j, m = j + 1 := ⟨m - 1, by omega⟩
          obtain ⟨x, hx⟩ : ∃ x, M[j]? = some x := ⟨_, List.getElem?_eq_getElem (by omega)⟩
          obtain ⟨y, hy⟩ : ∃ y, M[j + 1]? = some y := ⟨_, List.getElem?_eq_getElem (by omega)⟩
          have c0 : wr.cell? ⟨b, j, none⟩ = some (.int .i64 x) := row_at2 hrow (by simp [intCells, hx])
          have c1 : wr.cell? ⟨b, j + 1, none⟩ = some (.int .i64 y) := row_at2 hrow (by simp [intCells, hy])
          have f0 : wr.frozen? ⟨b, j, none⟩ = false := row_fz hrow (by omega) j
          have f1 : wr.frozen? ⟨b, j + 1, none⟩ = false := row_fz hrow (by omega) (j + 1)
          have HP := Lib.hid hp; clear hp
          have HF := Lib.hid hf; clear hf
          have HROW := Lib.hid hrow; clear hrow
          have HC := Lib.hid hc; clear hc
          have HX := Lib.hid hx; clear hx
          have HY := Lib.hid hy; clear hy
          have HML := Lib.hid hML; clear hML
          have d0 : decide ((0 : Int) < (j : Int) + 1) = true := decide_eq_true (by omega)
          by_cases hlt2 : y < x
          · have d : decide (y < x) = true := decide_eq_true hlt2
            have HLT := Lib.hid hlt2; clear hlt2
            go_wp2_with fail
            refine Ord.St.door (fun _ => True) [.fl, .fl, .fl, .fl, .fl, .fl, .fl, .rd, .fl, .fl, .fl, .fl, .rd, .rd, .fl] [0, 0, 3, 7, 15, 15, 63, 127, 15, 15, 527, 1807, 3855, 8191, 16383] [0, 1, 2, 3, 4, 5, 6, 7, 8, 9, 10, 11, 12, 13, 14] mixed (by kernel_rfl) rfl ?_
            refine Ord.St.fl2 (T' := ?_) 0 [1, 2, 3, 4, 5, 6, 7, 8, 9, 10, 11, 12, 13, 14] _ _ rfl (by kernel_rfl) rfl rfl rfl rfl (fun K w' hk => ?_) ?_
            rotate_left
            · go_step; exact hk
            refine Ord.St.fl2 (T' := ?_) 1 [2, 3, 4, 5, 6, 7, 8, 9, 10, 11, 12, 13, 14] _ _ rfl (by kernel_rfl) rfl rfl rfl rfl (fun K w' hk => ?_) ?_
            rotate_left
            · go_step; exact hk
            refine Ord.St.fl2 (T' := ?_) 2 [3, 4, 5, 6, 7, 8, 9, 10, 11, 12, 13, 14] _ _ rfl (by kernel_rfl) rfl rfl rfl rfl (fun K w' hk => ?_) ?_
            rotate_left
            · go_step; exact hk
            refine Ord.St.fl2 (T' := ?_) 3 [4, 5, 6, 7, 8, 9, 10, 11, 12, 13, 14] _ _ rfl (by kernel_rfl) rfl rfl rfl rfl (fun K w' hk => ?_) ?_
            rotate_left
            · go_step; exact hk
            first | (refine Ord.St.fl2 (T' := ?_) 4 [5, 6, 7, 8, 9, 10, 11, 12, 13, 14] _ _ rfl (by kernel_rfl) ?_ rfl rfl rfl (fun K w' hk => ?_) ?_; rotate_left; (first | rfl | (simp [Region.wanted, yielded, *]; done)); focus (go_step; exact hk)) | (refine Ord.St.skip 4 [5, 6, 7, 8, 9, 10, 11, 12, 13, 14] _ rfl (by kernel_rfl) ?_ (fun K hK => ?_); (first | rfl | (simp [Region.wanted, yielded, *]; done)); go_simp; refine hK _ ?_; clear hK K)
            first | (refine Ord.St.fl2 (T' := ?_) 5 [6, 7, 8, 9, 10, 11, 12, 13, 14] _ _ rfl (by kernel_rfl) ?_ rfl rfl rfl (fun K w' hk => ?_) ?_; rotate_left; (first | rfl | (simp [Region.wanted, yielded, *]; done)); focus (go_step; exact hk)) | (refine Ord.St.skip 5 [6, 7, 8, 9, 10, 11, 12, 13, 14] _ rfl (by kernel_rfl) ?_ (fun K hK => ?_); (first | rfl | (simp [Region.wanted, yielded, *]; done)); go_simp; refine hK _ ?_; clear hK K)
            first | (refine Ord.St.fl2 (T' := ?_) 6 [7, 8, 9, 10, 11, 12, 13, 14] _ _ rfl (by kernel_rfl) ?_ rfl rfl rfl (fun K w' hk => ?_) ?_; rotate_left; (first | rfl | (simp [Region.wanted, yielded, *]; done)); focus (go_step; exact hk)) | (refine Ord.St.skip 6 [7, 8, 9, 10, 11, 12, 13, 14] _ rfl (by kernel_rfl) ?_ (fun K hK => ?_); (first | rfl | (simp [Region.wanted, yielded, *]; done)); go_simp; refine hK _ ?_; clear hK K)
            first | (refine Ord.St.rd2 (T' := ?_) 7 [8, 9, 10, 11, 12, 13, 14] _ _ rfl (by kernel_rfl) ?_ rfl rfl rfl (fun K hk => ?_) ?_; rotate_left; (first | rfl | (simp [Region.wanted, yielded, *]; done)); focus (go_step; exact hk)) | (refine Ord.St.skipr 7 [8, 9, 10, 11, 12, 13, 14] _ rfl (by kernel_rfl) ?_ (fun K hK => ?_); (first | rfl | (simp [Region.wanted, yielded, *]; done)); go_simp; refine hK _ ?_; clear hK K)
            first | (refine Ord.St.fl2 (T' := ?_) 8 [9, 10, 11, 12, 13, 14] _ _ rfl (by kernel_rfl) ?_ rfl rfl rfl (fun K w' hk => ?_) ?_; rotate_left; (first | rfl | (simp [Region.wanted, yielded, *]; done)); focus (go_step; exact hk)) | (refine Ord.St.skip 8 [9, 10, 11, 12, 13, 14] _ rfl (by kernel_rfl) ?_ (fun K hK => ?_); (first | rfl | (simp [Region.wanted, yielded, *]; done)); go_simp; refine hK _ ?_; clear hK K)
            first | (refine Ord.St.fl2 (T' := ?_) 9 [10, 11, 12, 13, 14] _ _ rfl (by kernel_rfl) ?_ rfl rfl rfl (fun K w' hk => ?_) ?_; rotate_left; (first | rfl | (simp [Region.wanted, yielded, *]; done)); focus (go_step; exact hk)) | (refine Ord.St.skip 9 [10, 11, 12, 13, 14] _ rfl (by kernel_rfl) ?_ (fun K hK => ?_); (first | rfl | (simp [Region.wanted, yielded, *]; done)); go_simp; refine hK _ ?_; clear hK K)
            first | (refine Ord.St.fl2 (T' := ?_) 10 [11, 12, 13, 14] _ _ rfl (by kernel_rfl) ?_ rfl rfl rfl (fun K w' hk => ?_) ?_; rotate_left; (first | rfl | (simp [Region.wanted, yielded, *]; done)); focus (go_step; exact hk)) | (refine Ord.St.skip 10 [11, 12, 13, 14] _ rfl (by kernel_rfl) ?_ (fun K hK => ?_); (first | rfl | (simp [Region.wanted, yielded, *]; done)); go_simp; refine hK _ ?_; clear hK K)
            first | (refine Ord.St.fl2 (T' := ?_) 11 [12, 13, 14] _ _ rfl (by kernel_rfl) ?_ rfl rfl rfl (fun K w' hk => ?_) ?_; rotate_left; (first | rfl | (simp [Region.wanted, yielded, *]; done)); focus (go_step; exact hk)) | (refine Ord.St.skip 11 [12, 13, 14] _ rfl (by kernel_rfl) ?_ (fun K hK => ?_); (first | rfl | (simp [Region.wanted, yielded, *]; done)); go_simp; refine hK _ ?_; clear hK K)
            first | (refine Ord.St.rd2 (T' := ?_) 12 [13, 14] _ _ rfl (by kernel_rfl) ?_ rfl rfl rfl (fun K hk => ?_) ?_; rotate_left; (first | rfl | (simp [Region.wanted, yielded, *]; done)); focus (go_step; exact hk)) | (refine Ord.St.skipr 12 [13, 14] _ rfl (by kernel_rfl) ?_ (fun K hK => ?_); (first | rfl | (simp [Region.wanted, yielded, *]; done)); go_simp; refine hK _ ?_; clear hK K)
            first | (refine Ord.St.rd2 (T' := ?_) 13 [14] _ _ rfl (by kernel_rfl) ?_ rfl rfl rfl (fun K hk => ?_) ?_; rotate_left; (first | rfl | (simp [Region.wanted, yielded, *]; done)); focus (go_step; refine (Lessr_is y x).mono ?_; rintro e w'' ⟨rfl, rfl⟩; exact hk)) | (refine Ord.St.skipr 13 [14] _ rfl (by kernel_rfl) ?_ (fun K hK => ?_); (first | rfl | (simp [Region.wanted, yielded, *]; done)); go_simp; refine hK _ ?_; clear hK K)
            refine Ord.St.fl2 (T' := ?_) 14 [] _ _ rfl (by kernel_rfl) rfl rfl rfl rfl (fun K w' hk => ?_) ?_
            rotate_left
            · go_step; exact hk
            refine Ord.St.nil ?_
            go_wp2_with fail
            refine Ord.St.door (fun _ => True) [.fl, .fl, .fl, .fl, .fl, .fl, .fl, .fl, .fl, .rd, .fl, .fl, .fl, .rd, .fl, .ef, .fl, .ef] [0, 0, 0, 0, 8, 0, 0, 64, 224, 480, 0, 0, 3072, 7168, 16355, 32739, 65535, 131071] [0, 1, 2, 3, 4, 5, 6, 7, 8, 9, 10, 11, 12, 13, 14, 15, 16, 17] mixed (by kernel_rfl) rfl ?_
            refine Ord.St.fl2 (T' := ?_) 0 [1, 2, 3, 4, 5, 6, 7, 8, 9, 10, 11, 12, 13, 14, 15, 16, 17] _ _ rfl (by kernel_rfl) rfl rfl rfl rfl (fun K w' hk => ?_) ?_
            rotate_left
            · go_step; exact hk
            refine Ord.St.fl2 (T' := ?_) 1 [2, 3, 4, 5, 6, 7, 8, 9, 10, 11, 12, 13, 14, 15, 16, 17] _ _ rfl (by kernel_rfl) rfl rfl rfl rfl (fun K w' hk => ?_) ?_
            rotate_left
            · go_step; exact hk
            refine Ord.St.fl2 (T' := ?_) 2 [3, 4, 5, 6, 7, 8, 9, 10, 11, 12, 13, 14, 15, 16, 17] _ _ rfl (by kernel_rfl) rfl rfl rfl rfl (fun K w' hk => ?_) ?_
            rotate_left
            · go_step; exact hk
            refine Ord.St.fl2 (T' := ?_) 3 [4, 5, 6, 7, 8, 9, 10, 11, 12, 13, 14, 15, 16, 17] _ _ rfl (by kernel_rfl) rfl rfl rfl rfl (fun K w' hk => ?_) ?_
            rotate_left
            · go_step; exact hk
            refine Ord.St.fl2 (T' := ?_) 4 [5, 6, 7, 8, 9, 10, 11, 12, 13, 14, 15, 16, 17] _ _ rfl (by kernel_rfl) rfl rfl rfl rfl (fun K w' hk => ?_) ?_
            rotate_left
            · go_step; exact hk
            refine Ord.St.fl2 (T' := ?_) 5 [6, 7, 8, 9, 10, 11, 12, 13, 14, 15, 16, 17] _ _ rfl (by kernel_rfl) rfl rfl rfl rfl (fun K w' hk => ?_) ?_
            rotate_left
            · go_step; exact hk
            refine Ord.St.fl2 (T' := ?_) 6 [7, 8, 9, 10, 11, 12, 13, 14, 15, 16, 17] _ _ rfl (by kernel_rfl) rfl rfl rfl rfl (fun K w' hk => ?_) ?_
            rotate_left
            · go_step; exact hk
            refine Ord.St.fl2 (T' := ?_) 7 [8, 9, 10, 11, 12, 13, 14, 15, 16, 17] _ _ rfl (by kernel_rfl) rfl rfl rfl rfl (fun K w' hk => ?_) ?_
            rotate_left
            · go_step; exact hk
            refine Ord.St.fl2 (T' := ?_) 8 [9, 10, 11, 12, 13, 14, 15, 16, 17] _ _ rfl (by kernel_rfl) rfl rfl rfl rfl (fun K w' hk => ?_) ?_
            rotate_left
            · go_step; exact hk
            refine Ord.St.rd2 (T' := ?_) 9 [10, 11, 12, 13, 14, 15, 16, 17] _ _ rfl (by kernel_rfl) rfl rfl rfl rfl (fun K hk => ?_) ?_
            rotate_left
            · go_step; exact hk
            refine Ord.St.fl2 (T' := ?_) 10 [11, 12, 13, 14, 15, 16, 17] _ _ rfl (by kernel_rfl) rfl rfl rfl rfl (fun K w' hk => ?_) ?_
            rotate_left
            · go_step; exact hk
            refine Ord.St.fl2 (T' := ?_) 11 [12, 13, 14, 15, 16, 17] _ _ rfl (by kernel_rfl) rfl rfl rfl rfl (fun K w' hk => ?_) ?_
            rotate_left
            · go_step; exact hk
            refine Ord.St.fl2 (T' := ?_) 12 [13, 14, 15, 16, 17] _ _ rfl (by kernel_rfl) rfl rfl rfl rfl (fun K w' hk => ?_) ?_
            rotate_left
            · go_step; exact hk
            refine Ord.St.rd2 (T' := ?_) 13 [14, 15, 16, 17] _ _ rfl (by kernel_rfl) rfl rfl rfl rfl (fun K hk => ?_) ?_
            rotate_left
            · go_step; exact hk
            refine Ord.St.fl2 (T' := ?_) 14 [15, 16, 17] _ _ rfl (by kernel_rfl) rfl rfl rfl rfl (fun K w' hk => ?_) ?_
            rotate_left
            · go_step; exact hk
            refine Ord.St.ef 15 [16, 17] _ rfl (by kernel_rfl) (fun K hK => ?_)
            go_wp2_with fail
            refine ⟨rfl, hK _ _ ?_⟩; clear hK K
            refine Ord.St.fl2 (T' := ?_) 16 [17] _ _ rfl (by kernel_rfl) rfl rfl rfl rfl (fun K w' hk => ?_) ?_
            rotate_left
            · go_step; exact hk
            refine Ord.St.ef 17 [] _ rfl (by kernel_rfl) (fun K hK => ?_)
            go_wp2_with fail
            refine ⟨rfl, hK _ _ ?_⟩; clear hK K
            refine Ord.St.nil ?_
            go_wp2_with fail
            go_roundw
            case rel =>
              refine ⟨j, (M.set (j + 1) x).set j y, by omega, by go_num, (swap_perm HX.out HY.out).trans HP.out, HF.out.step hm HX.out HY.out HLT.out, ?_, ?_⟩
              · rw [ints_set2, ints_set2]
                exact (row.set (row.set HROW.out _) _).ch ((Ch.refl [] _).drew.drew) (by simp)
              · exact ((HC.out.setCell (.inl (by simp)) _).setCell (.inl (by simp)) _).drew.drew
            case measure => simp [intOf] <;> omega
          · have d : decide (y < x) = false := decide_eq_false hlt2
            have HLT := Lib.hid hlt2; clear hlt2
            go_wp2_with fail
            refine Ord.St.door (fun _ => True) [.fl, .fl, .fl, .fl, .fl, .fl, .fl, .rd, .fl, .fl, .fl, .fl, .rd, .rd, .fl] [0, 0, 3, 7, 15, 15, 63, 127, 15, 15, 527, 1807, 3855, 8191, 16383] [0, 1, 2, 3, 4, 5, 6, 7, 8, 9, 10, 11, 12, 13, 14] mixed (by kernel_rfl) rfl ?_
            refine Ord.St.fl2 (T' := ?_) 0 [1, 2, 3, 4, 5, 6, 7, 8, 9, 10, 11, 12, 13, 14] _ _ rfl (by kernel_rfl) rfl rfl rfl rfl (fun K w' hk => ?_) ?_
            rotate_left
            · go_step; exact hk
            refine Ord.St.fl2 (T' := ?_) 1 [2, 3, 4, 5, 6, 7, 8, 9, 10, 11, 12, 13, 14] _ _ rfl (by kernel_rfl) rfl rfl rfl rfl (fun K w' hk => ?_) ?_
            rotate_left
            · go_step; exact hk
            refine Ord.St.fl2 (T' := ?_) 2 [3, 4, 5, 6, 7, 8, 9, 10, 11, 12, 13, 14] _ _ rfl (by kernel_rfl) rfl rfl rfl rfl (fun K w' hk => ?_) ?_
            rotate_left
            · go_step; exact hk
            refine Ord.St.fl2 (T' := ?_) 3 [4, 5, 6, 7, 8, 9, 10, 11, 12, 13, 14] _ _ rfl (by kernel_rfl) rfl rfl rfl rfl (fun K w' hk => ?_) ?_
            rotate_left
            · go_step; exact hk
            first | (refine Ord.St.fl2 (T' := ?_) 4 [5, 6, 7, 8, 9, 10, 11, 12, 13, 14] _ _ rfl (by kernel_rfl) ?_ rfl rfl rfl (fun K w' hk => ?_) ?_; rotate_left; (first | rfl | (simp [Region.wanted, yielded, *]; done)); focus (go_step; exact hk)) | (refine Ord.St.skip 4 [5, 6, 7, 8, 9, 10, 11, 12, 13, 14] _ rfl (by kernel_rfl) ?_ (fun K hK => ?_); (first | rfl | (simp [Region.wanted, yielded, *]; done)); go_simp; refine hK _ ?_; clear hK K)
            first | (refine Ord.St.fl2 (T' := ?_) 5 [6, 7, 8, 9, 10, 11, 12, 13, 14] _ _ rfl (by kernel_rfl) ?_ rfl rfl rfl (fun K w' hk => ?_) ?_; rotate_left; (first | rfl | (simp [Region.wanted, yielded, *]; done)); focus (go_step; exact hk)) | (refine Ord.St.skip 5 [6, 7, 8, 9, 10, 11, 12, 13, 14] _ rfl (by kernel_rfl) ?_ (fun K hK => ?_); (first | rfl | (simp [Region.wanted, yielded, *]; done)); go_simp; refine hK _ ?_; clear hK K)
            first | (refine Ord.St.fl2 (T' := ?_) 6 [7, 8, 9, 10, 11, 12, 13, 14] _ _ rfl (by kernel_rfl) ?_ rfl rfl rfl (fun K w' hk => ?_) ?_; rotate_left; (first | rfl | (simp [Region.wanted, yielded, *]; done)); focus (go_step; exact hk)) | (refine Ord.St.skip 6 [7, 8, 9, 10, 11, 12, 13, 14] _ rfl (by kernel_rfl) ?_ (fun K hK => ?_); (first | rfl | (simp [Region.wanted, yielded, *]; done)); go_simp; refine hK _ ?_; clear hK K)
            first | (refine Ord.St.rd2 (T' := ?_) 7 [8, 9, 10, 11, 12, 13, 14] _ _ rfl (by kernel_rfl) ?_ rfl rfl rfl (fun K hk => ?_) ?_; rotate_left; (first | rfl | (simp [Region.wanted, yielded, *]; done)); focus (go_step; exact hk)) | (refine Ord.St.skipr 7 [8, 9, 10, 11, 12, 13, 14] _ rfl (by kernel_rfl) ?_ (fun K hK => ?_); (first | rfl | (simp [Region.wanted, yielded, *]; done)); go_simp; refine hK _ ?_; clear hK K)
            first | (refine Ord.St.fl2 (T' := ?_) 8 [9, 10, 11, 12, 13, 14] _ _ rfl (by kernel_rfl) ?_ rfl rfl rfl (fun K w' hk => ?_) ?_; rotate_left; (first | rfl | (simp [Region.wanted, yielded, *]; done)); focus (go_step; exact hk)) | (refine Ord.St.skip 8 [9, 10, 11, 12, 13, 14] _ rfl (by kernel_rfl) ?_ (fun K hK => ?_); (first | rfl | (simp [Region.wanted, yielded, *]; done)); go_simp; refine hK _ ?_; clear hK K)
            first | (refine Ord.St.fl2 (T' := ?_) 9 [10, 11, 12, 13, 14] _ _ rfl (by kernel_rfl) ?_ rfl rfl rfl (fun K w' hk => ?_) ?_; rotate_left; (first | rfl | (simp [Region.wanted, yielded, *]; done)); focus (go_step; exact hk)) | (refine Ord.St.skip 9 [10, 11, 12, 13, 14] _ rfl (by kernel_rfl) ?_ (fun K hK => ?_); (first | rfl | (simp [Region.wanted, yielded, *]; done)); go_simp; refine hK _ ?_; clear hK K)
            first | (refine Ord.St.fl2 (T' := ?_) 10 [11, 12, 13, 14] _ _ rfl (by kernel_rfl) ?_ rfl rfl rfl (fun K w' hk => ?_) ?_; rotate_left; (first | rfl | (simp [Region.wanted, yielded, *]; done)); focus (go_step; exact hk)) | (refine Ord.St.skip 10 [11, 12, 13, 14] _ rfl (by kernel_rfl) ?_ (fun K hK => ?_); (first | rfl | (simp [Region.wanted, yielded, *]; done)); go_simp; refine hK _ ?_; clear hK K)
            first | (refine Ord.St.fl2 (T' := ?_) 11 [12, 13, 14] _ _ rfl (by kernel_rfl) ?_ rfl rfl rfl (fun K w' hk => ?_) ?_; rotate_left; (first | rfl | (simp [Region.wanted, yielded, *]; done)); focus (go_step; exact hk)) | (refine Ord.St.skip 11 [12, 13, 14] _ rfl (by kernel_rfl) ?_ (fun K hK => ?_); (first | rfl | (simp [Region.wanted, yielded, *]; done)); go_simp; refine hK _ ?_; clear hK K)
            first | (refine Ord.St.rd2 (T' := ?_) 12 [13, 14] _ _ rfl (by kernel_rfl) ?_ rfl rfl rfl (fun K hk => ?_) ?_; rotate_left; (first | rfl | (simp [Region.wanted, yielded, *]; done)); focus (go_step; exact hk)) | (refine Ord.St.skipr 12 [13, 14] _ rfl (by kernel_rfl) ?_ (fun K hK => ?_); (first | rfl | (simp [Region.wanted, yielded, *]; done)); go_simp; refine hK _ ?_; clear hK K)
            first | (refine Ord.St.rd2 (T' := ?_) 13 [14] _ _ rfl (by kernel_rfl) ?_ rfl rfl rfl (fun K hk => ?_) ?_; rotate_left; (first | rfl | (simp [Region.wanted, yielded, *]; done)); focus (go_step; refine (Lessr_is y x).mono ?_; rintro e w'' ⟨rfl, rfl⟩; exact hk)) | (refine Ord.St.skipr 13 [14] _ rfl (by kernel_rfl) ?_ (fun K hK => ?_); (first | rfl | (simp [Region.wanted, yielded, *]; done)); go_simp; refine hK _ ?_; clear hK K)
            refine Ord.St.fl2 (T' := ?_) 14 [] _ _ rfl (by kernel_rfl) rfl rfl rfl rfl (fun K w' hk => ?_) ?_
            rotate_left
            · go_step; exact hk
            refine Ord.St.nil ?_
            go_wp2_with fail
            go_roundw
            case rel => exact ⟨k + 1, M, by omega, by omega, by go_num, HP.out, HF.out.done hm HX.out HY.out (by have := HLT.out; omega), HROW.out.ch ((Ch.refl [] _).drew) (by simp), HC.out.drew⟩
            case measure => simp [intOf] <;> omega
        · have hm0 : m = 0 := by omega
          subst hm0
          have d : decide ((0 : Int) < 0) = false := rfl
          have HP := Lib.hid hp; clear hp
          have HF := Lib.hid hf.done0; clear hf
          have HROW := Lib.hid hrow; clear hrow
          have HC := Lib.hid hc; clear hc
          go_wp2_with fail
          refine Ord.St.door (fun _ => True) [.fl, .fl, .fl, .fl, .fl, .fl, .fl, .rd, .fl, .fl, .fl, .fl, .rd, .ef, .fl] [0, 0, 3, 7, 15, 15, 63, 127, 15, 15, 527, 1807, 3855, 8191, 16383] [0, 1, 2, 3, 4, 5, 6, 7, 8, 9, 10, 11, 12, 13, 14] mixed (by kernel_rfl) rfl ?_
          refine Ord.St.fl2 (T' := ?_) 0 [1, 2, 3, 4, 5, 6, 7, 8, 9, 10, 11, 12, 13, 14] _ _ rfl (by kernel_rfl) rfl rfl rfl rfl (fun K w' hk => ?_) ?_
          rotate_left
          · go_step; exact hk
          refine Ord.St.fl2 (T' := ?_) 1 [2, 3, 4, 5, 6, 7, 8, 9, 10, 11, 12, 13, 14] _ _ rfl (by kernel_rfl) rfl rfl rfl rfl (fun K w' hk => ?_) ?_
          rotate_left
          · go_step; exact hk
          refine Ord.St.fl2 (T' := ?_) 2 [3, 4, 5, 6, 7, 8, 9, 10, 11, 12, 13, 14] _ _ rfl (by kernel_rfl) rfl rfl rfl rfl (fun K w' hk => ?_) ?_
          rotate_left
          · go_step; exact hk
          refine Ord.St.fl2 (T' := ?_) 3 [4, 5, 6, 7, 8, 9, 10, 11, 12, 13, 14] _ _ rfl (by kernel_rfl) rfl rfl rfl rfl (fun K w' hk => ?_) ?_
          rotate_left
          · go_step; exact hk
          first | (refine Ord.St.fl2 (T' := ?_) 4 [5, 6, 7, 8, 9, 10, 11, 12, 13, 14] _ _ rfl (by kernel_rfl) ?_ rfl rfl rfl (fun K w' hk => ?_) ?_; rotate_left; (first | rfl | (simp [Region.wanted, yielded, *]; done)); focus (go_step; exact hk)) | (refine Ord.St.skip 4 [5, 6, 7, 8, 9, 10, 11, 12, 13, 14] _ rfl (by kernel_rfl) ?_ (fun K hK => ?_); (first | rfl | (simp [Region.wanted, yielded, *]; done)); go_simp; refine hK _ ?_; clear hK K)
          first | (refine Ord.St.fl2 (T' := ?_) 5 [6, 7, 8, 9, 10, 11, 12, 13, 14] _ _ rfl (by kernel_rfl) ?_ rfl rfl rfl (fun K w' hk => ?_) ?_; rotate_left; (first | rfl | (simp [Region.wanted, yielded, *]; done)); focus (go_step; exact hk)) | (refine Ord.St.skip 5 [6, 7, 8, 9, 10, 11, 12, 13, 14] _ rfl (by kernel_rfl) ?_ (fun K hK => ?_); (first | rfl | (simp [Region.wanted, yielded, *]; done)); go_simp; refine hK _ ?_; clear hK K)
          first | (refine Ord.St.fl2 (T' := ?_) 6 [7, 8, 9, 10, 11, 12, 13, 14] _ _ rfl (by kernel_rfl) ?_ rfl rfl rfl (fun K w' hk => ?_) ?_; rotate_left; (first | rfl | (simp [Region.wanted, yielded, *]; done)); focus (go_step; exact hk)) | (refine Ord.St.skip 6 [7, 8, 9, 10, 11, 12, 13, 14] _ rfl (by kernel_rfl) ?_ (fun K hK => ?_); (first | rfl | (simp [Region.wanted, yielded, *]; done)); go_simp; refine hK _ ?_; clear hK K)
          first | (refine Ord.St.rd2 (T' := ?_) 7 [8, 9, 10, 11, 12, 13, 14] _ _ rfl (by kernel_rfl) ?_ rfl rfl rfl (fun K hk => ?_) ?_; rotate_left; (first | rfl | (simp [Region.wanted, yielded, *]; done)); focus (go_step; exact hk)) | (refine Ord.St.skipr 7 [8, 9, 10, 11, 12, 13, 14] _ rfl (by kernel_rfl) ?_ (fun K hK => ?_); (first | rfl | (simp [Region.wanted, yielded, *]; done)); go_simp; refine hK _ ?_; clear hK K)
          first | (refine Ord.St.fl2 (T' := ?_) 8 [9, 10, 11, 12, 13, 14] _ _ rfl (by kernel_rfl) ?_ rfl rfl rfl (fun K w' hk => ?_) ?_; rotate_left; (first | rfl | (simp [Region.wanted, yielded, *]; done)); focus (go_step; exact hk)) | (refine Ord.St.skip 8 [9, 10, 11, 12, 13, 14] _ rfl (by kernel_rfl) ?_ (fun K hK => ?_); (first | rfl | (simp [Region.wanted, yielded, *]; done)); go_simp; refine hK _ ?_; clear hK K)
          first | (refine Ord.St.fl2 (T' := ?_) 9 [10, 11, 12, 13, 14] _ _ rfl (by kernel_rfl) ?_ rfl rfl rfl (fun K w' hk => ?_) ?_; rotate_left; (first | rfl | (simp [Region.wanted, yielded, *]; done)); focus (go_step; exact hk)) | (refine Ord.St.skip 9 [10, 11, 12, 13, 14] _ rfl (by kernel_rfl) ?_ (fun K hK => ?_); (first | rfl | (simp [Region.wanted, yielded, *]; done)); go_simp; refine hK _ ?_; clear hK K)
          first | (refine Ord.St.fl2 (T' := ?_) 10 [11, 12, 13, 14] _ _ rfl (by kernel_rfl) ?_ rfl rfl rfl (fun K w' hk => ?_) ?_; rotate_left; (first | rfl | (simp [Region.wanted, yielded, *]; done)); focus (go_step; exact hk)) | (refine Ord.St.skip 10 [11, 12, 13, 14] _ rfl (by kernel_rfl) ?_ (fun K hK => ?_); (first | rfl | (simp [Region.wanted, yielded, *]; done)); go_simp; refine hK _ ?_; clear hK K)
          first | (refine Ord.St.fl2 (T' := ?_) 11 [12, 13, 14] _ _ rfl (by kernel_rfl) ?_ rfl rfl rfl (fun K w' hk => ?_) ?_; rotate_left; (first | rfl | (simp [Region.wanted, yielded, *]; done)); focus (go_step; exact hk)) | (refine Ord.St.skip 11 [12, 13, 14] _ rfl (by kernel_rfl) ?_ (fun K hK => ?_); (first | rfl | (simp [Region.wanted, yielded, *]; done)); go_simp; refine hK _ ?_; clear hK K)
          first | (refine Ord.St.rd2 (T' := ?_) 12 [13, 14] _ _ rfl (by kernel_rfl) ?_ rfl rfl rfl (fun K hk => ?_) ?_; rotate_left; (first | rfl | (simp [Region.wanted, yielded, *]; done)); focus (go_step; exact hk)) | (refine Ord.St.skipr 12 [13, 14] _ rfl (by kernel_rfl) ?_ (fun K hK => ?_); (first | rfl | (simp [Region.wanted, yielded, *]; done)); go_simp; refine hK _ ?_; clear hK K)
          refine Ord.St.ef 13 [14] _ rfl (by kernel_rfl) (fun K hK => ?_)
          go_wp2_with fail
          refine ⟨rfl, hK _ _ ?_⟩; clear hK K
          refine Ord.St.fl2 (T' := ?_) 14 [] _ _ rfl (by kernel_rfl) rfl rfl rfl rfl (fun K w' hk => ?_) ?_
          rotate_left
          · go_step; exact hk
          refine Ord.St.nil ?_
          go_wp2_with fail
          go_roundw
          case rel => exact ⟨k + 1, M, by omega, by omega, by go_num, HP.out, HF.out, HROW.out.ch ((Ch.refl [] _).drew) (by simp), HC.out.drew⟩
          case measure => simp [intOf] <;> omega
    · have hkn : k = n := by omega
      subst hkn
      have HP := Lib.hid hp; clear hp
      have HF := Lib.hid hf; clear hf
      have HROW := Lib.hid hrow; clear hrow
      have HC := Lib.hid hc; clear hc
      go_wp2_with fail
      go_end0
      exact ⟨rfl, L, HP.out, HF.out, HROW.out, HC.out⟩
set_option maxRecDepth 1000000 in
set_option maxHeartbeats 4000000 in
theorem bitsLen64_1 (w : World) : Calls Try.prog 146 #[.int .u64 1] w fun e w' => (∃ k : Int, e = .returned (.int .i64 k)) ∧ w = w' := by
  go_enter Try.func146, Try.ntmps146
  go_wp2_with fail
  go_ret
  exact ⟨⟨_, rfl⟩, rfl⟩
set_option maxRecDepth 1000000 in
set_option maxHeartbeats 4000000 in
theorem bitsLen64_2 (w : World) : Calls Try.prog 146 #[.int .u64 2] w fun e w' => (∃ k : Int, e = .returned (.int .i64 k)) ∧ w = w' := by
  go_enter Try.func146, Try.ntmps146
  go_wp2_with fail
  go_ret
  exact ⟨⟨_, rfl⟩, rfl⟩
set_option maxRecDepth 1000000 in
set_option maxHeartbeats 4000000 in
theorem bitsLen64_3 (w : World) : Calls Try.prog 146 #[.int .u64 3] w fun e w' => (∃ k : Int, e = .returned (.int .i64 k)) ∧ w = w' := by
  go_enter Try.func146, Try.ntmps146
  go_wp2_with fail
  go_ret
  exact ⟨⟨_, rfl⟩, rfl⟩
set_option maxRecDepth 1000000 in
set_option maxHeartbeats 4000000 in
theorem bitsLen64_4 (w : World) : Calls Try.prog 146 #[.int .u64 4] w fun e w' => (∃ k : Int, e = .returned (.int .i64 k)) ∧ w = w' := by
  go_enter Try.func146, Try.ntmps146
  go_wp2_with fail
  go_ret
  exact ⟨⟨_, rfl⟩, rfl⟩
set_option maxRecDepth 1000000 in
set_option maxHeartbeats 4000000 in
theorem bitsLen64_5 (w : World) : Calls Try.prog 146 #[.int .u64 5] w fun e w' => (∃ k : Int, e = .returned (.int .i64 k)) ∧ w = w' := by
  go_enter Try.func146, Try.ntmps146
  go_wp2_with fail
  go_ret
  exact ⟨⟨_, rfl⟩, rfl⟩
set_option maxRecDepth 1000000 in
set_option maxHeartbeats 4000000 in
theorem bitsLen64_6 (w : World) : Calls Try.prog 146 #[.int .u64 6] w fun e w' => (∃ k : Int, e = .returned (.int .i64 k)) ∧ w = w' := by
  go_enter Try.func146, Try.ntmps146
  go_wp2_with fail
  go_ret
  exact ⟨⟨_, rfl⟩, rfl⟩
set_option maxRecDepth 1000000 in
set_option maxHeartbeats 4000000 in
theorem bitsLen64_7 (w : World) : Calls Try.prog 146 #[.int .u64 7] w fun e w' => (∃ k : Int, e = .returned (.int .i64 k)) ∧ w = w' := by
  go_enter Try.func146, Try.ntmps146
  go_wp2_with fail
  go_ret
  exact ⟨⟨_, rfl⟩, rfl⟩
set_option maxRecDepth 1000000 in
set_option maxHeartbeats 4000000 in
theorem bitsLen64_8 (w : World) : Calls Try.prog 146 #[.int .u64 8] w fun e w' => (∃ k : Int, e = .returned (.int .i64 k)) ∧ w = w' := by
  go_enter Try.func146, Try.ntmps146
  go_wp2_with fail
  go_ret
  exact ⟨⟨_, rfl⟩, rfl⟩
set_option maxRecDepth 1000000 in
set_option maxHeartbeats 4000000 in
theorem bitsLen64_9 (w : World) : Calls Try.prog 146 #[.int .u64 9] w fun e w' => (∃ k : Int, e = .returned (.int .i64 k)) ∧ w = w' := by
  go_enter Try.func146, Try.ntmps146
  go_wp2_with fail
  go_ret
  exact ⟨⟨_, rfl⟩, rfl⟩
theorem bitsLen64_is (n : Nat) (h1 : 1 ≤ n) (h : n ≤ 9) : Calls Try.prog 146 #[.int .u64 n] w fun e w' => (∃ k : Int, e = .returned (.int .i64 k)) ∧ w = w' := by
  rcases (by omega : n = 1 ∨ n = 2 ∨ n = 3 ∨ n = 4 ∨ n = 5 ∨ n = 6 ∨ n = 7 ∨ n = 8 ∨ n = 9) with rfl | rfl | rfl | rfl | rfl | rfl | rfl | rfl | rfl
  · exact bitsLen64_1 w
  · exact bitsLen64_2 w
  · exact bitsLen64_3 w
  · exact bitsLen64_4 w
  · exact bitsLen64_5 w
  · exact bitsLen64_6 w
  · exact bitsLen64_7 w
  · exact bitsLen64_8 w
  · exact bitsLen64_9 w
/-- the length of a number in bits: some number -/
theorem bitsLen_is (n : Nat) (h1 : 1 ≤ n) (h : n ≤ 9) : Calls Try.prog 99 #[.int .u64 n] w fun e w' => (∃ k : Int, e = .returned (.int .i64 k)) ∧ w = w' := by
  go_enter Try.func99, Try.ntmps99
  go_wp2_with fail
  refine (bitsLen64_is n h1 h).mono ?_
  rintro e w' ⟨⟨k, rfl⟩, rfl⟩
  go_wp2_with fail
  go_ret
  exact ⟨⟨k, rfl⟩, rfl⟩
set_option maxRecDepth 100000 in
set_option maxHeartbeats 4000000 in
theorem Pdqr_is {b n c : Nat} {l : List Int} (hr : row w 34 1 (.slice (some ⟨b, 0, none⟩) n c) n (intCells l)) (hl : l.length = n) (h1 : 1 ≤ n) (hn : n ≤ 12) (lim : Int) :
    Calls Try.prog 98 #[.slice (some ⟨b, 0, none⟩) n c, .int .i64 0, .int .i64 n, .int .i64 lim] w fun e w' => e = .returned (.tuple #[]) ∧ ∃ L : List Int, L.Perm l ∧ Front L n ∧ row w' 34 1 (.slice (some ⟨b, 0, none⟩) n c) n (intCells L) ∧ Ch [b] w w' := by
  have HI := Lib.hid (Insr_is hr hl h1 hn); clear hr hl
  go_enter Try.func98, Try.ntmps98
  go_wp2_with fail
  refine wp_loop_once ?_
  go_wp2_with fail
  refine HI.out.mono ?_
  rintro e w' ⟨rfl, hh⟩
  have HH := Lib.hid hh; clear hh HI
  go_wp2_with fail
  try simp only [Exit.inBlock, Exit.then]
  refine bodyPost_ret (results_none rfl _ _ _) rfl ?_
  exact ⟨rfl, HH.out⟩
set_option maxRecDepth 100000 in
set_option maxHeartbeats 4000000 in
theorem Sortr_is {b n c : Nat} {l : List Int} (hr : row w 34 1 (.slice (some ⟨b, 0, none⟩) n c) n (intCells l)) (hl : l.length = n) (h1 : 1 ≤ n) (hn : n ≤ 9) :
    Calls Try.prog 47 #[.slice (some ⟨b, 0, none⟩) n c] w fun e w' => e = .returned (.tuple #[]) ∧ ∃ L : List Int, L.Perm l ∧ Front L n ∧ row w' 34 1 (.slice (some ⟨b, 0, none⟩) n c) n (intCells L) ∧ Ch [b] w w' := by
  have HP := fun lim => Pdqr_is hr hl h1 (by omega) lim
  clear hr hl
  go_enter Try.func47, Try.ntmps47
  go_wp2_with fail
  refine (bitsLen_is n h1 hn).mono ?_
  rintro e w' ⟨⟨k, rfl⟩, rfl⟩
  have HPP := Lib.hid (HP k); clear HP
  go_wp2_with fail
  refine HPP.out.mono ?_
  rintro e w' ⟨rfl, hh⟩
  have HH := Lib.hid hh; clear hh
  go_wp2_with fail
  go_end0
  exact ⟨rfl, HH.out⟩
end
end Go.Proofs.Ytchledddgmbndaa
namespace Go.Aig
theorem rIn_sorted (n : Nat) : (natInts (rIn 0 n)).Pairwise (· ≤ ·) := by
  unfold natInts rIn
  rw [List.map_map, List.pairwise_map]
  refine List.Pairwise.imp ?_ List.pairwise_lt_range
  intro a b h
  simp only [Function.comp]
  omega
end Go.Aig
namespace Go.Proofs.Ytchledddgmbndaa
open Go.RowKit Go.Mem Go.Aig
set_option maxRecDepth 100000 in
set_option maxHeartbeats 8000000 in
theorem ShiftsTurn_walk {w : World} (wd : Nat) (hw : wd ≤ 255) (N : Int) (hN : (Lit.int .i64 N).wf = true) (M : Int) (hM : (Lit.int .i64 M).wf = true) : Calls Try.prog 11 #[.int .u8 wd, .int .i64 N, .int .i64 M] w fun e w' => e = .returned (.bool true) ∧ Ch [] w w' := by
  have HP := fun W => two25_is W wd 0 hw (by omega)
  obtain ⟨n, hn, hn1, hn9⟩ : ∃ n, wd % 9 + 1 = n ∧ 1 ≤ n ∧ n ≤ 9 := ⟨_, rfl, by omega, by omega⟩
  rw [hn] at HP
  simp only [Nat.zero_mod, Nat.zero_add] at HP
  obtain ⟨X, hX⟩ : ∃ X, X = natInts (rIn 0 n) := ⟨_, rfl⟩
  have hXn : X.length = n := by rw [hX]; simp
  have hXs : X.Pairwise (· ≤ ·) := by rw [hX]; exact rIn_sorted n
  rw [← hX] at HP
  generalize natInts (rIn n 1) = Y at HP
  clear hn hX
  have hN2 : -9223372036854775808 ≤ N ∧ N ≤ 9223372036854775807 := wf_i64 hN
  have hM2 : -9223372036854775808 ≤ M ∧ M ≤ 9223372036854775807 := wf_i64 hM
  clear hN hM
  obtain ⟨p, hp⟩ : ∃ p, N.tmod n = p := ⟨_, rfl⟩
  obtain ⟨q, hq⟩ : ∃ q, M.tmod n = q := ⟨_, rfl⟩
  have hpb : -9 < p ∧ p < 9 := by
    have h1 := Int.tmod_lt_of_pos N (show (0 : Int) < n by omega)
    have h2 := Int.lt_tmod_of_pos N (show (0 : Int) < n by omega)
    omega
  have hqb : -9 < q ∧ q < 9 := by
    have h1 := Int.tmod_lt_of_pos M (show (0 : Int) < n by omega)
    have h2 := Int.lt_tmod_of_pos M (show (0 : Int) < n by omega)
    omega
  have hpm : p % n = N % n := by rw [← hp, Int.tmod_eq_emod]; split <;> simp
  have hqm : q % n = M % n := by rw [← hq, Int.tmod_eq_emod]; split <;> simp
  have e1 : turnL (turnL X N) M = turnL X (p + q) := by
    rw [turnL_turnL]
    refine turnL_congr ?_
    rw [hXn, Int.add_emod, ← hpm, ← hqm, ← Int.add_emod]
  have e2 : turnL X (n : Int) = X := by
    rw [turnL_congr (m := 0) (by rw [hXn]; simp), turnL_zero]
  have e3 : turnL (turnL X N) (-p) = X := by
    rw [turnL_turnL, turnL_congr (m := 0) (by rw [hXn, Int.add_emod, ← hpm, ← Int.add_emod]; simp [Int.add_right_neg]), turnL_zero]
  have HA := fun W => awake25_is W
  have hr : rightB n = true := by unfold rightB; simp; omega
  have HXN := Lib.hid hXn; clear hXn
  have HXS := Lib.hid hXs; clear hXs
  have HE1 := Lib.hid e1; clear e1
  have HE2 := Lib.hid e2; clear e2
  have HE3 := Lib.hid e3; clear e3
  have HR := Lib.hid hr; clear hr
  have HPM := Lib.hid hpm; clear hpm hqm
  go_enter Try.func11, Try.ntmps11
  go_wp2_with fail
  refine (HA _).mono ?_
  rintro e w1 ⟨rfl, hc1⟩
  have HC1 := Lib.hid hc1; clear hc1
  go_wp2_with fail
  refine (HP _).mono ?_
  rintro e w2 ⟨g, F2, xa, xc, ya, yc, rfl, ho⟩
  have HO := Lib.hid ho; clear ho HP
  go_wp2_with fail
  refine (Turn_h HO.out (xa := xa) (xc := xc) (n := n) (xl := X) (by simp) HXN.out N hN2 HR.out rfl).mono ?_
  rintro e w3 ⟨aa, ac, rfl, ho⟩
  clear HO; have HO := Lib.hid ho; clear ho
  go_wp2_with fail
  refine (Turn_h HO.out (xa := aa) (xc := ac) (n := n) (xl := turnL X N) (by simp) (by simp [HXN.out]) M hM2 HR.out rfl).mono ?_
  rintro e w4 ⟨ba, bc, rfl, ho⟩
  clear HO; have HO := Lib.hid ho; clear ho
  have ht := Turn_h (HO.out.same ((Ch.refl [] w4).drew)) (xa := xa) (xc := xc) (n := n) (xl := X) (by simp) HXN.out (p + q) (by omega) HR.out rfl
  have HT := Lib.hid ht; clear ht
  go_wp2_with fail
  refine Ord.St.door (fun _ => True) [.fl, .fl, .fl, .rd, .fl, .fl, .fl, .rd, .fl, .fl, .ef, .fl, .fl, .fl, .fl, .fl] [0, 0, 0, 4, 14, 0, 0, 64, 224, 510, 1023, 2047, 4095, 4095, 8191, 32767] [0, 1, 2, 3, 4, 5, 6, 7, 8, 9, 10, 11, 12, 13, 14, 15] mixed (by kernel_rfl) rfl ?_
  refine Ord.St.fl2 (T' := ?_) 0 [1, 2, 3, 4, 5, 6, 7, 8, 9, 10, 11, 12, 13, 14, 15] _ _ rfl (by kernel_rfl) rfl rfl rfl rfl (fun K w' hk => ?_) ?_
  rotate_left
  · go_step; exact hk
  refine Ord.St.fl2 (T' := ?_) 1 [2, 3, 4, 5, 6, 7, 8, 9, 10, 11, 12, 13, 14, 15] _ _ rfl (by kernel_rfl) rfl rfl rfl rfl (fun K w' hk => ?_) ?_
  rotate_left
  · go_step; exact hk
  refine Ord.St.fl2 (T' := ?_) 2 [3, 4, 5, 6, 7, 8, 9, 10, 11, 12, 13, 14, 15] _ _ rfl (by kernel_rfl) rfl rfl rfl rfl (fun K w' hk => ?_) ?_
  rotate_left
  · go_step; exact hk
  refine Ord.St.rd2 (T' := ?_) 3 [4, 5, 6, 7, 8, 9, 10, 11, 12, 13, 14, 15] _ _ rfl (by kernel_rfl) rfl rfl rfl rfl (fun K hk => ?_) ?_
  rotate_left
  · go_step; exact hk
  refine Ord.St.fl2 (T' := ?_) 4 [5, 6, 7, 8, 9, 10, 11, 12, 13, 14, 15] _ _ rfl (by kernel_rfl) rfl rfl rfl rfl (fun K w' hk => ?_) ?_
  rotate_left
  · go_step; exact hk
  refine Ord.St.fl2 (T' := ?_) 5 [6, 7, 8, 9, 10, 11, 12, 13, 14, 15] _ _ rfl (by kernel_rfl) rfl rfl rfl rfl (fun K w' hk => ?_) ?_
  rotate_left
  · go_step; exact hk
  refine Ord.St.fl2 (T' := ?_) 6 [7, 8, 9, 10, 11, 12, 13, 14, 15] _ _ rfl (by kernel_rfl) rfl rfl rfl rfl (fun K w' hk => ?_) ?_
  rotate_left
  · go_step; exact hk
  refine Ord.St.rd2 (T' := ?_) 7 [8, 9, 10, 11, 12, 13, 14, 15] _ _ rfl (by kernel_rfl) rfl rfl rfl rfl (fun K hk => ?_) ?_
  rotate_left
  · go_step; exact hk
  refine Ord.St.fl2 (T' := ?_) 8 [9, 10, 11, 12, 13, 14, 15] _ _ rfl (by kernel_rfl) rfl rfl rfl rfl (fun K w' hk => ?_) ?_
  rotate_left
  · go_step; exact hk
  refine Ord.St.fl2 (T' := ?_) 9 [10, 11, 12, 13, 14, 15] _ _ rfl (by kernel_rfl) rfl rfl rfl rfl (fun K w' hk => ?_) ?_
  rotate_left
  · go_step; exact hk
  refine Ord.St.ef 10 [11, 12, 13, 14, 15] _ rfl (by kernel_rfl) (fun K hK => ?_)
  go_wp2_with fail
  refine HT.out.mono ?_
  rintro e w5 ⟨ca, cc, rfl, ho⟩
  clear HO; have HO := Lib.hid ho; clear ho
  go_wp2_with fail
  refine ⟨rfl, hK _ _ ?_⟩; clear hK K
  refine Ord.St.fl2 (T' := ?_) 11 [12, 13, 14, 15] _ _ rfl (by kernel_rfl) rfl rfl rfl rfl (fun K w' hk => ?_) ?_
  rotate_left
  · go_step; exact hk
  refine Ord.St.fl2 (T' := ?_) 12 [13, 14, 15] _ _ rfl (by kernel_rfl) rfl rfl rfl rfl (fun K w' hk => ?_) ?_
  rotate_left
  · go_step; exact hk
  refine Ord.St.fl2 (T' := ?_) 13 [14, 15] _ _ rfl (by kernel_rfl) rfl rfl rfl rfl (fun K w' hk => ?_) ?_
  rotate_left
  · go_step; exact hk
  refine Ord.St.fl2 (T' := ?_) 14 [15] _ _ rfl (by kernel_rfl) rfl rfl rfl rfl (fun K w' hk => ?_) ?_
  rotate_left
  · go_step; exact hk
  refine Ord.St.fl2 (T' := ?_) 15 [] _ _ rfl (by kernel_rfl) rfl rfl rfl rfl (fun K w' hk => ?_) ?_
  rotate_left
  · go_step; exact hk
  refine Ord.St.nil ?_
  clear HT
  go_wp2_with fail
  refine (Turn_h HO.out (xa := xa) (xc := xc) (n := n) (xl := X) (by simp) HXN.out n (by omega) HR.out HE2.out).mono ?_
  rintro e w6 ⟨da, dc, rfl, ho⟩
  clear HO; have HO := Lib.hid ho; clear ho
  have hneg : -9223372036854775808 ≤ -p ∧ -p ≤ 9223372036854775807 := by omega
  go_wp2_with fail
  refine (Turn_h HO.out (xa := aa) (xc := ac) (n := n) (xl := turnL X N) (by simp) (by simp [HXN.out]) (-p) hneg HR.out HE3.out).mono ?_
  rintro e w7 ⟨fa, fc, rfl, ho⟩
  clear HO; have HO := Lib.hid ho; clear ho
  go_wp2_with fail
  refine (Eqref_h HO.out (xa := ba) (xc := bc) (n := n) (xl := turnL (turnL X N) M) (by simp) (by simp [HXN.out]) (ya := ca) (yc := cc) (m := n) (yl := turnL X (p + q)) (by simp) (by simp [HXN.out]) (q := true) (by rw [HE1.out]; simp)).mono ?_
  rintro e w8 ⟨rfl, ho⟩
  clear HO; have HO := Lib.hid ho; clear ho
  go_wp2_with fail
  refine (Eqref_h HO.out (xa := da) (xc := dc) (n := n) (xl := X) (by simp) HXN.out (ya := xa) (yc := xc) (m := n) (yl := X) (by simp) HXN.out (q := true) (by simp)).mono ?_
  rintro e w9 ⟨rfl, ho⟩
  clear HO; have HO := Lib.hid ho; clear ho
  go_wp2_with fail
  refine (Eqref_h HO.out (xa := fa) (xc := fc) (n := n) (xl := X) (by simp) HXN.out (ya := xa) (yc := xc) (m := n) (yl := X) (by simp) HXN.out (q := true) (by simp)).mono ?_
  rintro e w10 ⟨rfl, ho⟩
  clear HO
  have ho := ho.sub (L' := [(.slice aa n ac, turnL X N), (.slice ya 1 yc, Y), (.slice xa n xc, X)]) (by simp)
  have HO := Lib.hid ho; clear ho
  have hA := HO.out.at (a := aa) (c := ac) (n := n) (l := turnL X N) (by simp) (by simp [HXN.out])
  have hC := Clref_w hA.ok n (by simp [HXN.out])
  have HC := Lib.hid hC; clear hC hA
  go_wp2_with fail
  refine HC.out.mono ?_
  rintro e w11 ⟨v, rfl, hwn⟩
  have hwn1 := hwn.1
  have eln : (intCells (turnL X N)).length = n := by simp [intCells, HXN.out]
  simp only [eln] at hwn1
  obtain ⟨sb, sc, rfl⟩ := row.parts hwn1 (by omega)
  have hS := Sortr_is hwn1 (by simp [HXN.out]) hn1 hn9
  have HSORT := Lib.hid hS; clear hS hwn1 HC
  have HWN := Lib.hid hwn; clear hwn
  go_wp2_with fail
  refine HSORT.out.mono ?_
  rintro e w12 ⟨rfl, L, hp, hf, hrow, hch⟩
  have hLX : L = X := sorted_eq (hp.trans (turnL_perm X N)) (Front.sorted (by rw [(hp.trans (turnL_perm X N)).length_eq, HXN.out]; exact hf)) HXS.out
  subst hLX
  have hwn2 : WNew w10 (.slice (some ⟨sb, 0, none⟩) n sc) (intCells L) w12 := by
    have e : (intCells L).length = n := by simp [intCells, HXN.out]
    obtain ⟨_, h2, h3⟩ := HWN.out
    refine ⟨by rw [e]; exact hrow, h2, h3.trans hch (fun k hk => ?_)⟩
    rw [List.mem_singleton.1 hk]
    exact .inr (h2 sb (by simp))
  obtain ⟨a9, c9, e9, ho⟩ := HO.out.new hwn2 (HO.out.at (a := xa) (c := xc) (n := n) (l := L) (by simp) HXN.out).ok.bd (by rw [HXN.out]; omega)
  rw [HXN.out] at e9 ho
  cases e9
  clear HO HSORT HWN hp hf hrow hch hwn2
  have HO := Lib.hid ho; clear ho
  go_wp2_with fail
  refine (Eqref_h HO.out (xa := some ⟨sb, 0, none⟩) (xc := sc) (n := n) (xl := L) (by simp) HXN.out (ya := xa) (yc := xc) (m := n) (yl := L) (by simp) HXN.out (q := true) (by simp)).mono ?_
  rintro e w13 ⟨rfl, ho⟩
  clear HO
  have HO := Lib.hid ho; clear ho
  go_wp2_with fail
  go_loopw [122] (fun i wq => ∃ (k : Nat), k ≤ n ∧ i = .int .i64 k ∧ Hold (Base.mk w1 []) wq g (gIn 4000 (n + 1)) F2 [(.slice (some ⟨sb, 0, none⟩) n sc, L), (.slice aa n ac, turnL L N), (.slice ya 1 yc, Y), (.slice xa n xc, L)]) (fun i _ => n - (intOf i).toNat)
  case atStart => exact ⟨0, by omega, rfl, HO.out⟩
  case round =>
    obtain ⟨k, hk, rfl, ho⟩ := hrel
    clear HO; have HO := Lib.hid ho; clear ho
    by_cases hkn : k < n
    · obtain ⟨z, hz⟩ : ∃ z : Nat, ((k : Int) + N) % n = z := ⟨(((k : Int) + N) % n).toNat, by have := Int.emod_nonneg ((k : Int) + N) (show (n : Int) ≠ 0 by omega); omega⟩
      have hzn : z < n := by have := Int.emod_lt_of_pos ((k : Int) + N) (show (0 : Int) < n by omega); omega
      have hat := turnL_at (x := L) (n := N) (i := k) (by rw [HXN.out]; exact hkn)
      rw [HXN.out, hz, Int.toNat_natCast] at hat
      obtain ⟨r, hr⟩ : ∃ r, L[z]? = some r := ⟨_, List.getElem?_eq_getElem (by rw [HXN.out]; exact hzn)⟩
      rw [hr] at hat
      obtain ⟨ab, ao, hae, c0⟩ := (HO.out.sl (a := aa) (n := n) (c := ac) (l := turnL L N) (by simp) (by simp [HXN.out])).cells k r hat
      obtain ⟨xb, xo, hxe, c1⟩ := (HO.out.sl (a := xa) (n := n) (c := xc) (l := L) (by simp) HXN.out).cells z r hr
      subst hae
      subst hxe
      have ht : ((k : Int) + p + n).tmod n = z := by
        have hnn : 0 ≤ (k : Int) + p + n := by have h2 := Int.lt_tmod_of_pos N (show (0 : Int) < n by omega); omega
        rw [Int.tmod_eq_emod_of_nonneg hnn, Int.add_emod_right, Int.add_emod, HPM.out, ← Int.add_emod, hz]
      clear hat hr hz
      have HO2 := Lib.hid HO.out
      go_wp2_with fail
      go_roundw
      case rel => exact ⟨k + 1, by omega, by go_num, HO2.out⟩
      case measure => simp [intOf]; omega
    · go_wp2_with fail
      go_ret
      exact ⟨rfl, HC1.out.trans HO.out.own.ch (by simp)⟩
end Go.Proofs.Ytchledddgmbndaa
