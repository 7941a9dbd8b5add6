/-
  Walks over the library's Index, Contains, IndexFunc, ContainsFunc and IsSorted over numbers. Conditions: slices that are read.
-/
import Derived.Test.YtnajonchjlplmaaQW36
namespace Go.Proofs.Ytnajonchjlplmaa
open Go.RowKit Go.Mem Go.Aig
section
set_option maxRecDepth 100000 in
set_option maxHeartbeats 1000000 in
theorem IFint_is {w : World} {a : Option Addr} {xs : List Int} (cap fid : Nat) (caps : Array Value) (p : Int → Bool) (h : Sl w a xs) (hf : ∀ x ∈ xs, Calls Try.prog fid (#[.int .i64 x] ++ caps) w fun e w' => e = .returned (.bool (p x)) ∧ w = w')
    (hfn : Fnv fid) :
    Calls Try.prog 65 #[.slice a xs.length cap, .func (.func fid) #[] caps] w fun e w' => e = .returned (.int .i64 (idxOf p xs)) ∧ w = w' := by
  have hbd := h.bd
  have hcf : ∀ (args : Array Value) (w : World), (callFunc fid args).run Try.prog w = .ok (.enter fid args) w := hfn
  have HF := Lib.hid hf; clear hf
  have H := Lib.hid h; clear h
  go_enter Try.func65, Try.ntmps65
  go_wp2_with fail
  go_loop [8] (fun i => ∃ k : Nat, k ≤ xs.length ∧ i = .int .i64 k ∧ ∀ (j : Nat) (y : Int), j < k → xs[j]? = some y → p y = false) (fun i => xs.length - (intOf i).toNat)
  case atStart => exact ⟨0, Nat.zero_le _, rfl, fun j y hj => by omega⟩
  case round =>
    obtain ⟨k, hk, rfl, hno⟩ := hrel
    have HN := Lib.hid hno; clear hno
    by_cases hlt : k < xs.length
    · obtain ⟨b, o, rfl, hc⟩ := H.out.at (by omega)
      have hx : xs[k]? = some xs[k] := List.getElem?_eq_getElem hlt
      have c1 := hc k _ hx
      have hcall := HF.out xs[k] (List.getElem_mem hlt)
      have HX := Lib.hid hx; clear hx hc
      generalize xs[k] = x at *
      have HC := Lib.hid hcall; clear hcall
      cases hp : p x
      · rw [hp] at HC
        go_wp2_with fail
        refine HC.out.mono ?_
        rintro e w' ⟨rfl, rfl⟩
        go_wp2_with fail
        go_round
        case rel => 
          refine ⟨k + 1, by omega, by go_num, fun j y hj hy => ?_⟩
          by_cases hjk : j = k
          · subst hjk; rw [HX.out] at hy; cases hy; exact hp
          · exact HN.out j y (by omega) hy
        case measure => simp [intOf]; omega
      · rw [hp] at HC
        go_wp2_with fail
        refine HC.out.mono ?_
        rintro e w' ⟨rfl, rfl⟩
        go_wp2_with fail
        go_ret
        exact ⟨ret_int (idxOf_yes HX.out hp HN.out).symm, rfl⟩
    · go_wp2_with fail
      go_ret
      exact ⟨ret_int (idxOf_no (fun j y hy => HN.out j y (by have := (List.getElem?_eq_some_iff.1 hy).1; omega) hy)).symm, rfl⟩

set_option maxRecDepth 100000 in
set_option maxHeartbeats 1000000 in
theorem CFint_is {w : World} {a : Option Addr} {xs : List Int} (cap fid : Nat) (caps : Array Value) (p : Int → Bool) (h : Sl w a xs) (hf : ∀ x ∈ xs, Calls Try.prog fid (#[.int .i64 x] ++ caps) w fun e w' => e = .returned (.bool (p x)) ∧ w = w')
    (hfn : Fnv fid) :
    Calls Try.prog 36 #[.slice a xs.length cap, .func (.func fid) #[] caps] w fun e w' => e = .returned (.bool (xs.any p)) ∧ w = w' := by
  have HI := IFint_is cap fid caps p h hf hfn
  have hidx : decide (0 ≤ idxOf p xs) = xs.any p := by
    unfold idxOf
    cases hh : xs.findIdx? p with
    | none =>
      have := List.findIdx?_eq_none_iff.1 hh
      have h2 : xs.any p = false := by simpa using this
      rw [h2]; rfl
    | some i =>
      have := List.findIdx?_eq_some_iff_getElem.1 hh
      obtain ⟨hlt, hp, _⟩ := this
      have h2 : xs.any p = true := List.any_eq_true.2 ⟨_, List.getElem_mem hlt, hp⟩
      rw [h2]; simp
  clear hf h hfn
  generalize idxOf p xs = q at *
  have HQ := Lib.hid hidx; clear hidx
  have HH := Lib.hid HI; clear HI
  go_enter Try.func36, Try.ntmps36
  go_wp2_with fail
  refine HH.out.mono ?_
  rintro e w' ⟨rfl, rfl⟩
  go_wp2_with fail
  go_ret
  exact ⟨ret_bool HQ.out, rfl⟩

set_option maxRecDepth 100000 in
set_option maxHeartbeats 1000000 in
theorem Ixint_is {w : World} {a : Option Addr} {xs : List Int} (cap : Nat) (v : Int) (h : Sl w a xs) :
    Calls Try.prog 66 #[.slice a xs.length cap, .int .i64 v] w fun e w' => e = .returned (.int .i64 (idxOf (fun y => v == y) xs)) ∧ w = w' := by
  have hbd := h.bd
  have H := Lib.hid h; clear h
  go_enter Try.func66, Try.ntmps66
  go_wp2_with fail
  go_loop [8] (fun i => ∃ k : Nat, k ≤ xs.length ∧ i = .int .i64 k ∧ ∀ (j : Nat) (y : Int), j < k → xs[j]? = some y → (v == y) = false) (fun i => xs.length - (intOf i).toNat)
  case atStart => exact ⟨0, Nat.zero_le _, rfl, fun j y hj => by omega⟩
  case round =>
    obtain ⟨k, hk, rfl, hno⟩ := hrel
    have HN := Lib.hid hno; clear hno
    by_cases hlt : k < xs.length
    · obtain ⟨b, o, rfl, hc⟩ := H.out.at (by omega)
      have hx : xs[k]? = some xs[k] := List.getElem?_eq_getElem hlt
      have c1 := hc k _ hx
      have HX := Lib.hid hx; clear hx hc
      generalize xs[k] = x at *
      cases hp : (v == x)
      · go_wp2_with fail
        go_round
        case rel =>
          refine ⟨k + 1, by omega, by go_num, fun j y hj hy => ?_⟩
          by_cases hjk : j = k
          · subst hjk; rw [HX.out] at hy; cases hy; exact hp
          · exact HN.out j y (by omega) hy
        case measure => simp [intOf]; omega
      · go_wp2_with fail
        go_ret
        exact ⟨ret_int (idxOf_yes (p := fun y => v == y) HX.out hp HN.out).symm, rfl⟩
    · go_wp2_with fail
      go_ret
      exact ⟨ret_int (idxOf_no (p := fun y => v == y) (fun j y hy => HN.out j y (by have := (List.getElem?_eq_some_iff.1 hy).1; omega) hy)).symm, rfl⟩
theorem idxOf_any (p : Int → Bool) (xs : List Int) : decide (0 ≤ idxOf p xs) = xs.any p := by
  unfold idxOf
  cases hh : xs.findIdx? p with
  | none =>
    have := List.findIdx?_eq_none_iff.1 hh
    have h2 : xs.any p = false := by simpa using this
    rw [h2]; rfl
  | some i =>
    have := List.findIdx?_eq_some_iff_getElem.1 hh
    obtain ⟨hlt, hp, _⟩ := this
    have h2 : xs.any p = true := List.any_eq_true.2 ⟨_, List.getElem_mem hlt, hp⟩
    rw [h2]; simp
set_option maxRecDepth 100000 in
set_option maxHeartbeats 1000000 in
theorem Coint_is {w : World} {a : Option Addr} {xs : List Int} (cap : Nat) (v : Int) (h : Sl w a xs) :
    Calls Try.prog 38 #[.slice a xs.length cap, .int .i64 v] w fun e w' => e = .returned (.bool (xs.any fun y => v == y)) ∧ w = w' := by
  have HI := Ixint_is cap v h
  have hidx := idxOf_any (fun y => v == y) xs
  clear h
  generalize idxOf (fun y => v == y) xs = q at *
  have HQ := Lib.hid hidx; clear hidx
  have HH := Lib.hid HI; clear HI
  go_enter Try.func38, Try.ntmps38
  go_wp2_with fail
  refine HH.out.mono ?_
  rintro e w' ⟨rfl, rfl⟩
  go_wp2_with fail
  go_ret
  exact ⟨ret_bool HQ.out, rfl⟩
theorem fnvAigCone1 : Fnv 37 := fnv_of Try.func37 (by simp [Try.f37]) (by simp [Try.f37])
set_option maxRecDepth 100000 in
set_option maxHeartbeats 1000000 in
theorem AigCone1_is {w : World} {a : Option Addr} {xs : List Int} {bx : Nat} (cap : Nat) (v : Int) (h : Sl w a xs) (hb : w.cell? ⟨bx, 0, none⟩ = some (.slice a xs.length cap)) :
    Calls Try.prog 37 (#[.int .i64 v] ++ #[.pointer (some ⟨bx, 0, none⟩)]) w fun e w' => e = .returned (.bool (!xs.any fun y => v == y)) ∧ w = w' := by
  show Calls Try.prog 37 #[.int .i64 v, .pointer (some ⟨bx, 0, none⟩)] w _
  have HI := Coint_is cap v h
  clear h
  generalize (xs.any fun y => v == y) = q at *
  have HH := Lib.hid HI; clear HI
  go_enter Try.func37, Try.ntmps37
  go_wp2_with fail
  refine HH.out.mono ?_
  rintro e w' ⟨rfl, rfl⟩
  go_wp2_with fail
  go_ret
  exact ⟨ret_bool rfl, rfl⟩
set_option maxRecDepth 100000 in
set_option maxHeartbeats 1000000 in
theorem isNaN_is (w : World) (x : Int) : Calls Try.prog 88 #[.int .i64 x] w fun e w' => e = .returned (.bool false) ∧ w = w' := by
  go_enter Try.func88, Try.ntmps88
  go_wp2_with fail
  go_ret
  exact ⟨rfl, rfl⟩
set_option maxRecDepth 100000 in
set_option maxHeartbeats 1000000 in
theorem Less_is (w : World) (x y : Int) : Calls Try.prog 64 #[.int .i64 x, .int .i64 y] w fun e w' => e = .returned (.bool (decide (x < y))) ∧ w = w' := by
  go_enter Try.func64, Try.ntmps64
  go_wp2_with fail
  refine (isNaN_is w x).mono ?_
  rintro e w' ⟨rfl, rfl⟩
  go_wp2_with fail
  go_ret
  exact ⟨rfl, rfl⟩
set_option maxRecDepth 100000 in
set_option maxHeartbeats 1000000 in
theorem Sorted_is {w : World} {a : Option Addr} {xs : List Int} (cap : Nat) (h : Sl w a xs) (hs : ∀ (i : Nat) (x y : Int), xs[i]? = some x → xs[i + 1]? = some y → x ≤ y) :
    Calls Try.prog 35 #[.slice a xs.length cap] w fun e w' => e = .returned (.bool true) ∧ Ch [] w w' := by
  have hbd := h.bd
  have H := Lib.hid h; clear h
  have HS := Lib.hid hs; clear hs
  go_enter Try.func35, Try.ntmps35
  go_wp2_with fail
  go_loopw [3] (fun i wr => ∃ k : Nat, k ≤ xs.length ∧ i = .int .i64 ((k : Int) - 1) ∧ Ch [] w wr) (fun i _ => (intOf i).toNat)
  case atStart => exact ⟨xs.length, Nat.le_refl _, rfl, Ch.refl _ _⟩
  case round =>
    obtain ⟨k, hk, rfl, hc⟩ := hrel
    by_cases hlt : 2 ≤ k
    · obtain ⟨j, rfl⟩ : ∃ j, k = j + 2 := ⟨k - 2, by omega⟩
      have hxk : xs[j]? = some xs[j] := List.getElem?_eq_getElem (by omega)
      have hyk : xs[j + 1]? = some xs[j + 1] := List.getElem?_eq_getElem (by omega)
      have hle := HS.out j _ _ hxk hyk
      obtain ⟨b, o, rfl, c1⟩ := (H.out.ch hc (by simp)).cells j _ hxk
      obtain ⟨b2, o2, he2, c2⟩ := (H.out.ch hc (by simp)).cells (j + 1) _ hyk
      cases he2
      generalize xs[j] = x at *
      generalize xs[j + 1] = y at *
      have hl : decide (y < x) = false := decide_eq_false (by omega)
      have HL := Less_is wr.drew y x
      rw [hl] at HL
      have HLL := Lib.hid HL; clear HL hl hxk hyk hle
      have HC := Lib.hid hc; clear hc
      rw [show ((j + 2 : Nat) : Int) - 1 = ((j + 1 : Nat) : Int) by omega]
      go_wp2_with fail
      have ej : ((j + 1 : Nat) : Int) - 1 = (j : Int) := by omega
      refine Ord.St.door (fun _ => True) [.fl, .fl, .fl, .rd, .fl, .fl, .fl, .fl, .rd, .rd] [0, 0, 3, 7, 0, 0, 32, 112, 240, 511] [0, 1, 2, 3, 4, 5, 6, 7, 8, 9] mixed (by kernel_rfl) rfl ?_
      refine Ord.St.fl2 (T' := ?_) 0 [1, 2, 3, 4, 5, 6, 7, 8, 9] _ _ rfl (by kernel_rfl) rfl rfl rfl rfl (fun K w' hk => ?_) ?_
      rotate_left
      · go_step; exact hk
      refine Ord.St.fl2 (T' := ?_) 1 [2, 3, 4, 5, 6, 7, 8, 9] _ _ rfl (by kernel_rfl) rfl rfl rfl rfl (fun K w' hk => ?_) ?_
      rotate_left
      · go_step; exact hk
      refine Ord.St.fl2 (T' := ?_) 2 [3, 4, 5, 6, 7, 8, 9] _ _ rfl (by kernel_rfl) rfl rfl rfl rfl (fun K w' hk => ?_) ?_
      rotate_left
      · go_step; exact hk
      refine Ord.St.rd2 (T' := ?_) 3 [4, 5, 6, 7, 8, 9] _ _ rfl (by kernel_rfl) rfl rfl rfl rfl (fun K hk => ?_) ?_
      rotate_left
      · go_step; exact hk
      refine Ord.St.fl2 (T' := ?_) 4 [5, 6, 7, 8, 9] _ _ rfl (by kernel_rfl) rfl rfl rfl rfl (fun K w' hk => ?_) ?_
      rotate_left
      · go_step; exact hk
      refine Ord.St.fl2 (T' := ?_) 5 [6, 7, 8, 9] _ _ rfl (by kernel_rfl) rfl rfl rfl rfl (fun K w' hk => ?_) ?_
      rotate_left
      · go_step; exact hk
      refine Ord.St.fl2 (T' := ?_) 6 [7, 8, 9] _ _ rfl (by kernel_rfl) rfl rfl rfl rfl (fun K w' hk => ?_) ?_
      rotate_left
      · go_step; exact hk
      refine Ord.St.fl2 (T' := ?_) 7 [8, 9] _ _ rfl (by kernel_rfl) rfl rfl rfl rfl (fun K w' hk => ?_) ?_
      rotate_left
      · go_step; exact hk
      refine Ord.St.rd2 (T' := ?_) 8 [9] _ _ rfl (by kernel_rfl) rfl rfl rfl rfl (fun K hk => ?_) ?_
      rotate_left
      · go_step; exact hk
      refine Ord.St.rd2 (T' := ?_) 9 [] _ _ rfl (by kernel_rfl) rfl rfl rfl rfl (fun K hk => ?_) ?_
      rotate_left
      · go_step; refine HLL.out.mono ?_; rintro e w' ⟨rfl, rfl⟩; exact hk
      refine Ord.St.nil ?_
      go_wp2_with fail
      go_roundw
      case rel => exact ⟨j + 1, by omega, by go_num, HC.out.drew⟩
      case measure => simp [intOf]
    · have HC := Lib.hid hc; clear hc
      go_wp2_with fail
      go_ret
      exact ⟨rfl, HC.out⟩
end
end Go.Proofs.Ytnajonchjlplmaa
