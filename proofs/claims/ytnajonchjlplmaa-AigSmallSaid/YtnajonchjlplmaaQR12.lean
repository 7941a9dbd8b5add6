/-
  What an act does, by the graph and by the reference: plainly the same; ContainsFunc over numbers with a function that makes memory. Conditions: references of the graph.
-/
import Derived.Test.YtnajonchjlplmaaQR11
namespace Go.Aig
theorem and_err {G : Gra} {a b : Nat} (h : (and G a b).2.2 ≠ 0) : and G a b = (G, 0, (and G a b).2.2) := by
  unfold and at h ⊢
  split
  · rename_i r hi; rw [hi] at h; exact absurd rfl h
  · rename_i l r hi
    rw [hi] at h
    dsimp only at h
    cases hf : findAnd G.nodes l r with
    | some n => rw [hf] at h; exact absurd rfl h
    | none =>
      rw [hf] at h
      dsimp only at h ⊢
      unfold put at h ⊢
      split
      · rfl
      · rename_i hm; rw [if_neg hm] at h; exact absurd rfl h
theorem any_no {ns : List Nd} {l : List Int} (h : ∀ x ∈ l, right ns x = true) : (l.any fun r => !right ns r) = false := by
  rw [List.any_eq_false]
  intro x hx
  rw [h x hx]; simp
theorem whole_ok {G : Gra} {l : List Int} (h : ∀ x ∈ l, right G.nodes x = true) (f : Mk → Mk × Nat) : whole G l f = if (f (G, 0)).1.2 ≠ 0 then (G, 0, (f (G, 0)).1.2) else ((f (G, 0)).1.1, (f (G, 0)).2, 0) := by
  unfold whole
  rw [any_no h, if_neg (by simp)]
theorem whole_no {G : Gra} {l : List Int} {x : Int} (hx : x ∈ l) (h : right G.nodes x = false) (f : Mk → Mk × Nat) : whole G l f = (G, 0, 200) := by
  unfold whole
  rw [if_pos]
  rw [List.any_eq_true]
  exact ⟨x, hx, by rw [h]; rfl⟩
theorem mand_zero (G : Gra) (a b : Nat) : mand (G, 0) a b = (((and G a b).1, (and G a b).2.2), (and G a b).2.1) := by unfold mand; rw [if_neg (by simp)]
theorem mand_bad {s : Mk} (h : s.2 ≠ 0) (a b : Nat) : mand s a b = (s, 0) := by unfold mand; rw [if_pos h]
theorem mand_fine {s : Mk} (h : s.2 = 0) (a b : Nat) : mand s a b = (((and s.1 a b).1, (and s.1 a b).2.2), (and s.1 a b).2.1) := by unfold mand; rw [if_neg (by simp [h])]
theorem whole_and {G : Gra} {l : List Int} (h : ∀ x ∈ l, right G.nodes x = true) (a b : Nat) : whole G l (fun s => mand s a b) = and G a b := by
  rw [whole_ok h, mand_zero]
  dsimp only
  split
  · rename_i he; exact (and_err he).symm
  · rename_i he
    simp only [ne_eq, Decidable.not_not] at he
    rw [← he]
theorem whole_or {G : Gra} {l : List Int} (h : ∀ x ∈ l, right G.nodes x = true) (a b : Nat) : whole G l (fun s => mor s a b) = rOr G a b := by
  rw [whole_ok h]
  unfold mor rOr
  rw [mand_zero]
theorem mall_bad : ∀ (l : List Nat) {s : Mk} (out : Nat), s.2 ≠ 0 → (mall s out l).1 = s
  | [], _, _, _ => rfl
  | r :: l, s, out, h => by
    unfold mall
    rw [mand_bad h]
    exact mall_bad l 0 h
theorem mall_from (G0 : Gra) : ∀ (l : List Nat) (G : Gra) (out : Nat), (if (mall (G, 0) out l).1.2 ≠ 0 then (G0, 0, (mall (G, 0) out l).1.2) else ((mall (G, 0) out l).1.1, (mall (G, 0) out l).2, 0) : Res) = rAllFrom G0 G out l
  | [], G, out => by simp [mall, rAllFrom]
  | r :: l, G, out => by
    unfold mall rAllFrom
    rw [mand_zero]
    dsimp only
    by_cases he : (and G out r).2.2 ≠ 0
    · rw [if_pos he]
      rw [mall_bad l _ (s := ((and G out r).1, (and G out r).2.2)) he, if_pos he]
    · rw [if_neg he]
      have he' : (and G out r).2.2 = 0 := by simpa using he
      rw [he']
      exact mall_from G0 l _ _
theorem whole_all {G : Gra} {l : List Int} (h : ∀ x ∈ l, right G.nodes x = true) (ns : List Nat) : whole G l (fun s => mall s 1 ns) = rAll G ns := by
  rw [whole_ok h]
  exact mall_from G ns G 1
theorem whole_any {G : Gra} {l : List Int} (h : ∀ x ∈ l, right G.nodes x = true) (ns : List Nat) : whole G l (fun s => many s ns) = rAny G ns := by
  rw [whole_ok h]
  unfold many rAny rAll
  rw [← mall_from G (ns.map neg) G 1]
  by_cases he : (mall (G, 0) 1 (ns.map neg)).1.2 ≠ 0
  · simp only [if_pos he]
  · simp only [if_neg he]; simp
theorem whole_mux {G : Gra} {l : List Int} (h : ∀ x ∈ l, right G.nodes x = true) (c a b : Nat) : whole G l (fun s => mmux s c a b) = rMux G c a b := by
  rw [whole_ok h]
  unfold mmux rMux mor
  dsimp only
  rw [mand_zero]
  dsimp only
  generalize and G c a = X
  unfold rThen
  by_cases h1 : X.2.2 ≠ 0
  · rw [if_pos h1]
    simp only [mand_bad (s := (X.1, X.2.2)) h1]
    rw [if_pos h1]
  · rw [if_neg h1]
    have e1 : X.2.2 = 0 := by simpa using h1
    simp only [mand_fine (s := (X.1, X.2.2)) e1]
    generalize and X.1 (neg c) b = Y
    by_cases h2 : Y.2.2 ≠ 0
    · rw [if_pos h2]
      simp only [mand_bad (s := (Y.1, Y.2.2)) h2]
      rw [if_pos h2]
    · rw [if_neg h2]
      have e2 : Y.2.2 = 0 := by simpa using h2
      simp only [mand_fine (s := (Y.1, Y.2.2)) e2]
      unfold rOr
      by_cases h3 : (and Y.1 (neg X.2.1) (neg Y.2.1)).2.2 ≠ 0
      · simp only [if_pos h3]
      · simp only [if_neg h3]; simp
theorem right_nat {ns : List Nd} {x : Int} (h : right ns x = true) : ∃ r : Nat, x = r ∧ r < 2 * ns.length := by
  unfold right at h
  have := of_decide_eq_true h
  exact ⟨x.toNat, by omega, by omega⟩
theorem rights_nat {ns : List Nd} : ∀ {l : List Int}, (∀ x ∈ l, right ns x = true) → l = (l.map Int.toNat).map (fun (r : Nat) => (r : Int)) ∧ ∀ r ∈ l.map Int.toNat, r < 2 * ns.length
  | [], _ => ⟨rfl, by simp⟩
  | x :: l, h => by
    obtain ⟨r, rfl, hr⟩ := right_nat (h x (by simp))
    obtain ⟨h1, h2⟩ := rights_nat (l := l) (fun y hy => h y (by simp [hy]))
    refine ⟨by simp only [List.map_cons, Int.toNat_natCast]; rw [← h1], fun q hq => ?_⟩
    simp only [List.map_cons, Int.toNat_natCast, List.mem_cons] at hq
    rcases hq with rfl | hq
    · exact hr
    · exact h2 q hq
end Go.Aig
namespace Go.Proofs.Ytnajonchjlplmaa
open Go.RowKit Go.Mem Go.Aig
theorem fnvDo1 : Fnv 72 := fnv_of Try.func72 (by simp [Try.f72]) (by simp [Try.f72])
section
set_option maxRecDepth 100000 in
set_option maxHeartbeats 1000000 in
theorem IFint_ch {w : World} {a : Option Addr} {xs : List Int} (cap fid : Nat) (caps : Array Value) (p : Int → Bool) (h : Sl w a xs) (hf : ∀ W, Ch [] w W → ∀ x ∈ xs, Calls Try.prog fid (#[.int .i64 x] ++ caps) W fun e w' => e = .returned (.bool (p x)) ∧ Ch [] W w')
    (hfn : Fnv fid) :
    Calls Try.prog 65 #[.slice a xs.length cap, .func (.func fid) #[] caps] w fun e w' => e = .returned (.int .i64 (idxOf p xs)) ∧ Ch [] w w' := by
  have hbd := h.bd
  have hcf : ∀ (args : Array Value) (w : World), (callFunc fid args).run Try.prog w = .ok (.enter fid args) w := hfn
  have HF := Lib.hid hf; clear hf
  have H := Lib.hid h; clear h
  go_enter Try.func65, Try.ntmps65
  go_wp2_with fail
  go_loopw [8] (fun i wr => ∃ k : Nat, k ≤ xs.length ∧ i = .int .i64 k ∧ Ch [] w wr ∧ ∀ (j : Nat) (y : Int), j < k → xs[j]? = some y → p y = false) (fun i _ => xs.length - (intOf i).toNat)
  case atStart => exact ⟨0, Nat.zero_le _, rfl, Ch.refl _ _, fun j y hj => by omega⟩
  case round =>
    obtain ⟨k, hk, rfl, hc, hno⟩ := hrel
    have HN := Lib.hid hno; clear hno
    by_cases hlt : k < xs.length
    · obtain ⟨b, o, rfl, hcl⟩ := H.out.at (by omega)
      have hx : xs[k]? = some xs[k] := List.getElem?_eq_getElem hlt
      have c1 := (hc.cell (cell_lt (hcl k _ hx)) (by simp)).trans (hcl k _ hx)
      have hcall := HF.out wr hc xs[k] (List.getElem_mem hlt)
      have HX := Lib.hid hx; clear hx hcl
      generalize xs[k] = x at *
      have HC := Lib.hid hcall; clear hcall
      have HCH := Lib.hid hc; clear hc
      cases hp : p x
      · rw [hp] at HC
        go_wp2_with fail
        refine HC.out.mono ?_
        rintro e w' ⟨rfl, hc2⟩
        have HC2 := Lib.hid hc2; clear hc2
        go_wp2_with fail
        go_roundw
        case rel => 
          refine ⟨k + 1, by omega, by go_num, HCH.out.trans HC2.out (by simp), fun j y hj hy => ?_⟩
          by_cases hjk : j = k
          · subst hjk; rw [HX.out] at hy; cases hy; exact hp
          · exact HN.out j y (by omega) hy
        case measure => simp [intOf]; omega
      · rw [hp] at HC
        go_wp2_with fail
        refine HC.out.mono ?_
        rintro e w' ⟨rfl, hc2⟩
        have HC2 := Lib.hid hc2; clear hc2
        go_wp2_with fail
        go_ret
        exact ⟨ret_int (idxOf_yes HX.out hp HN.out).symm, HCH.out.trans HC2.out (by simp)⟩
    · have HCH := Lib.hid hc; clear hc
      go_wp2_with fail
      go_ret
      exact ⟨ret_int (idxOf_no (fun j y hy => HN.out j y (by have := (List.getElem?_eq_some_iff.1 hy).1; omega) hy)).symm, HCH.out⟩
set_option maxRecDepth 100000 in
set_option maxHeartbeats 1000000 in
theorem CFint_ch {w : World} {a : Option Addr} {xs : List Int} (n cap fid : Nat) (caps : Array Value) (p : Int → Bool) (hn : xs.length = n) (h : Sl w a xs) (hf : ∀ W, Ch [] w W → ∀ x ∈ xs, Calls Try.prog fid (#[.int .i64 x] ++ caps) W fun e w' => e = .returned (.bool (p x)) ∧ Ch [] W w')
    (hfn : Fnv fid) :
    Calls Try.prog 36 #[.slice a n cap, .func (.func fid) #[] caps] w fun e w' => e = .returned (.bool (xs.any p)) ∧ Ch [] w w' := by
  subst hn
  have HI := IFint_ch cap fid caps p h hf hfn
  have hidx := idxOf_any p xs
  clear hf h hfn
  generalize idxOf p xs = q at *
  have HQ := Lib.hid hidx; clear hidx
  have HH := Lib.hid HI; clear HI
  go_enter Try.func36, Try.ntmps36
  go_wp2_with fail
  refine HH.out.mono ?_
  rintro e w' ⟨rfl, hc⟩
  have HC := Lib.hid hc; clear hc
  go_wp2_with fail
  go_ret
  exact ⟨ret_bool HQ.out, HC.out⟩
set_option maxRecDepth 100000 in
set_option maxHeartbeats 1000000 in
theorem do1_is {w : World} {rb cap bx : Nat} {G : Gra} (h : RG w rb cap G) (hb : blk w bx [.int .i64 G.most, .slice (some ⟨rb, 0, none⟩) G.nodes.length cap]) (x : Int) :
    Calls Try.prog 72 (#[.int .i64 x] ++ #[.pointer (some ⟨bx, 0, none⟩)]) w fun e w' => e = .returned (.bool (!right G.nodes x)) ∧ Ch [] w w' := by
  show Calls Try.prog 72 #[.int .i64 x, .pointer (some ⟨bx, 0, none⟩)] w _
  have HI := rRight_is h x
  have y0 := hb.cell (i := 0) rfl
  have y1 := hb.cell (i := 1) rfl
  clear h hb
  generalize right G.nodes x = q at *
  have HH := Lib.hid HI; clear HI
  go_enter Try.func72, Try.ntmps72
  go_wp2_with fail
  refine HH.out.mono ?_
  rintro e w' ⟨rfl, hc⟩
  have HC := Lib.hid hc; clear hc
  go_wp2_with fail
  go_ret
  exact ⟨rfl, HC.out⟩
end
end Go.Proofs.Ytnajonchjlplmaa
