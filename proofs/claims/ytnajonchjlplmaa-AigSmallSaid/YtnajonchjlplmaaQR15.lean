/-
  From the law's argument, a slice of acts, to what the walks say; the walk over AigDoes. Conditions: those of the given row.
-/
import Derived.Test.YtnajonchjlplmaaQD
import Derived.Test.YtnajonchjlplmaaQR14
namespace Go.Proofs.Ytnajonchjlplmaa
open Go.ChangeShapes Go.WideShapes Go.ChangeAt Go.RowKit Go.Mem Go.Aig Go.Deep
section
variable {H : Type} {enc : TypeId × Value → H} {W : World}
theorem wf_i64 {z : Int} (h : (Lit.int .i64 z).wf = true) : -9223372036854775808 ≤ z ∧ z ≤ 9223372036854775807 := by
  simpa [Lit.wf, IntKind.min, IntKind.max, IntKind.signed, IntKind.bits] using h
set_option maxRecDepth 100000 in
theorem ints_open {fuel : Nat} {c : Value} {x : DataW H × List MemPlace} (hf : DataW.trod enc Try.prog W 0 (fun _ => true) true fuel 54 [c] = some x) :
    ∃ (a : Option Addr) (len cap : Nat) (L : List Int), c = .slice a len cap ∧ Sl W a L ∧ L.length = len ∧ (∀ z ∈ L, -9223372036854775808 ≤ z ∧ z ≤ 9223372036854775807) ∧ len ≤ cap ∧ cap ≤ 9223372036854775807 := by
  rcases open_slice Try.underlying54 hf with ⟨hcs, _⟩ | ⟨y, l, cp, m, n, D, Pl, hcs, _, hl, hm, hmm, _, hi⟩
  · simp at hcs
    subst hcs
    exact ⟨none, 0, 0, [], rfl, ⟨by simp, by simp⟩, rfl, by simp, by omega, by omega⟩
  · simp at hcs
    subst hcs
    have hm' : cp ≤ 9223372036854775807 := by unfold maxLen at hm; exact hm
    have hC : Try.prog.cellsOf 3 = 1 := by kernel_rfl
    have hspot : 0 < l → y.spot = none := fun h0 => by
      obtain ⟨cs', hc, _⟩ := hi 0 (by rw [hmm]; simp; omega)
      rw [hC] at hc
      obtain ⟨_, hcl, hat⟩ := World.cells?_some hc
      have e0 := hat 0 (by omega)
      rw [List.getElem?_eq_getElem (by omega)] at e0
      simpa [Addr.add] using World.cell?_spot e0
    have key : ∀ i, i < l → ∃ z : Int, (∃ b o, (some y : Option Addr) = some ⟨b, o, none⟩ ∧ W.cell? ⟨b, o + i, none⟩ = some (.int .i64 z)) ∧ (-9223372036854775808 ≤ z ∧ z ≤ 9223372036854775807) := by
      intro i hlt
      obtain ⟨cs', hc, ht⟩ := hi i (by rw [hmm]; simp; omega)
      rw [hC] at hc
      obtain ⟨_, hcl, hat⟩ := World.cells?_some hc
      match cs', hcl with
      | [c0], _ =>
        obtain ⟨z, hz, _, hw⟩ := DataW.trod_int Try.underlying3 ht
        have hb := wf_i64 hw
        simp at hz
        subst hz
        have e0 := hat 0 (by omega)
        simp at e0
        obtain ⟨b, o, spot⟩ := y
        have hsp : spot = none := hspot (by omega)
        subst hsp
        simp only [Addr.add_lit] at e0
        exact ⟨z, ⟨b, o, rfl, by simpa using e0⟩, hb⟩
    obtain ⟨ll, hll, hp⟩ := list_of _ l key
    refine ⟨some y, l, cp, ll, rfl, ⟨fun i s hs => (hp i s hs).1, by omega⟩, hll, fun s hs => ?_, hl, hm'⟩
    obtain ⟨i, hi2⟩ := List.mem_iff_getElem?.1 hs
    exact (hp i s hi2).2
set_option maxRecDepth 100000 in
theorem act_open {a : Option Addr} {len cap : Nat} {d : DataW H} {p : List MemPlace} (h : DataW.Trod enc Try.prog W 0 (fun _ => true) true 65 (.slice a len cap) d p) : ∃ l, ActS W a len cap l := by
  obtain ⟨fuel, hf⟩ := h
  rcases open_slice Try.underlying65 hf with ⟨hcs, _⟩ | ⟨x, l, c, m, n, D, Pl, hcs, _, hl, hm, hmm, _, hi⟩
  · simp [Value.cells] at hcs
    obtain ⟨rfl, rfl, rfl⟩ := hcs
    exact ⟨[], rfl, by omega, by omega, by simp, by simp, by simp, by simp⟩
  · simp [Value.cells] at hcs
    obtain ⟨rfl, rfl, rfl⟩ := hcs
    have hC : Try.prog.cellsOf 67 = 5 := by kernel_rfl
    have hspot : 0 < len → x.spot = none := fun h0 => by
      obtain ⟨cs', hc, _⟩ := hi 0 (by rw [hmm]; simp; omega)
      rw [hC] at hc
      obtain ⟨_, hcl, hat⟩ := World.cells?_some hc
      have e0 := hat 0 (by omega)
      rw [List.getElem?_eq_getElem (by omega)] at e0
      simpa [Addr.add] using World.cell?_spot e0
    have key : ∀ i, i < len → ∃ s : ActD, (∃ b o, (some x : Option Addr) = some ⟨b, o, none⟩ ∧ W.cell? ⟨b, o + i * 5, none⟩ = some (.int .u8 s.k) ∧ W.cell? ⟨b, o + i * 5 + 1, none⟩ = some (.int .i64 s.a) ∧ W.cell? ⟨b, o + i * 5 + 2, none⟩ = some (.int .i64 s.b) ∧ W.cell? ⟨b, o + i * 5 + 3, none⟩ = some (.int .i64 s.c) ∧ W.cell? ⟨b, o + i * 5 + 4, none⟩ = some (.slice s.la s.n s.lc)) ∧
        (s.k ≤ 255 ∧ (-9223372036854775808 ≤ s.a ∧ s.a ≤ 9223372036854775807) ∧ (-9223372036854775808 ≤ s.b ∧ s.b ≤ 9223372036854775807) ∧ (-9223372036854775808 ≤ s.c ∧ s.c ≤ 9223372036854775807) ∧ (∀ z ∈ s.L, -9223372036854775808 ≤ z ∧ z ≤ 9223372036854775807) ∧ s.L.length = s.n ∧ s.n ≤ 9223372036854775807) ∧ Sl W s.la s.L := by
      intro i hlt
      obtain ⟨cs', hc, ht⟩ := hi i (by rw [hmm]; simp; omega)
      rw [hC] at hc
      obtain ⟨ys, n', _, _, hlen, _, hfd⟩ := DataW.trod_struct Try.underlying67 ht
      obtain ⟨_, hcl, hat⟩ := World.cells?_some hc
      match cs', hcl with
      | [c0, c1, c2, c3, c4], _ =>
        have f0 := hfd 0 _ rfl
        have f1 := hfd 1 _ rfl
        have f2 := hfd 2 _ rfl
        have f3 := hfd 3 _ rfl
        have f4 := hfd 4 _ rfl
        have hu : Try.prog.cellsOf 5 = 1 := by kernel_rfl
        have hv : Try.prog.cellsOf 3 = 1 := by kernel_rfl
        have hs : Try.prog.cellsOf 54 = 1 := by kernel_rfl
        simp only [List.getElem_toArray, List.getElem_cons_zero, List.getElem_cons_succ, hu, hv, hs, List.drop_zero, List.drop_succ_cons, List.take_succ_cons, List.take_zero] at f0 f1 f2 f3 f4
        have hys : ys.length = 5 := by have := ‹ys.length = _›; simpa using this
        rw [List.getElem?_eq_getElem (by omega)] at f0 f1 f2 f3 f4
        obtain ⟨z0, hz0, _, hw0⟩ := DataW.trod_int Try.underlying5 f0
        obtain ⟨k0, rfl, b0⟩ := wf_u8 hw0
        obtain ⟨z1, hz1, _, hw1⟩ := DataW.trod_int Try.underlying3 f1
        obtain ⟨z2, hz2, _, hw2⟩ := DataW.trod_int Try.underlying3 f2
        obtain ⟨z3, hz3, _, hw3⟩ := DataW.trod_int Try.underlying3 f3
        have b1 := wf_i64 hw1
        have b2 := wf_i64 hw2
        have b3 := wf_i64 hw3
        obtain ⟨la, ln, lc, L, rfl, hsl, hLl, hLb, hlc, hcm⟩ := ints_open f4
        simp at hz0 hz1 hz2 hz3
        subst hz0; subst hz1; subst hz2; subst hz3
        have e0 := hat 0 (by omega)
        have e1 := hat 1 (by omega)
        have e2 := hat 2 (by omega)
        have e3 := hat 3 (by omega)
        have e4 := hat 4 (by omega)
        simp at e0 e1 e2 e3 e4
        obtain ⟨b, o, spot⟩ := x
        have hsp : spot = none := hspot (by omega)
        subst hsp
        simp only [Addr.add_lit] at e0 e1 e2 e3 e4
        exact ⟨⟨k0, z1, z2, z3, la, ln, lc, L⟩, ⟨b, o, rfl, by simpa using e0, by simpa using e1, by simpa using e2, by simpa using e3, by simpa using e4⟩, ⟨b0, b1, b2, b3, hLb, hLl, by show ln ≤ _; omega⟩, hsl⟩
    obtain ⟨ll, hll, hp⟩ := list_of _ len key
    have idx : ∀ s ∈ ll, ∃ i : Nat, ll[i]? = some s := fun s hs => List.mem_iff_getElem?.1 hs
    refine ⟨ll, hll, hl, by unfold maxLen at hm; exact hm, fun i s hs => (hp i s hs).1, fun s hs => by obtain ⟨i, hi2⟩ := idx s hs; exact (hp i s hi2).2.1, fun s hs => by obtain ⟨i, hi2⟩ := idx s hs; exact (hp i s hi2).2.2, fun s hs hn q hq => ?_⟩
    obtain ⟨i, hi2⟩ := idx s hs
    have h1 := (hp i s hi2).2.2
    have h2 := (hp i s hi2).2.1.2.2.2.2.2.1
    obtain ⟨b, o, he, hc⟩ := h1.cells 0 s.L[0] (List.getElem?_eq_getElem (by omega))
    rw [he] at hq
    cases hq
    exact cell_lt hc
end
section
variable {w : World}
set_option maxRecDepth 100000 in
set_option maxHeartbeats 4000000 in
theorem AigDoes_walk (most : Int) (hw : (Lit.int .i64 most).wf = true) {a : Option Addr} {n cap : Nat} {l : List ActD} (hS : ActS w a n cap l) :
    Calls Try.prog 7 #[.int .i64 most, .slice a n cap] w fun e w' => e = .returned (.bool true) ∧ Ch [] w w' := by
  obtain ⟨hm0, hm1⟩ := wf_i64 hw
  clear hw
  have hle := hS.le
  have hmx := hS.max
  have HS := Lib.hid hS; clear hS
  go_enter Try.func7, Try.ntmps7
  go_wp2_with fail
  go_loopw [9] (fun i wr => ∃ k : Nat, k ≤ n ∧ i = .int .i64 k ∧ Ch [] w wr ∧ ∀ (j : Nat) (x : ActD), j < k → l[j]? = some x → x.n ≤ 20) (fun i _ => n - (intOf i).toNat)
  case atStart => exact ⟨0, by omega, rfl, Ch.refl _ _, fun j x hj => by omega⟩
  case round =>
    obtain ⟨k, hk, rfl, hc, hno⟩ := hrel
    have HNO := Lib.hid hno; clear hno
    by_cases hlt : k < n
    · obtain ⟨x, hx⟩ : ∃ x, l[k]? = some x := ⟨_, List.getElem?_eq_getElem (by rw [HS.out.len]; exact hlt)⟩
      have hxm := List.mem_of_getElem? hx
      obtain ⟨xb, xo, rfl, d0, d1, d2, d3, d4⟩ := HS.out.cells k x hx
      have d0 := (hc.cell (cell_lt d0) (by simp)).trans d0
      have d1 := (hc.cell (cell_lt d1) (by simp)).trans d1
      have d2 := (hc.cell (cell_lt d2) (by simp)).trans d2
      have d3 := (hc.cell (cell_lt d3) (by simp)).trans d3
      have d4 := (hc.cell (cell_lt d4) (by simp)).trans d4
      have hxn := (HS.out.bd x hxm).2.2.2.2.2.2
      have hcA : Ch [] w (wr.alloc (.cells #[.int .u8 x.k, .int .i64 x.a, .int .i64 x.b, .int .i64 x.c, .slice x.la x.n x.lc] 67)) := hc.alloc _
      have HCA := Lib.hid hcA; clear hcA hc
      have HX := Lib.hid hx; clear hx hxm
      have haw := fun (W : World) => awake_is W
      have HAW := Lib.hid haw; clear haw
      by_cases hbig : 40 < n
      · have q0 : decide (40 < n) = true := decide_eq_true hbig
        have q0' : decide ((40 : Int) < (n : Int)) = true := decide_eq_true (by omega)
        clear hbig
        go_wp2_with fail
        refine (HAW.out _).mono ?_
        rintro e w2 ⟨rfl, hc2⟩
        have HC2 := Lib.hid hc2; clear hc2
        go_wp2_with fail
        go_ret
        exact ⟨rfl, HCA.out.trans HC2.out (by simp)⟩
      · have q0 : decide (40 < n) = false := decide_eq_false hbig
        have q0' : decide ((40 : Int) < (n : Int)) = false := decide_eq_false (by omega)
        clear hbig
        by_cases hb2 : 20 < x.n
        · have q1 : decide (20 < x.n) = true := decide_eq_true hb2
          have q1' : decide ((20 : Int) < (x.n : Int)) = true := decide_eq_true (by omega)
          clear hb2
          go_wp2_with fail
          refine (HAW.out _).mono ?_
          rintro e w2 ⟨rfl, hc2⟩
          have HC2 := Lib.hid hc2; clear hc2
          go_wp2_with fail
          go_ret
          exact ⟨rfl, HCA.out.trans HC2.out (by simp)⟩
        · have q1 : decide (20 < x.n) = false := decide_eq_false hb2
          have q1' : decide ((20 : Int) < (x.n : Int)) = false := decide_eq_false (by omega)
          have hb20 : x.n ≤ 20 := by omega
          clear hb2
          go_wp2_with fail
          go_roundw
          case rel =>
            refine ⟨k + 1, by omega, by go_num, HCA.out, fun j y hj hy => ?_⟩
            by_cases e : j = k
            · subst e; rw [HX.out] at hy; cases hy; exact hb20
            · exact HNO.out j y (by omega) hy
          case measure => simp [intOf]; omega
    · have hall : ∀ x ∈ l, x.n ≤ 1000000 := fun x hx => by
        obtain ⟨j, hj⟩ := List.mem_iff_getElem?.1 hx
        have := HNO.out j x (by have := (List.getElem?_eq_some_iff.1 hj).1; have := HS.out.len; omega) hj
        omega
      have hS2 : ActS wr a n cap l := ⟨HS.out.len, HS.out.le, HS.out.max, fun i x hx => by
        obtain ⟨b, o, rfl, d0, d1, d2, d3, d4⟩ := HS.out.cells i x hx
        exact ⟨b, o, rfl, (hc.cell (cell_lt d0) (by simp)).trans d0, (hc.cell (cell_lt d1) (by simp)).trans d1, (hc.cell (cell_lt d2) (by simp)).trans d2, (hc.cell (cell_lt d3) (by simp)).trans d3, (hc.cell (cell_lt d4) (by simp)).trans d4⟩, HS.out.bd, fun x hx => (HS.out.sl x hx).ch hc (by simp), fun x hx hn p hp => by have := HS.out.far x hx hn p hp; have := hc.size; omega⟩
      have hD := does_is hS2 hall most hm0 hm1
      have HD := Lib.hid hD; clear hD hall hS2
      have HC := Lib.hid hc; clear hc
      have haw := fun (W : World) => awake_is W
      have HAW := Lib.hid haw; clear haw
      go_wp2_with fail
      refine HD.out.mono ?_
      rintro e w2 ⟨rfl, hc2⟩
      have HC2 := Lib.hid hc2; clear hc2
      go_wp2_with fail
      refine (HAW.out _).mono ?_
      rintro e w3 ⟨rfl, hc3⟩
      have HC3 := Lib.hid hc3; clear hc3
      go_wp2_with fail
      go_ret
      exact ⟨rfl, (HC.out.trans HC2.out (by simp)).trans HC3.out (by simp)⟩
end
end Go.Proofs.Ytnajonchjlplmaa
