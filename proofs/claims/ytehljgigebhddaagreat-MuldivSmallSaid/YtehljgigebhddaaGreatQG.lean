/-
  Walk over the chapter's examples (awake of muldiv): true. Conditions: none.
  Walk over MuldivSmall: true. Conditions: none.
-/
import Derived.Test.YtehljgigebhddaaGreatQF
import Derived.Deep.DeepCutAuto
import Derived.Deep.CutBlock
namespace Go.Proofs.YtehljgigebhddaaGreat
open Go.RowKit Go.Mem Go.Aig
def ma0 : Gra := ⟨4000, [⟨1, 0, 0, 0⟩, ⟨2, 0, 0, 0⟩, ⟨2, 0, 0, 0⟩, ⟨2, 0, 0, 0⟩, ⟨2, 0, 0, 0⟩]⟩
def ma1 : Gra := (mulG ma0 (natInts [2, 4]) (natInts [6, 8])).1
theorem zeros_new (w : World) (n : Nat) (hn : n ≤ 1000000) : WNew w (.slice (some ⟨w.heap.size, 0, none⟩) n n) (intCells (List.replicate n 0)) (w.alloc (.cells (refsCells (List.replicate n 0)).toArray 52)) := by
  have e : intCells (List.replicate n 0) = refsCells (List.replicate n 0) := by simp [intCells, refsCells]
  have h := row_fresh (w := w) (l := List.replicate n 0) (n := n) rfl (by simp) hn
  rw [e] at h
  rw [e]
  exact ⟨by simpa [refsCells] using h, by simp [Value.ownBlock], (Ch.refl _ _).alloc _⟩
theorem Hold.zeros {w0 : Base} {w : World} {g : Nat} {G : Gra} {F : List Nat} {L : List (Value × List Int)} (h : Hold w0 w g G F L) (n : Nat) (hn : n ≤ 1000000) : Hold w0 (w.alloc (.cells (refsCells (List.replicate n 0)).toArray 52)) g G F ((.slice (some ⟨w.heap.size, 0, none⟩) n n, List.replicate n 0) :: L) := by
  obtain ⟨a, c, e, ho⟩ := h.new (zeros_new w n hn) (fun r hr => by rw [(List.mem_replicate.1 hr).2]; omega) (by simpa using hn)
  rw [← e] at ho
  exact ho
/-- the words of the examples, read for the assignments -/
theorem reads24 : ∀ k, k < 4 → bitsR ma1 (givenL 2 2 k 0) (natInts [1, 1]) = ([true, true], 0) ∧ (bitsR ma1 (givenL 2 2 k 0) (natInts [2, 4])).2 = 0 ∧ (bitsR ma1 (givenL 2 2 k 0) (natInts [2, 4])).1.length = 2 ∧ bitsVal (bitsR ma1 (givenL 2 2 k 0) (natInts [2, 4])).1 = k := by
  intro k hk
  have : k = 0 ∨ k = 1 ∨ k = 2 ∨ k = 3 := by omega
  rcases this with rfl | rfl | rfl | rfl <;> decide +kernel
section
set_option maxRecDepth 100000 in
set_option maxHeartbeats 8000000 in
theorem awake24_is (w : World) : Calls Tryz.prog 20 #[] w fun e w' => e = .returned (.bool true) ∧ Ch [] w w' := by
  have hP := Pair_is w 1 (by omega)
  rw [show (1 : Nat) % 5 + 1 = 2 from rfl, show gIn 4000 (2 * 2) = ma0 from rfl, show rIn 2 2 = [6, 8] from rfl, show rIn 0 2 = [2, 4] from rfl] at hP
  have HP := Lib.hid hP; clear hP
  go_enter Tryz.func20, Tryz.ntmps20
  go_wp2_with fail
  refine HP.out.mono ?_
  rintro e w1 ⟨g, F1, a1, c1, a2, c2, rfl, ho⟩
  have HO := Lib.hid ho; clear ho HP
  go_wp2_with fail
  refine (mdMul_h HO.out (xa := a1) (xc := c1) (n := 2) (xl := natInts [2, 4]) (by simp) rfl (ya := a2) (yc := c2) (m := 2) (yl := natInts [6, 8]) (by simp) rfl (G' := ma1) (l := [10, 21]) (e := 0) (k := 2) (by kernel_rfl) rfl (by decide) (by decide)).mono ?_
  rintro e w2 ⟨a3, c3, F3, rfl, ho⟩
  clear HO; have HO := Lib.hid ho; clear ho
  have hx := HO.out.sl (a := a1) (c := c1) (n := 2) (l := natInts [2, 4]) (by simp) rfl
  have hy := HO.out.sl (a := a2) (c := c2) (n := 2) (l := natInts [6, 8]) (by simp) rfl
  obtain ⟨xb, xo, rfl, cx⟩ := hx.cells 0 2 rfl
  obtain ⟨yb, yo, rfl, cy⟩ := hy.cells 0 6 rfl
  rw [Nat.add_zero] at cx cy
  clear hx hy
  go_wp2_with fail
  refine Ord.St.door (fun _ => True) [.fl, .fl, .fl, .rd, .fl, .fl, .rd, .ef, .fl, .fl, .fl, .fl, .fl] [0, 0, 2, 6, 0, 16, 48, 127, 255, 511, 511, 1023, 4095] [0, 1, 2, 3, 4, 5, 6, 7, 8, 9, 10, 11, 12] mixed (by kernel_rfl) rfl ?_
  obtain ⟨Wc, hWc⟩ : ∃ Wc, Wc = w2.drew := ⟨_, rfl⟩
  rw [← hWc]
  have hcur : Ch [] w2 Wc := by rw [hWc]; exact (Ch.refl _ _).drew
  clear hWc
  have ho := HO.out.same hcur
  replace cx := (hcur.cell (cell_lt cx) (by simp)).trans cx
  replace cy := (hcur.cell (cell_lt cy) (by simp)).trans cy
  clear HO; have HO := Lib.hid ho; clear ho hcur
  refine Ord.St.fl2 (T' := ?_) 0 [1, 2, 3, 4, 5, 6, 7, 8, 9, 10, 11, 12] _ _ rfl (by kernel_rfl) rfl rfl rfl rfl (fun K w' hk => ?_) ?_
  rotate_left
  · go_step; exact hk
  refine Ord.St.fl2 (T' := ?_) 1 [2, 3, 4, 5, 6, 7, 8, 9, 10, 11, 12] _ _ rfl (by kernel_rfl) rfl rfl rfl rfl (fun K w' hk => ?_) ?_
  rotate_left
  · go_step; exact hk
  refine Ord.St.fl2 (T' := ?_) 2 [3, 4, 5, 6, 7, 8, 9, 10, 11, 12] _ _ rfl (by kernel_rfl) rfl rfl rfl rfl (fun K w' hk => ?_) ?_
  rotate_left
  · go_step; exact hk
  refine Ord.St.rd2 (T' := ?_) 3 [4, 5, 6, 7, 8, 9, 10, 11, 12] _ _ rfl (by kernel_rfl) rfl rfl rfl rfl (fun K hk => ?_) ?_
  rotate_left
  · go_step; exact hk
  refine Ord.St.fl2 (T' := ?_) 4 [5, 6, 7, 8, 9, 10, 11, 12] _ _ rfl (by kernel_rfl) rfl rfl rfl rfl (fun K w' hk => ?_) ?_
  rotate_left
  · go_step; exact hk
  refine Ord.St.fl2 (T' := ?_) 5 [6, 7, 8, 9, 10, 11, 12] _ _ rfl (by kernel_rfl) rfl rfl rfl rfl (fun K w' hk => ?_) ?_
  rotate_left
  · go_step; exact hk
  refine Ord.St.rd2 (T' := ?_) 6 [7, 8, 9, 10, 11, 12] _ _ rfl (by kernel_rfl) rfl rfl rfl rfl (fun K hk => ?_) ?_
  rotate_left
  · go_step; exact hk
  refine Ord.St.ef 7 [8, 9, 10, 11, 12] _ rfl (by kernel_rfl) (fun K hK => ?_)
  go_wp2_with fail
  refine (And_h HO.out 2 6 (by decide) (by decide) (G' := ma1) (r := 10) (e := 0) (by kernel_rfl)).mono ?_
  rintro e w9 ⟨F4, rfl, ho⟩
  clear HO cx cy; have HO := Lib.hid ho; clear ho
  go_wp2_with fail
  refine ⟨rfl, hK _ _ ?_⟩; clear hK K
  refine Ord.St.fl2 (T' := ?_) 8 [9, 10, 11, 12] _ _ rfl (by kernel_rfl) rfl rfl rfl rfl (fun K w' hk => ?_) ?_
  rotate_left
  · go_step; exact hk
  refine Ord.St.fl2 (T' := ?_) 9 [10, 11, 12] _ _ rfl (by kernel_rfl) rfl rfl rfl rfl (fun K w' hk => ?_) ?_
  rotate_left
  · go_step; exact hk
  refine Ord.St.fl2 (T' := ?_) 10 [11, 12] _ _ rfl (by kernel_rfl) rfl rfl rfl rfl (fun K w' hk => ?_) ?_
  rotate_left
  · go_step; exact hk
  refine Ord.St.fl2 (T' := ?_) 11 [12] _ _ rfl (by kernel_rfl) rfl rfl rfl rfl (fun K w' hk => ?_) ?_
  rotate_left
  · go_step; exact hk
  refine Ord.St.fl2 (T' := ?_) 12 [] _ _ rfl (by kernel_rfl) rfl rfl rfl rfl (fun K w' hk => ?_) ?_
  rotate_left
  · go_step; exact hk
  refine Ord.St.nil ?_
  go_wp2_with fail
  refine (Len_h HO.out (n := 11) (by kernel_rfl)).mono ?_
  rintro e w10 ⟨rfl, ho⟩
  clear HO; have HO := Lib.hid ho; clear ho
  go_wp2_with fail
  refine (mdTimes_h HO.out (xa := some ⟨xb, xo, none⟩) (xc := c1) (n := 2) (xl := natInts [2, 4]) (by simp) rfl 1 (by decide) (G' := ma1) (l := [2, 4]) (e := 0) (k := 2) (by kernel_rfl) rfl (by decide) (by decide)).mono ?_
  rintro e w11 ⟨a4, c4, F5, rfl, ho⟩
  clear HO; have HO := Lib.hid ho; clear ho
  go_wp2_with fail
  refine (mdTimes_h HO.out (xa := some ⟨xb, xo, none⟩) (xc := c1) (n := 2) (xl := natInts [2, 4]) (by simp) rfl 2 (by decide) (G' := ma1) (l := [0, 2]) (e := 0) (k := 2) (by kernel_rfl) rfl (by decide) (by decide)).mono ?_
  rintro e w12 ⟨a5, c5, F6, rfl, ho⟩
  clear HO; have HO := Lib.hid ho; clear ho
  have h3 := HO.out.sl (a := a3) (c := c3) (n := 2) (l := natInts [10, 21]) (by simp) rfl
  obtain ⟨pb, po, rfl, cp⟩ := h3.cells 0 10 rfl
  rw [Nat.add_zero] at cp
  clear h3
  go_wp2_with fail
  refine (Eqref_h HO.out (xa := a4) (xc := c4) (n := 2) (xl := natInts [2, 4]) (by simp) rfl (ya := some ⟨xb, xo, none⟩) (yc := c1) (m := 2) (yl := natInts [2, 4]) (by simp) rfl (q := true) (by decide)).mono ?_
  rintro e w13 ⟨rfl, ho⟩
  clear HO; have HO := Lib.hid ho; clear ho
  go_wp2_with fail
  have ho := HO.out.same ((Ch.refl [] w13).alloc (.cells #[.int .i64 0, .int .i64 2] 52))
  clear HO; have HO := Lib.hid ho; clear ho
  refine (Eqref_c HO.out (xa := a5) (xc := c5) (n := 2) (xl := natInts [0, 2]) (by simp) rfl (b := w13.heap.size) (m := 2) (ys := [0, 2]) (blk.new' _ _ rfl) rfl (by decide) (q := true) (by decide)).mono ?_
  rintro e w14 ⟨rfl, ho⟩
  clear HO; have HO := Lib.hid ho; clear ho
  go_wp2_with fail
  refine (Len_h HO.out (n := 11) (by kernel_rfl)).mono ?_
  rintro e w15 ⟨rfl, ho⟩
  clear HO; have HO := Lib.hid ho; clear ho
  go_wp2_with fail
  refine (sConst_h HO.out 0 (by decide) 2 rfl).mono ?_
  rintro e w16 ⟨a6, c6, rfl, ho⟩
  clear HO; have HO := Lib.hid ho; clear ho
  rw [show constL 0 2 = [0, 0] from rfl] at HO
  go_wp2_with fail
  refine (mdBoth_h HO.out (xa := some ⟨xb, xo, none⟩) (xc := c1) (n := 2) (xl := natInts [2, 4]) (by simp) rfl (ya := a6) (yc := c6) (m := 2) (yl := natInts [0, 0]) (by simp) rfl (G' := ma1) (l1 := [1, 1]) (l2 := [2, 4]) (e := 0) (k1 := 2) (k2 := 2) (by kernel_rfl) rfl rfl (by decide) (by decide) (by decide) (by decide)).mono ?_
  rintro e w17 ⟨a7, c7, a8, c8, F7, rfl, ho⟩
  clear HO; have HO := Lib.hid ho; clear ho
  go_wp2_with fail
  go_loopw [127] (fun i wr => ∃ k : Nat, k ≤ 4 ∧ i = .int .i64 k ∧ Ch [] w17 wr) (fun i _ => 4 - (intOf i).toNat)
  case atStart => exact ⟨0, by omega, rfl, Ch.refl _ _⟩
  case round =>
    obtain ⟨k, hk, rfl, hc⟩ := hrel
    by_cases hk4 : k < 4
    · obtain ⟨r1, r2, r3, r4⟩ := reads24 k hk4
      have r2' : bitsR ma1 (givenL 2 2 k 0) (natInts [2, 4]) = ((bitsR ma1 (givenL 2 2 k 0) (natInts [2, 4])).1, 0) := Prod.ext rfl r2
      have hg1 := Given_is (w := wr) 2 k 0 (by omega) (by omega) (by omega)
      have HG1 := Lib.hid hg1; clear hg1
      have HC := Lib.hid hc; clear hc
      go_wp2_with fail
      refine HG1.out.mono ?_
      rintro e v1 ⟨gv, rfl, hrow, _, hc1⟩
      obtain ⟨ga, gc, rfl⟩ := row.shape hrow
      have hgl := givenL_len 2 2 k 0
      have hsb : Sb v1 ga (givenL 2 2 k 0) := row.sv hrow rfl (by omega)
      have hcc := HC.out.trans hc1 (by simp)
      have ho1 := HO.out.same hcc
      have hR := ReadsW_is ho1.own.gin (a := a7) (l := natInts [1, 1]) (m := 2) (c := c7) rfl (ho1.sl (a := a7) (c := c7) (n := 2) (l := natInts [1, 1]) (by simp) rfl) (ho1.at (a := a7) (n := 2) (c := c7) (l := natInts [1, 1]) (by simp) rfl).ok.bd (xa := ga) (ins := givenL 2 2 k 0) (k := 2 + 2) (xc := gc) hgl hsb (by omega) r1 rfl (by omega) (by omega)
      have HCC := Lib.hid hcc; clear hcc hc1 ho1 hsb hrow
      have HR := Lib.hid hR; clear hR
      go_wp2_with fail
      refine HR.out.mono ?_
      rintro e v2 ⟨rfl, hc2⟩
      have HC2 := Lib.hid (HCC.out.trans hc2 (by simp)); clear hc2
      have hg2 := Given_is (w := v2) 2 k 0 (by omega) (by omega) (by omega)
      have HG2 := Lib.hid hg2; clear hg2
      go_wp2_with fail
      refine HG2.out.mono ?_
      rintro e v3 ⟨gv, rfl, hrow, _, hc3⟩
      obtain ⟨ga2, gc2, rfl⟩ := row.shape hrow
      have hsb : Sb v3 ga2 (givenL 2 2 k 0) := row.sv hrow rfl (by omega)
      have hcc := HC2.out.trans hc3 (by simp)
      have ho1 := HO.out.same hcc
      have hR := ReadsW_is ho1.own.gin (a := a8) (l := natInts [2, 4]) (m := 2) (c := c8) rfl (ho1.sl (a := a8) (c := c8) (n := 2) (l := natInts [2, 4]) (by simp) rfl) (ho1.at (a := a8) (n := 2) (c := c8) (l := natInts [2, 4]) (by simp) rfl).ok.bd (xa := ga2) (ins := givenL 2 2 k 0) (k := 2 + 2) (xc := gc2) hgl hsb (by omega) r2' r3 (by omega) (by omega)
      rw [r4] at hR
      have HC3 := Lib.hid hcc; clear hcc hc3 ho1 hsb hrow
      have HR2 := Lib.hid hR; clear hR
      go_wp2_with fail
      refine HR2.out.mono ?_
      rintro e v4 ⟨rfl, hc4⟩
      have HC4 := Lib.hid (HC3.out.trans hc4 (by simp)); clear hc4
      go_wp2_with fail
      go_roundw
      case rel => exact ⟨k + 1, by omega, by go_num, HC4.out⟩
      case measure => simp [intOf]; omega
    · have ho := HO.out.same hc
      clear HO; have HO := Lib.hid ho; clear ho hc
      go_wp2_with fail
      refine (sConst_h HO.out 7 (by decide) 4 rfl).mono ?_
      rintro e w41 ⟨a9, c9, rfl, ho⟩
      clear HO; have HO := Lib.hid ho; clear ho
      rw [show constL 7 4 = [1, 1, 1, 0] from rfl] at HO
      go_wp2_with fail
      refine (sConst_h HO.out 2 (by decide) 4 rfl).mono ?_
      rintro e w42 ⟨a10, c10, rfl, ho⟩
      clear HO; have HO := Lib.hid ho; clear ho
      rw [show constL 2 4 = [0, 1, 0, 0] from rfl] at HO
      go_wp2_with fail
      refine (mdBoth_h HO.out (xa := a9) (xc := c9) (n := 4) (xl := natInts [1, 1, 1, 0]) (by simp) rfl (ya := a10) (yc := c10) (m := 4) (yl := natInts [0, 1, 0, 0]) (by simp) rfl (G' := ma1) (l1 := [1, 1, 0, 0]) (l2 := [1, 0, 0, 0]) (e := 0) (k1 := 4) (k2 := 4) (by kernel_rfl) rfl rfl (by decide) (by decide) (by decide) (by decide)).mono ?_
      rintro e w43 ⟨a11, c11, a12, c12, F8, rfl, ho⟩
      clear HO; have HO := Lib.hid ho; clear ho
      have hmk : ∀ W : World, (Instr.makeSlice 45 (.int .i64 17) (.int .i64 17)).run Tryz.prog W = .ok (.slice (some ⟨W.heap.size, 0, none⟩) 17 17) (W.alloc (.cells (refsCells (List.replicate 17 0)).toArray 52)) := fun W => run_make_refs W 17 (by omega)
      go_wp2_with fail
      refine Ord.St.door (fun _ => True) [.fl, .ef, .ef, .ef, .fl, .fl, .fl, .fl] [0, 0, 0, 7, 15, 31, 31, 127] [0, 1, 2, 3, 4, 5, 6, 7] mixed (by kernel_rfl) rfl ?_
      obtain ⟨Wc, hWc⟩ : ∃ Wc, Wc = w43.drew := ⟨_, rfl⟩
      rw [← hWc]
      have hcur : Ch [] w43 Wc := by rw [hWc]; exact (Ch.refl _ _).drew
      clear hWc
      have ho := HO.out.same hcur
      clear HO; have HO := Lib.hid ho; clear ho hcur
      refine Ord.St.fl2 (T' := ?_) 0 [1, 2, 3, 4, 5, 6, 7] _ _ rfl (by kernel_rfl) rfl rfl rfl rfl (fun K w' hk => ?_) ?_
      rotate_left
      · go_step; exact hk
      refine Ord.St.two 1 2 [2, 3, 4, 5, 6, 7] [1, 3, 4, 5, 6, 7] _ _ (by kernel_rfl) rfl rfl (by kernel_rfl) (by kernel_rfl) (fun K hK => ?_) (fun K hK => ?_)
      · go_wp2_with fail
        refine ⟨rfl, hK _ _ ?_ ?_⟩
        · trivial
        clear hK K
        refine Ord.St.ef 2 [3, 4, 5, 6, 7] _ rfl (by kernel_rfl) (fun K hK => ?_)
        go_wp2_with fail
        refine ⟨rfl, hK _ _ ?_⟩; clear hK K
        refine Ord.St.ef 3 [4, 5, 6, 7] _ rfl (by kernel_rfl) (fun K hK => ?_)
        have ho := (HO.out.zeros 17 (by omega)).zeros 17 (by omega)
        simp only [World.size_alloc] at ho
        clear HO; have HO := Lib.hid ho; clear ho
        go_wp2_with fail
        refine (mdMul_h HO.out (xl := List.replicate 17 0) (yl := List.replicate 17 0) (by simp) (by simp) (by simp) (by simp) (G' := ma1) (l := []) (e := 240) (k := 0) (by kernel_rfl) rfl (by simp) (by omega)).mono ?_
        rintro e w60 ⟨a13, c13, F9, rfl, ho⟩
        clear HO; have HO := Lib.hid ho; clear ho
        go_wp2_with fail
        refine ⟨rfl, hK _ _ ?_⟩; clear hK K
        refine Ord.St.fl2 (T' := ?_) 4 [5, 6, 7] _ _ rfl (by kernel_rfl) rfl rfl rfl rfl (fun K w' hk => ?_) ?_
        rotate_left
        · go_step; exact hk
        refine Ord.St.fl2 (T' := ?_) 5 [6, 7] _ _ rfl (by kernel_rfl) rfl rfl rfl rfl (fun K w' hk => ?_) ?_
        rotate_left
        · go_step; exact hk
        refine Ord.St.fl2 (T' := ?_) 6 [7] _ _ rfl (by kernel_rfl) rfl rfl rfl rfl (fun K w' hk => ?_) ?_
        rotate_left
        · go_step; exact hk
        refine Ord.St.fl2 (T' := ?_) 7 [] _ _ rfl (by kernel_rfl) rfl rfl rfl rfl (fun K w' hk => ?_) ?_
        rotate_left
        · go_step; exact hk
        refine Ord.St.nil ?_
        go_wp2_with fail
        have ho := HO.out.same ((Ch.refl [] w60).alloc (.cells #[.int .i64 1, .int .i64 1, .int .i64 0, .int .i64 0] 52))
        clear HO; have HO := Lib.hid ho; clear ho
        refine (Eqref_c HO.out (xa := a11) (xc := c11) (n := 4) (xl := natInts [1, 1, 0, 0]) (by simp) rfl (b := w60.heap.size) (m := 4) (ys := [1, 1, 0, 0]) (blk.new' _ _ rfl) rfl (by decide) (q := true) (by decide)).mono ?_
        rintro e w61 ⟨rfl, ho⟩
        clear HO; have HO := Lib.hid ho; clear ho
        go_wp2_with fail
        have ho := HO.out.same ((Ch.refl [] w61).alloc (.cells #[.int .i64 1, .int .i64 0, .int .i64 0, .int .i64 0] 52))
        clear HO; have HO := Lib.hid ho; clear ho
        refine (Eqref_c HO.out (xa := a12) (xc := c12) (n := 4) (xl := natInts [1, 0, 0, 0]) (by simp) rfl (b := w61.heap.size) (m := 4) (ys := [1, 0, 0, 0]) (blk.new' _ _ rfl) rfl (by decide) (q := true) (by decide)).mono ?_
        rintro e w62 ⟨rfl, ho⟩
        clear HO; have HO := Lib.hid ho; clear ho
        go_wp2_with fail
        go_ret
        exact ⟨rfl, HO.out.ch⟩
      · go_wp2_with fail
        refine ⟨rfl, hK _ _ ?_ ?_⟩
        · trivial
        clear hK K
        refine Ord.St.ef 1 [3, 4, 5, 6, 7] _ rfl (by kernel_rfl) (fun K hK => ?_)
        go_wp2_with fail
        refine ⟨rfl, hK _ _ ?_⟩; clear hK K
        refine Ord.St.ef 3 [4, 5, 6, 7] _ rfl (by kernel_rfl) (fun K hK => ?_)
        have ho := (HO.out.zeros 17 (by omega)).zeros 17 (by omega)
        simp only [World.size_alloc] at ho
        clear HO; have HO := Lib.hid ho; clear ho
        go_wp2_with fail
        refine (mdMul_h HO.out (xl := List.replicate 17 0) (yl := List.replicate 17 0) (by simp) (by simp) (by simp) (by simp) (G' := ma1) (l := []) (e := 240) (k := 0) (by kernel_rfl) rfl (by simp) (by omega)).mono ?_
        rintro e w60 ⟨a13, c13, F9, rfl, ho⟩
        clear HO; have HO := Lib.hid ho; clear ho
        go_wp2_with fail
        refine ⟨rfl, hK _ _ ?_⟩; clear hK K
        refine Ord.St.fl2 (T' := ?_) 4 [5, 6, 7] _ _ rfl (by kernel_rfl) rfl rfl rfl rfl (fun K w' hk => ?_) ?_
        rotate_left
        · go_step; exact hk
        refine Ord.St.fl2 (T' := ?_) 5 [6, 7] _ _ rfl (by kernel_rfl) rfl rfl rfl rfl (fun K w' hk => ?_) ?_
        rotate_left
        · go_step; exact hk
        refine Ord.St.fl2 (T' := ?_) 6 [7] _ _ rfl (by kernel_rfl) rfl rfl rfl rfl (fun K w' hk => ?_) ?_
        rotate_left
        · go_step; exact hk
        refine Ord.St.fl2 (T' := ?_) 7 [] _ _ rfl (by kernel_rfl) rfl rfl rfl rfl (fun K w' hk => ?_) ?_
        rotate_left
        · go_step; exact hk
        refine Ord.St.nil ?_
        go_wp2_with fail
        have ho := HO.out.same ((Ch.refl [] w60).alloc (.cells #[.int .i64 1, .int .i64 1, .int .i64 0, .int .i64 0] 52))
        clear HO; have HO := Lib.hid ho; clear ho
        refine (Eqref_c HO.out (xa := a11) (xc := c11) (n := 4) (xl := natInts [1, 1, 0, 0]) (by simp) rfl (b := w60.heap.size) (m := 4) (ys := [1, 1, 0, 0]) (blk.new' _ _ rfl) rfl (by decide) (q := true) (by decide)).mono ?_
        rintro e w61 ⟨rfl, ho⟩
        clear HO; have HO := Lib.hid ho; clear ho
        go_wp2_with fail
        have ho := HO.out.same ((Ch.refl [] w61).alloc (.cells #[.int .i64 1, .int .i64 0, .int .i64 0, .int .i64 0] 52))
        clear HO; have HO := Lib.hid ho; clear ho
        refine (Eqref_c HO.out (xa := a12) (xc := c12) (n := 4) (xl := natInts [1, 0, 0, 0]) (by simp) rfl (b := w61.heap.size) (m := 4) (ys := [1, 0, 0, 0]) (blk.new' _ _ rfl) rfl (by decide) (q := true) (by decide)).mono ?_
        rintro e w62 ⟨rfl, ho⟩
        clear HO; have HO := Lib.hid ho; clear ho
        go_wp2_with fail
        go_ret
        exact ⟨rfl, HO.out.ch⟩
end
end Go.Proofs.YtehljgigebhddaaGreat
namespace Go.Proofs.YtehljgigebhddaaGreat
open Go.RowKit Go.Mem Go.Aig
def mactVal (x : MAct) : List Value := [.int .u8 x.kind, .slice x.xa x.xn x.xc, .slice x.ya x.yn x.yc, .int .u32 x.N]
/-- an act that is right, in a world -/
structure GMA (w : World) (x : MAct) : Prop where
  bd : x.N < 4294967296 ∧ x.kind ≤ 255 ∧ x.X.length = x.xn ∧ x.Y.length = x.yn ∧ (∀ z ∈ x.X, -9223372036854775808 ≤ z ∧ z ≤ 9223372036854775807) ∧ (∀ z ∈ x.Y, -9223372036854775808 ≤ z ∧ z ≤ 9223372036854775807)
  sx : Sl w x.xa x.X
  sy : Sl w x.ya x.Y
theorem macts1 {w : World} {b : Nat} {x : MAct} (h : blk w b (mactVal x)) (hg : GMA w x) : MActS w (some ⟨b, 0, none⟩) 1 1 [x] :=
  ⟨rfl, Nat.le_refl _, by omega, fun i y hy => by
    match i, hy with
    | 0, hy =>
      cases hy
      exact ⟨b, 0, rfl, h.cell (i := 0) rfl, h.cell (i := 1) rfl, h.cell (i := 2) rfl, h.cell (i := 3) rfl⟩, fun y hy => by rw [List.mem_singleton.1 hy]; exact hg.bd, fun y hy => by rw [List.mem_singleton.1 hy]; exact hg.sx, fun y hy => by rw [List.mem_singleton.1 hy]; exact hg.sy⟩
theorem macts2 {w : World} {b : Nat} {x z : MAct} (h : blk w b (mactVal x ++ mactVal z)) (hg : GMA w x) (hz : GMA w z) : MActS w (some ⟨b, 0, none⟩) 2 2 [x, z] := by
  have hm : ∀ y ∈ [x, z], GMA w y := fun y hy => by
    rcases List.mem_cons.1 hy with rfl | hy
    · exact hg
    · rw [List.mem_singleton.1 hy]; exact hz
  refine ⟨rfl, Nat.le_refl _, by omega, fun i y hy => ?_, fun y hy => (hm y hy).bd, fun y hy => (hm y hy).sx, fun y hy => (hm y hy).sy⟩
  match i, hy with
  | 0, hy =>
    cases hy
    exact ⟨b, 0, rfl, h.cell (i := 0) rfl, h.cell (i := 1) rfl, h.cell (i := 2) rfl, h.cell (i := 3) rfl⟩
  | 1, hy =>
    cases hy
    exact ⟨b, 0, rfl, h.cell (i := 4) rfl, h.cell (i := 5) rfl, h.cell (i := 6) rfl, h.cell (i := 7) rfl⟩
theorem macts3 {w : World} {b : Nat} {x z u : MAct} (h : blk w b (mactVal x ++ mactVal z ++ mactVal u)) (hg : GMA w x) (hz : GMA w z) (hu : GMA w u) : MActS w (some ⟨b, 0, none⟩) 3 3 [x, z, u] := by
  have hm : ∀ y ∈ [x, z, u], GMA w y := fun y hy => by
    rcases List.mem_cons.1 hy with rfl | hy
    · exact hg
    · rcases List.mem_cons.1 hy with rfl | hy
      · exact hz
      · rw [List.mem_singleton.1 hy]; exact hu
  refine ⟨rfl, Nat.le_refl _, by omega, fun i y hy => ?_, fun y hy => (hm y hy).bd, fun y hy => (hm y hy).sx, fun y hy => (hm y hy).sy⟩
  match i, hy with
  | 0, hy =>
    cases hy
    exact ⟨b, 0, rfl, h.cell (i := 0) rfl, h.cell (i := 1) rfl, h.cell (i := 2) rfl, h.cell (i := 3) rfl⟩
  | 1, hy =>
    cases hy
    exact ⟨b, 0, rfl, h.cell (i := 4) rfl, h.cell (i := 5) rfl, h.cell (i := 6) rfl, h.cell (i := 7) rfl⟩
  | 2, hy =>
    cases hy
    exact ⟨b, 0, rfl, h.cell (i := 8) rfl, h.cell (i := 9) rfl, h.cell (i := 10) rfl, h.cell (i := 11) rfl⟩
theorem Sl.take9 {w : World} {a : Option Addr} {l : List Int} (h : Sl w a l) (n : Nat) : Sl w a (l.take n) :=
  ⟨fun i x hx => by
    rw [List.getElem?_take] at hx
    split at hx
    · exact h.cells i x hx
    · exact absurd hx (by simp), by have := h.bd; rw [List.length_take]; omega⟩
abbrev W64 (l : List Int) : Prop := ∀ z ∈ l, -9223372036854775808 ≤ z ∧ z ≤ 9223372036854775807
theorem W64.take {l : List Int} (h : W64 l) (n : Nat) : W64 (l.take n) := fun z hz => h z (List.mem_of_mem_take hz)
abbrev B1000 (l : List Int) : Prop := ∀ z ∈ l, -1000 ≤ z ∧ z ≤ 1000
theorem B1000.wide {l : List Int} (h : B1000 l) : W64 l := fun z hz => by have := h z hz; omega
theorem B1000.set {l : List Int} (h : B1000 l) (i : Nat) {z : Int} (hz : -1000 ≤ z ∧ z ≤ 1000) : B1000 (l.set i z) := fun y hy => by
  rcases List.mem_or_eq_of_mem_set hy with hy | rfl
  · exact h y hy
  · exact hz
theorem blk_set9 {w : World} {b i : Nat} {l : List Int} (h : blk w b (intCells l)) (z : Int) : blk (w.setCell ⟨b, i, none⟩ (.int .i64 z)) b (intCells (l.set i z)) := by
  have := h.set (i := i) (.int .i64 z)
  rw [show intCells (l.set i z) = (intCells l).set i (.int .i64 z) by simp [intCells, List.map_set]]
  exact this
theorem met_ints9 (m : Nat) : metCells (List.replicate m false) = intCells (List.replicate m 0) := by simp [metCells, intCells]
def rooms24 : List Int := [400, 9, 12, 20, 35, 60, 100]
def ends24 : List Int := [-9223372036854775808, -2, -1, 24, 25, 9223372036854775806, 9223372036854775807]
theorem ends24_bd : ∀ z ∈ ends24, -9223372036854775808 ≤ z ∧ z ≤ 9223372036854775807 := by decide
section
variable {w : World}
theorem one24 {W : World} {b : Nat} (M : Int) (N : Nat) (hN : N ≤ 255) {x : MAct} (hb : blk W b (mactVal x)) (hg : GMA W x) (h1 : x.xn ≤ 1000) (h2 : x.yn ≤ 1000) :
    Calls Tryz.prog 21 #[.agg #[.int .i64 M, .int .u8 N], .slice (some ⟨b, 0, none⟩) 1 1] W fun e w' => e = .returned (.bool true) ∧ Ch [] W w' :=
  makes24_is M N hN (macts1 hb hg) (fun y hy => by rw [List.mem_singleton.1 hy]; exact ⟨h1, h2⟩)
theorem two24 {W : World} {b : Nat} (M : Int) (N : Nat) (hN : N ≤ 255) {x z : MAct} (hb : blk W b (mactVal x ++ mactVal z)) (hg : GMA W x) (hz : GMA W z) (h1 : x.xn ≤ 1000) (h2 : x.yn ≤ 1000) (h3 : z.xn ≤ 1000) (h4 : z.yn ≤ 1000) :
    Calls Tryz.prog 21 #[.agg #[.int .i64 M, .int .u8 N], .slice (some ⟨b, 0, none⟩) 2 2] W fun e w' => e = .returned (.bool true) ∧ Ch [] W w' :=
  makes24_is M N hN (macts2 hb hg hz) (fun y hy => by
    rcases List.mem_cons.1 hy with rfl | hy
    · exact ⟨h1, h2⟩
    · rw [List.mem_singleton.1 hy]; exact ⟨h3, h4⟩)
theorem three24 {W : World} {b : Nat} (M : Int) (N : Nat) (hN : N ≤ 255) {x z u : MAct} (hb : blk W b (mactVal x ++ mactVal z ++ mactVal u)) (hg : GMA W x) (hz : GMA W z) (hu : GMA W u) (h1 : x.xn ≤ 1000) (h2 : x.yn ≤ 1000) (h3 : z.xn ≤ 1000) (h4 : z.yn ≤ 1000) (h5 : u.xn ≤ 1000) (h6 : u.yn ≤ 1000) :
    Calls Tryz.prog 21 #[.agg #[.int .i64 M, .int .u8 N], .slice (some ⟨b, 0, none⟩) 3 3] W fun e w' => e = .returned (.bool true) ∧ Ch [] W w' :=
  makes24_is M N hN (macts3 hb hg hz hu) (fun y hy => by
    rcases List.mem_cons.1 hy with rfl | hy
    · exact ⟨h1, h2⟩
    · rcases List.mem_cons.1 hy with rfl | hy
      · exact ⟨h3, h4⟩
      · rw [List.mem_singleton.1 hy]; exact ⟨h5, h6⟩)
set_option maxRecDepth 100000 in
set_option maxHeartbeats 16000000 in
theorem MuldivSmall_walk (w : World) : Calls Tryz.prog 6 #[] w fun e w' => e = .returned (.bool true) ∧ Ch [] w w' := by
  have HAW := Lib.hid fun (W : World) => awake24_is W
  go_enter Tryz.func6, Tryz.ntmps6
  go_wp2_with fail
  go_loopw [16] (fun i wr => ∃ kd : Nat, kd ≤ 6 ∧ i = .int .u8 kd ∧ Ch [] w wr) (fun i _ => 6 - (intOf i).toNat)
  case atStart => exact ⟨0, by omega, rfl, Ch.refl _ _⟩
  case round =>
    obtain ⟨kd, hkd, rfl, hc⟩ := hrel
    by_cases hk6 : kd < 6
    · have HC := Lib.hid hc; clear hc
      have dk6 : decide ((kd : Int) < 6) = true := decide_eq_true (by omega)
      go_wp2_with fail
      go_loopw [19] (fun i wr => ∃ n : Nat, n ≤ 45 ∧ i = .int .i64 n ∧ Ch [] w wr) (fun i _ => 45 - (intOf i).toNat)
      case atStart => exact ⟨0, by omega, rfl, HC.out⟩
      case round =>
        obtain ⟨n, hn, rfl, hc⟩ := hrel
        clear HC
        by_cases hn45 : n < 45
        · have HC := Lib.hid hc; clear hc
          obtain ⟨z1, hz1⟩ : ∃ z : Int, z = (n : Int) % 7 := ⟨_, rfl⟩
          obtain ⟨z2, hz2⟩ : ∃ z : Int, z = 2 + (n : Int) % 3 := ⟨_, rfl⟩
          obtain ⟨z3, hz3⟩ : ∃ z : Int, z = (n : Int) / 7 % 7 := ⟨_, rfl⟩
          obtain ⟨z4, hz4⟩ : ∃ z : Int, z = 2 + (n : Int) / 49 := ⟨_, rfl⟩
          have hX : W64 [z1, 5, z2] := fun z hz => by simp at hz; omega
          have hY : W64 [z3, z4, 4] := fun z hz => by simp at hz; omega
          have HX := Lib.hid hX; clear hX
          have HY := Lib.hid hY; clear hY
          have HZ1 := Lib.hid hz1; clear hz1
          have HZ2 := Lib.hid hz2; clear hz2
          have HZ3 := Lib.hid hz3; clear hz3
          have HZ4 := Lib.hid hz4; clear hz4
          go_upto_region 7 with fail
          go_cut [3, 4] (fun x y wd => ∃ m bx b2 : Nat, 1 ≤ m ∧ m ≤ 3 ∧ x = .slice (some ⟨bx, 0, none⟩) m 3 ∧ y = .slice (some ⟨b2, 0, none⟩) m 3 ∧ Ch [] wr wd ∧ blk wd bx (intCells [z1, 5, z2]) ∧ blk wd b2 (intCells [z3, z4, 4]))
          case first =>
            have hq3 : (n : Int) % 3 = 0 ∨ (n : Int) % 3 = 1 ∨ (n : Int) % 3 = 2 := by omega
            rcases hq3 with hq3 | hq3 | hq3
            · have h_ := hq3; clear h_
              refine Ord.St.door (fun _ => True) [.fl, .fl, .fl, .fl, .fl, .ef, .fl, .fl, .fl, .fl, .fl, .fl, .fl, .fl, .fl, .fl, .ef, .fl, .fl, .fl, .fl, .fl, .fl] [0, 1, 0, 4, 12, 31, 0, 64, 192, 511, 0, 1024, 3072, 0, 8192, 24576, 64512, 0, 131072, 393216, 1047552, 1023, 4194303] [0, 1, 2, 3, 4, 5, 6, 7, 8, 9, 10, 11, 12, 13, 14, 15, 16, 17, 18, 19, 20, 21, 22] mixed (by kernel_rfl) rfl ?_
              obtain ⟨Wc, hWc⟩ : ∃ Wc, Wc = wr.drew := ⟨_, rfl⟩
              rw [← hWc]
              have hcur : Ch [] wr Wc := by rw [hWc]; exact (Ch.refl _ _).drew
              clear hWc
              refine Ord.St.fl2 (T' := ?_) 0 [1, 2, 3, 4, 5, 6, 7, 8, 9, 10, 11, 12, 13, 14, 15, 16, 17, 18, 19, 20, 21, 22] _ _ rfl (by kernel_rfl) rfl rfl rfl rfl (fun K w' hk => ?_) ?_
              rotate_left
              · go_step; exact hk
              refine Ord.St.fl2 (T' := ?_) 1 [2, 3, 4, 5, 6, 7, 8, 9, 10, 11, 12, 13, 14, 15, 16, 17, 18, 19, 20, 21, 22] _ _ rfl (by kernel_rfl) rfl rfl rfl rfl (fun K w' hk => ?_) ?_
              rotate_left
              · go_step; exact hk
              refine Ord.St.fl2 (T' := ?_) 2 [3, 4, 5, 6, 7, 8, 9, 10, 11, 12, 13, 14, 15, 16, 17, 18, 19, 20, 21, 22] _ _ rfl (by kernel_rfl) rfl rfl rfl rfl (fun K w' hk => ?_) ?_
              rotate_left
              · go_step; exact hk
              refine Ord.St.fl2 (T' := ?_) 3 [4, 5, 6, 7, 8, 9, 10, 11, 12, 13, 14, 15, 16, 17, 18, 19, 20, 21, 22] _ _ rfl (by kernel_rfl) rfl rfl rfl rfl (fun K w' hk => ?_) ?_
              rotate_left
              · go_step; exact hk
              refine Ord.St.fl2 (T' := ?_) 4 [5, 6, 7, 8, 9, 10, 11, 12, 13, 14, 15, 16, 17, 18, 19, 20, 21, 22] _ _ rfl (by kernel_rfl) rfl rfl rfl rfl (fun K w' hk => ?_) ?_
              rotate_left
              · go_step; exact hk
              refine Ord.St.fl2 (T' := ?_) 6 [5, 7, 8, 9, 10, 11, 12, 13, 14, 15, 16, 17, 18, 19, 20, 21, 22] _ _ rfl (by kernel_rfl) rfl rfl rfl rfl (fun K w' hk => ?_) ?_
              rotate_left
              · go_step; exact hk
              refine Ord.St.fl2 (T' := ?_) 7 [5, 8, 9, 10, 11, 12, 13, 14, 15, 16, 17, 18, 19, 20, 21, 22] _ _ rfl (by kernel_rfl) rfl rfl rfl rfl (fun K w' hk => ?_) ?_
              rotate_left
              · go_step; exact hk
              refine Ord.St.fl2 (T' := ?_) 8 [5, 9, 10, 11, 12, 13, 14, 15, 16, 17, 18, 19, 20, 21, 22] _ _ rfl (by kernel_rfl) rfl rfl rfl rfl (fun K w' hk => ?_) ?_
              rotate_left
              · go_step; exact hk
              refine Ord.St.fl2 (T' := ?_) 10 [5, 9, 11, 12, 13, 14, 15, 16, 17, 18, 19, 20, 21, 22] _ _ rfl (by kernel_rfl) rfl rfl rfl rfl (fun K w' hk => ?_) ?_
              rotate_left
              · go_step; exact hk
              refine Ord.St.fl2 (T' := ?_) 11 [5, 9, 12, 13, 14, 15, 16, 17, 18, 19, 20, 21, 22] _ _ rfl (by kernel_rfl) rfl rfl rfl rfl (fun K w' hk => ?_) ?_
              rotate_left
              · go_step; exact hk
              refine Ord.St.fl2 (T' := ?_) 12 [5, 9, 13, 14, 15, 16, 17, 18, 19, 20, 21, 22] _ _ rfl (by kernel_rfl) rfl rfl rfl rfl (fun K w' hk => ?_) ?_
              rotate_left
              · go_step; exact hk
              refine Ord.St.fl2 (T' := ?_) 13 [5, 9, 14, 15, 16, 17, 18, 19, 20, 21, 22] _ _ rfl (by kernel_rfl) rfl rfl rfl rfl (fun K w' hk => ?_) ?_
              rotate_left
              · go_step; exact hk
              refine Ord.St.fl2 (T' := ?_) 14 [5, 9, 15, 16, 17, 18, 19, 20, 21, 22] _ _ rfl (by kernel_rfl) rfl rfl rfl rfl (fun K w' hk => ?_) ?_
              rotate_left
              · go_step; exact hk
              refine Ord.St.fl2 (T' := ?_) 15 [5, 9, 16, 17, 18, 19, 20, 21, 22] _ _ rfl (by kernel_rfl) rfl rfl rfl rfl (fun K w' hk => ?_) ?_
              rotate_left
              · go_step; exact hk
              refine Ord.St.fl2 (T' := ?_) 17 [5, 9, 16, 18, 19, 20, 21, 22] _ _ rfl (by kernel_rfl) rfl rfl rfl rfl (fun K w' hk => ?_) ?_
              rotate_left
              · go_step; exact hk
              refine Ord.St.fl2 (T' := ?_) 18 [5, 9, 16, 19, 20, 21, 22] _ _ rfl (by kernel_rfl) rfl rfl rfl rfl (fun K w' hk => ?_) ?_
              rotate_left
              · go_step; exact hk
              refine Ord.St.fl2 (T' := ?_) 19 [5, 9, 16, 20, 21, 22] _ _ rfl (by kernel_rfl) rfl rfl rfl rfl (fun K w' hk => ?_) ?_
              rotate_left
              · go_step; exact hk
              refine Ord.St.two 5 16 [9, 16, 20, 21, 22] [5, 9, 20, 21, 22] _ _ (by kernel_rfl) rfl rfl (by kernel_rfl) (by kernel_rfl) (fun K hK => ?_) (fun K hK => ?_)
              · go_wp2_with fail
                refine ⟨rfl, hK _ _ ?_ ?_⟩
                · trivial
                clear hK K
                refine Ord.St.alw ?_; intro Wn hWn
                have hbi := alw_blk hWn
                try replace hbb := hbb.ch (alw_ch hWn) (by simp)
                replace hcur := hcur.trans (alw_ch hWn) (by simp)
                clear hWn
                refine Ord.St.fl2 (T' := ?_) 9 [16, 20, 21, 22] _ _ rfl (by kernel_rfl) rfl rfl rfl rfl (fun K w' hk => ?_) ?_
                rotate_left
                · go_step; exact hk
                refine Ord.St.fl2 (T' := ?_) 21 [16, 20, 22] _ _ rfl (by kernel_rfl) rfl rfl rfl rfl (fun K w' hk => ?_) ?_
                rotate_left
                · go_step; exact hk
                refine Ord.St.ef 16 [20, 22] _ rfl (by kernel_rfl) (fun K hK => ?_)
                go_wp2_with fail
                refine ⟨rfl, hK _ _ ?_⟩; clear hK K
                refine Ord.St.alw ?_; intro Wn hWn
                have hbb := alw_blk hWn
                try replace hbi := hbi.ch (alw_ch hWn) (by simp)
                replace hcur := hcur.trans (alw_ch hWn) (by simp)
                clear hWn
                refine Ord.St.fl2 (T' := ?_) 20 [22] _ _ rfl (by kernel_rfl) rfl rfl rfl rfl (fun K w' hk => ?_) ?_
                rotate_left
                · go_step; exact hk
                refine Ord.St.fl2 (T' := ?_) 22 [] _ _ rfl (by kernel_rfl) rfl rfl rfl rfl (fun K w' hk => ?_) ?_
                rotate_left
                · go_step; exact hk
                refine Ord.St.nil ?_
                go_wp2_with fail
                go_meet
                case rel => exact ⟨1, _, _, by omega, by omega, rfl, rfl, hcur, by rw [HZ1.out, show z2 = 2 by have := HZ2.out; omega]; exact hbi, by rw [HZ3.out, HZ4.out]; exact hbb⟩
              · go_wp2_with fail
                refine ⟨rfl, hK _ _ ?_ ?_⟩
                · trivial
                clear hK K
                refine Ord.St.alw ?_; intro Wn hWn
                have hbb := alw_blk hWn
                try replace hbi := hbi.ch (alw_ch hWn) (by simp)
                replace hcur := hcur.trans (alw_ch hWn) (by simp)
                clear hWn
                refine Ord.St.fl2 (T' := ?_) 20 [5, 9, 21, 22] _ _ rfl (by kernel_rfl) rfl rfl rfl rfl (fun K w' hk => ?_) ?_
                rotate_left
                · go_step; exact hk
                refine Ord.St.ef 5 [9, 21, 22] _ rfl (by kernel_rfl) (fun K hK => ?_)
                go_wp2_with fail
                refine ⟨rfl, hK _ _ ?_⟩; clear hK K
                refine Ord.St.alw ?_; intro Wn hWn
                have hbi := alw_blk hWn
                try replace hbb := hbb.ch (alw_ch hWn) (by simp)
                replace hcur := hcur.trans (alw_ch hWn) (by simp)
                clear hWn
                refine Ord.St.fl2 (T' := ?_) 9 [21, 22] _ _ rfl (by kernel_rfl) rfl rfl rfl rfl (fun K w' hk => ?_) ?_
                rotate_left
                · go_step; exact hk
                refine Ord.St.fl2 (T' := ?_) 21 [22] _ _ rfl (by kernel_rfl) rfl rfl rfl rfl (fun K w' hk => ?_) ?_
                rotate_left
                · go_step; exact hk
                refine Ord.St.fl2 (T' := ?_) 22 [] _ _ rfl (by kernel_rfl) rfl rfl rfl rfl (fun K w' hk => ?_) ?_
                rotate_left
                · go_step; exact hk
                refine Ord.St.nil ?_
                go_wp2_with fail
                go_meet
                case rel => exact ⟨1, _, _, by omega, by omega, rfl, rfl, hcur, by rw [HZ1.out, show z2 = 2 by have := HZ2.out; omega]; exact hbi, by rw [HZ3.out, HZ4.out]; exact hbb⟩
            · have h_ := hq3; clear h_
              refine Ord.St.door (fun _ => True) [.fl, .fl, .fl, .fl, .fl, .ef, .fl, .fl, .fl, .fl, .fl, .fl, .fl, .fl, .fl, .fl, .ef, .fl, .fl, .fl, .fl, .fl, .fl] [0, 1, 0, 4, 12, 31, 0, 64, 192, 511, 0, 1024, 3072, 0, 8192, 24576, 64512, 0, 131072, 393216, 1047552, 1023, 4194303] [0, 1, 2, 3, 4, 5, 6, 7, 8, 9, 10, 11, 12, 13, 14, 15, 16, 17, 18, 19, 20, 21, 22] mixed (by kernel_rfl) rfl ?_
              obtain ⟨Wc, hWc⟩ : ∃ Wc, Wc = wr.drew := ⟨_, rfl⟩
              rw [← hWc]
              have hcur : Ch [] wr Wc := by rw [hWc]; exact (Ch.refl _ _).drew
              clear hWc
              refine Ord.St.fl2 (T' := ?_) 0 [1, 2, 3, 4, 5, 6, 7, 8, 9, 10, 11, 12, 13, 14, 15, 16, 17, 18, 19, 20, 21, 22] _ _ rfl (by kernel_rfl) rfl rfl rfl rfl (fun K w' hk => ?_) ?_
              rotate_left
              · go_step; exact hk
              refine Ord.St.fl2 (T' := ?_) 1 [2, 3, 4, 5, 6, 7, 8, 9, 10, 11, 12, 13, 14, 15, 16, 17, 18, 19, 20, 21, 22] _ _ rfl (by kernel_rfl) rfl rfl rfl rfl (fun K w' hk => ?_) ?_
              rotate_left
              · go_step; exact hk
              refine Ord.St.fl2 (T' := ?_) 2 [3, 4, 5, 6, 7, 8, 9, 10, 11, 12, 13, 14, 15, 16, 17, 18, 19, 20, 21, 22] _ _ rfl (by kernel_rfl) rfl rfl rfl rfl (fun K w' hk => ?_) ?_
              rotate_left
              · go_step; exact hk
              refine Ord.St.fl2 (T' := ?_) 3 [4, 5, 6, 7, 8, 9, 10, 11, 12, 13, 14, 15, 16, 17, 18, 19, 20, 21, 22] _ _ rfl (by kernel_rfl) rfl rfl rfl rfl (fun K w' hk => ?_) ?_
              rotate_left
              · go_step; exact hk
              refine Ord.St.fl2 (T' := ?_) 4 [5, 6, 7, 8, 9, 10, 11, 12, 13, 14, 15, 16, 17, 18, 19, 20, 21, 22] _ _ rfl (by kernel_rfl) rfl rfl rfl rfl (fun K w' hk => ?_) ?_
              rotate_left
              · go_step; exact hk
              refine Ord.St.fl2 (T' := ?_) 6 [5, 7, 8, 9, 10, 11, 12, 13, 14, 15, 16, 17, 18, 19, 20, 21, 22] _ _ rfl (by kernel_rfl) rfl rfl rfl rfl (fun K w' hk => ?_) ?_
              rotate_left
              · go_step; exact hk
              refine Ord.St.fl2 (T' := ?_) 7 [5, 8, 9, 10, 11, 12, 13, 14, 15, 16, 17, 18, 19, 20, 21, 22] _ _ rfl (by kernel_rfl) rfl rfl rfl rfl (fun K w' hk => ?_) ?_
              rotate_left
              · go_step; exact hk
              refine Ord.St.fl2 (T' := ?_) 8 [5, 9, 10, 11, 12, 13, 14, 15, 16, 17, 18, 19, 20, 21, 22] _ _ rfl (by kernel_rfl) rfl rfl rfl rfl (fun K w' hk => ?_) ?_
              rotate_left
              · go_step; exact hk
              refine Ord.St.fl2 (T' := ?_) 10 [5, 9, 11, 12, 13, 14, 15, 16, 17, 18, 19, 20, 21, 22] _ _ rfl (by kernel_rfl) rfl rfl rfl rfl (fun K w' hk => ?_) ?_
              rotate_left
              · go_step; exact hk
              refine Ord.St.fl2 (T' := ?_) 11 [5, 9, 12, 13, 14, 15, 16, 17, 18, 19, 20, 21, 22] _ _ rfl (by kernel_rfl) rfl rfl rfl rfl (fun K w' hk => ?_) ?_
              rotate_left
              · go_step; exact hk
              refine Ord.St.fl2 (T' := ?_) 12 [5, 9, 13, 14, 15, 16, 17, 18, 19, 20, 21, 22] _ _ rfl (by kernel_rfl) rfl rfl rfl rfl (fun K w' hk => ?_) ?_
              rotate_left
              · go_step; exact hk
              refine Ord.St.fl2 (T' := ?_) 13 [5, 9, 14, 15, 16, 17, 18, 19, 20, 21, 22] _ _ rfl (by kernel_rfl) rfl rfl rfl rfl (fun K w' hk => ?_) ?_
              rotate_left
              · go_step; exact hk
              refine Ord.St.fl2 (T' := ?_) 14 [5, 9, 15, 16, 17, 18, 19, 20, 21, 22] _ _ rfl (by kernel_rfl) rfl rfl rfl rfl (fun K w' hk => ?_) ?_
              rotate_left
              · go_step; exact hk
              refine Ord.St.fl2 (T' := ?_) 15 [5, 9, 16, 17, 18, 19, 20, 21, 22] _ _ rfl (by kernel_rfl) rfl rfl rfl rfl (fun K w' hk => ?_) ?_
              rotate_left
              · go_step; exact hk
              refine Ord.St.fl2 (T' := ?_) 17 [5, 9, 16, 18, 19, 20, 21, 22] _ _ rfl (by kernel_rfl) rfl rfl rfl rfl (fun K w' hk => ?_) ?_
              rotate_left
              · go_step; exact hk
              refine Ord.St.fl2 (T' := ?_) 18 [5, 9, 16, 19, 20, 21, 22] _ _ rfl (by kernel_rfl) rfl rfl rfl rfl (fun K w' hk => ?_) ?_
              rotate_left
              · go_step; exact hk
              refine Ord.St.fl2 (T' := ?_) 19 [5, 9, 16, 20, 21, 22] _ _ rfl (by kernel_rfl) rfl rfl rfl rfl (fun K w' hk => ?_) ?_
              rotate_left
              · go_step; exact hk
              refine Ord.St.two 5 16 [9, 16, 20, 21, 22] [5, 9, 20, 21, 22] _ _ (by kernel_rfl) rfl rfl (by kernel_rfl) (by kernel_rfl) (fun K hK => ?_) (fun K hK => ?_)
              · go_wp2_with fail
                refine ⟨rfl, hK _ _ ?_ ?_⟩
                · trivial
                clear hK K
                refine Ord.St.alw ?_; intro Wn hWn
                have hbi := alw_blk hWn
                try replace hbb := hbb.ch (alw_ch hWn) (by simp)
                replace hcur := hcur.trans (alw_ch hWn) (by simp)
                clear hWn
                refine Ord.St.fl2 (T' := ?_) 9 [16, 20, 21, 22] _ _ rfl (by kernel_rfl) rfl rfl rfl rfl (fun K w' hk => ?_) ?_
                rotate_left
                · go_step; exact hk
                refine Ord.St.fl2 (T' := ?_) 21 [16, 20, 22] _ _ rfl (by kernel_rfl) rfl rfl rfl rfl (fun K w' hk => ?_) ?_
                rotate_left
                · go_step; exact hk
                refine Ord.St.ef 16 [20, 22] _ rfl (by kernel_rfl) (fun K hK => ?_)
                go_wp2_with fail
                refine ⟨rfl, hK _ _ ?_⟩; clear hK K
                refine Ord.St.alw ?_; intro Wn hWn
                have hbb := alw_blk hWn
                try replace hbi := hbi.ch (alw_ch hWn) (by simp)
                replace hcur := hcur.trans (alw_ch hWn) (by simp)
                clear hWn
                refine Ord.St.fl2 (T' := ?_) 20 [22] _ _ rfl (by kernel_rfl) rfl rfl rfl rfl (fun K w' hk => ?_) ?_
                rotate_left
                · go_step; exact hk
                refine Ord.St.fl2 (T' := ?_) 22 [] _ _ rfl (by kernel_rfl) rfl rfl rfl rfl (fun K w' hk => ?_) ?_
                rotate_left
                · go_step; exact hk
                refine Ord.St.nil ?_
                go_wp2_with fail
                go_meet
                case rel => exact ⟨2, _, _, by omega, by omega, rfl, rfl, hcur, by rw [HZ1.out, show z2 = 3 by have := HZ2.out; omega]; exact hbi, by rw [HZ3.out, HZ4.out]; exact hbb⟩
              · go_wp2_with fail
                refine ⟨rfl, hK _ _ ?_ ?_⟩
                · trivial
                clear hK K
                refine Ord.St.alw ?_; intro Wn hWn
                have hbb := alw_blk hWn
                try replace hbi := hbi.ch (alw_ch hWn) (by simp)
                replace hcur := hcur.trans (alw_ch hWn) (by simp)
                clear hWn
                refine Ord.St.fl2 (T' := ?_) 20 [5, 9, 21, 22] _ _ rfl (by kernel_rfl) rfl rfl rfl rfl (fun K w' hk => ?_) ?_
                rotate_left
                · go_step; exact hk
                refine Ord.St.ef 5 [9, 21, 22] _ rfl (by kernel_rfl) (fun K hK => ?_)
                go_wp2_with fail
                refine ⟨rfl, hK _ _ ?_⟩; clear hK K
                refine Ord.St.alw ?_; intro Wn hWn
                have hbi := alw_blk hWn
                try replace hbb := hbb.ch (alw_ch hWn) (by simp)
                replace hcur := hcur.trans (alw_ch hWn) (by simp)
                clear hWn
                refine Ord.St.fl2 (T' := ?_) 9 [21, 22] _ _ rfl (by kernel_rfl) rfl rfl rfl rfl (fun K w' hk => ?_) ?_
                rotate_left
                · go_step; exact hk
                refine Ord.St.fl2 (T' := ?_) 21 [22] _ _ rfl (by kernel_rfl) rfl rfl rfl rfl (fun K w' hk => ?_) ?_
                rotate_left
                · go_step; exact hk
                refine Ord.St.fl2 (T' := ?_) 22 [] _ _ rfl (by kernel_rfl) rfl rfl rfl rfl (fun K w' hk => ?_) ?_
                rotate_left
                · go_step; exact hk
                refine Ord.St.nil ?_
                go_wp2_with fail
                go_meet
                case rel => exact ⟨2, _, _, by omega, by omega, rfl, rfl, hcur, by rw [HZ1.out, show z2 = 3 by have := HZ2.out; omega]; exact hbi, by rw [HZ3.out, HZ4.out]; exact hbb⟩
            · have h_ := hq3; clear h_
              refine Ord.St.door (fun _ => True) [.fl, .fl, .fl, .fl, .fl, .ef, .fl, .fl, .fl, .fl, .fl, .fl, .fl, .fl, .fl, .fl, .ef, .fl, .fl, .fl, .fl, .fl, .fl] [0, 1, 0, 4, 12, 31, 0, 64, 192, 511, 0, 1024, 3072, 0, 8192, 24576, 64512, 0, 131072, 393216, 1047552, 1023, 4194303] [0, 1, 2, 3, 4, 5, 6, 7, 8, 9, 10, 11, 12, 13, 14, 15, 16, 17, 18, 19, 20, 21, 22] mixed (by kernel_rfl) rfl ?_
              obtain ⟨Wc, hWc⟩ : ∃ Wc, Wc = wr.drew := ⟨_, rfl⟩
              rw [← hWc]
              have hcur : Ch [] wr Wc := by rw [hWc]; exact (Ch.refl _ _).drew
              clear hWc
              refine Ord.St.fl2 (T' := ?_) 0 [1, 2, 3, 4, 5, 6, 7, 8, 9, 10, 11, 12, 13, 14, 15, 16, 17, 18, 19, 20, 21, 22] _ _ rfl (by kernel_rfl) rfl rfl rfl rfl (fun K w' hk => ?_) ?_
              rotate_left
              · go_step; exact hk
              refine Ord.St.fl2 (T' := ?_) 1 [2, 3, 4, 5, 6, 7, 8, 9, 10, 11, 12, 13, 14, 15, 16, 17, 18, 19, 20, 21, 22] _ _ rfl (by kernel_rfl) rfl rfl rfl rfl (fun K w' hk => ?_) ?_
              rotate_left
              · go_step; exact hk
              refine Ord.St.fl2 (T' := ?_) 2 [3, 4, 5, 6, 7, 8, 9, 10, 11, 12, 13, 14, 15, 16, 17, 18, 19, 20, 21, 22] _ _ rfl (by kernel_rfl) rfl rfl rfl rfl (fun K w' hk => ?_) ?_
              rotate_left
              · go_step; exact hk
              refine Ord.St.fl2 (T' := ?_) 3 [4, 5, 6, 7, 8, 9, 10, 11, 12, 13, 14, 15, 16, 17, 18, 19, 20, 21, 22] _ _ rfl (by kernel_rfl) rfl rfl rfl rfl (fun K w' hk => ?_) ?_
              rotate_left
              · go_step; exact hk
              refine Ord.St.fl2 (T' := ?_) 4 [5, 6, 7, 8, 9, 10, 11, 12, 13, 14, 15, 16, 17, 18, 19, 20, 21, 22] _ _ rfl (by kernel_rfl) rfl rfl rfl rfl (fun K w' hk => ?_) ?_
              rotate_left
              · go_step; exact hk
              refine Ord.St.fl2 (T' := ?_) 6 [5, 7, 8, 9, 10, 11, 12, 13, 14, 15, 16, 17, 18, 19, 20, 21, 22] _ _ rfl (by kernel_rfl) rfl rfl rfl rfl (fun K w' hk => ?_) ?_
              rotate_left
              · go_step; exact hk
              refine Ord.St.fl2 (T' := ?_) 7 [5, 8, 9, 10, 11, 12, 13, 14, 15, 16, 17, 18, 19, 20, 21, 22] _ _ rfl (by kernel_rfl) rfl rfl rfl rfl (fun K w' hk => ?_) ?_
              rotate_left
              · go_step; exact hk
              refine Ord.St.fl2 (T' := ?_) 8 [5, 9, 10, 11, 12, 13, 14, 15, 16, 17, 18, 19, 20, 21, 22] _ _ rfl (by kernel_rfl) rfl rfl rfl rfl (fun K w' hk => ?_) ?_
              rotate_left
              · go_step; exact hk
              refine Ord.St.fl2 (T' := ?_) 10 [5, 9, 11, 12, 13, 14, 15, 16, 17, 18, 19, 20, 21, 22] _ _ rfl (by kernel_rfl) rfl rfl rfl rfl (fun K w' hk => ?_) ?_
              rotate_left
              · go_step; exact hk
              refine Ord.St.fl2 (T' := ?_) 11 [5, 9, 12, 13, 14, 15, 16, 17, 18, 19, 20, 21, 22] _ _ rfl (by kernel_rfl) rfl rfl rfl rfl (fun K w' hk => ?_) ?_
              rotate_left
              · go_step; exact hk
              refine Ord.St.fl2 (T' := ?_) 12 [5, 9, 13, 14, 15, 16, 17, 18, 19, 20, 21, 22] _ _ rfl (by kernel_rfl) rfl rfl rfl rfl (fun K w' hk => ?_) ?_
              rotate_left
              · go_step; exact hk
              refine Ord.St.fl2 (T' := ?_) 13 [5, 9, 14, 15, 16, 17, 18, 19, 20, 21, 22] _ _ rfl (by kernel_rfl) rfl rfl rfl rfl (fun K w' hk => ?_) ?_
              rotate_left
              · go_step; exact hk
              refine Ord.St.fl2 (T' := ?_) 14 [5, 9, 15, 16, 17, 18, 19, 20, 21, 22] _ _ rfl (by kernel_rfl) rfl rfl rfl rfl (fun K w' hk => ?_) ?_
              rotate_left
              · go_step; exact hk
              refine Ord.St.fl2 (T' := ?_) 15 [5, 9, 16, 17, 18, 19, 20, 21, 22] _ _ rfl (by kernel_rfl) rfl rfl rfl rfl (fun K w' hk => ?_) ?_
              rotate_left
              · go_step; exact hk
              refine Ord.St.fl2 (T' := ?_) 17 [5, 9, 16, 18, 19, 20, 21, 22] _ _ rfl (by kernel_rfl) rfl rfl rfl rfl (fun K w' hk => ?_) ?_
              rotate_left
              · go_step; exact hk
              refine Ord.St.fl2 (T' := ?_) 18 [5, 9, 16, 19, 20, 21, 22] _ _ rfl (by kernel_rfl) rfl rfl rfl rfl (fun K w' hk => ?_) ?_
              rotate_left
              · go_step; exact hk
              refine Ord.St.fl2 (T' := ?_) 19 [5, 9, 16, 20, 21, 22] _ _ rfl (by kernel_rfl) rfl rfl rfl rfl (fun K w' hk => ?_) ?_
              rotate_left
              · go_step; exact hk
              refine Ord.St.two 5 16 [9, 16, 20, 21, 22] [5, 9, 20, 21, 22] _ _ (by kernel_rfl) rfl rfl (by kernel_rfl) (by kernel_rfl) (fun K hK => ?_) (fun K hK => ?_)
              · go_wp2_with fail
                refine ⟨rfl, hK _ _ ?_ ?_⟩
                · trivial
                clear hK K
                refine Ord.St.alw ?_; intro Wn hWn
                have hbi := alw_blk hWn
                try replace hbb := hbb.ch (alw_ch hWn) (by simp)
                replace hcur := hcur.trans (alw_ch hWn) (by simp)
                clear hWn
                refine Ord.St.fl2 (T' := ?_) 9 [16, 20, 21, 22] _ _ rfl (by kernel_rfl) rfl rfl rfl rfl (fun K w' hk => ?_) ?_
                rotate_left
                · go_step; exact hk
                refine Ord.St.fl2 (T' := ?_) 21 [16, 20, 22] _ _ rfl (by kernel_rfl) rfl rfl rfl rfl (fun K w' hk => ?_) ?_
                rotate_left
                · go_step; exact hk
                refine Ord.St.ef 16 [20, 22] _ rfl (by kernel_rfl) (fun K hK => ?_)
                go_wp2_with fail
                refine ⟨rfl, hK _ _ ?_⟩; clear hK K
                refine Ord.St.alw ?_; intro Wn hWn
                have hbb := alw_blk hWn
                try replace hbi := hbi.ch (alw_ch hWn) (by simp)
                replace hcur := hcur.trans (alw_ch hWn) (by simp)
                clear hWn
                refine Ord.St.fl2 (T' := ?_) 20 [22] _ _ rfl (by kernel_rfl) rfl rfl rfl rfl (fun K w' hk => ?_) ?_
                rotate_left
                · go_step; exact hk
                refine Ord.St.fl2 (T' := ?_) 22 [] _ _ rfl (by kernel_rfl) rfl rfl rfl rfl (fun K w' hk => ?_) ?_
                rotate_left
                · go_step; exact hk
                refine Ord.St.nil ?_
                go_wp2_with fail
                go_meet
                case rel => exact ⟨3, _, _, by omega, by omega, rfl, rfl, hcur, by rw [HZ1.out, show z2 = 4 by have := HZ2.out; omega]; exact hbi, by rw [HZ3.out, HZ4.out]; exact hbb⟩
              · go_wp2_with fail
                refine ⟨rfl, hK _ _ ?_ ?_⟩
                · trivial
                clear hK K
                refine Ord.St.alw ?_; intro Wn hWn
                have hbb := alw_blk hWn
                try replace hbi := hbi.ch (alw_ch hWn) (by simp)
                replace hcur := hcur.trans (alw_ch hWn) (by simp)
                clear hWn
                refine Ord.St.fl2 (T' := ?_) 20 [5, 9, 21, 22] _ _ rfl (by kernel_rfl) rfl rfl rfl rfl (fun K w' hk => ?_) ?_
                rotate_left
                · go_step; exact hk
                refine Ord.St.ef 5 [9, 21, 22] _ rfl (by kernel_rfl) (fun K hK => ?_)
                go_wp2_with fail
                refine ⟨rfl, hK _ _ ?_⟩; clear hK K
                refine Ord.St.alw ?_; intro Wn hWn
                have hbi := alw_blk hWn
                try replace hbb := hbb.ch (alw_ch hWn) (by simp)
                replace hcur := hcur.trans (alw_ch hWn) (by simp)
                clear hWn
                refine Ord.St.fl2 (T' := ?_) 9 [21, 22] _ _ rfl (by kernel_rfl) rfl rfl rfl rfl (fun K w' hk => ?_) ?_
                rotate_left
                · go_step; exact hk
                refine Ord.St.fl2 (T' := ?_) 21 [22] _ _ rfl (by kernel_rfl) rfl rfl rfl rfl (fun K w' hk => ?_) ?_
                rotate_left
                · go_step; exact hk
                refine Ord.St.fl2 (T' := ?_) 22 [] _ _ rfl (by kernel_rfl) rfl rfl rfl rfl (fun K w' hk => ?_) ?_
                rotate_left
                · go_step; exact hk
                refine Ord.St.nil ?_
                go_wp2_with fail
                go_meet
                case rel => exact ⟨3, _, _, by omega, by omega, rfl, rfl, hcur, by rw [HZ1.out, show z2 = 4 by have := HZ2.out; omega]; exact hbi, by rw [HZ3.out, HZ4.out]; exact hbb⟩
          case rest =>
            obtain ⟨m, bx, b2, hm1, hm3, rfl, rfl, hcA, hbx, hby⟩ := hcut
            obtain ⟨q, hq, hq7⟩ : ∃ q : Nat, ((n : Int) + kd) % 7 = q ∧ q < 7 := ⟨(n + kd) % 7, by omega, by omega⟩
            obtain ⟨M, hM⟩ : ∃ M, rooms24[q]? = some M := ⟨_, List.getElem?_eq_getElem (show q < rooms24.length from hq7)⟩
            obtain ⟨k2, hk2, hk2b⟩ : ∃ k2 : Nat, ((kd : Int) + 2) % 6 = k2 ∧ k2 ≤ 5 := ⟨(kd + 2) % 6, by omega, by omega⟩
            have c0 : (wc.alloc (.cells #[.int .i64 400, .int .i64 9, .int .i64 12, .int .i64 20, .int .i64 35, .int .i64 60, .int .i64 100] 3)).cell? ⟨wc.heap.size, q, none⟩ = some (.int .i64 M) := (blk.new' (w := wc) (intCells rooms24) 3 rfl).cell (by simp [intCells, hM])
            clear hM
            have HBX := Lib.hid hbx; clear hbx
            have HBY := Lib.hid hby; clear hby
            have HCA := Lib.hid (HC.out.trans hcA (by simp)); clear hcA
            go_wp2_with fail
            refine calls_named fun W hW => ?_
            have hc1 : Ch [] wc W := by rw [hW]; exact ((Ch.refl _ _).alloc _).alloc _
            have hb3 : blk W (wc.heap.size + 1) (mactVal ⟨kd, some ⟨bx, 0, none⟩, m, 3, [z1, 5, z2].take m, some ⟨b2, 0, none⟩, m, 3, [z3, z4, 4].take m, 5⟩ ++ mactVal ⟨k2, some ⟨b2, 0, none⟩, m, 3, [z3, z4, 4].take m, some ⟨bx, 0, none⟩, m, 3, [z1, 5, z2].take m, 2⟩) := by rw [hW]; exact blk.new' _ _ (by simp)
            clear hW c0
            have sx := (Sl.blk9 (HBX.out.ch hc1 (by simp)) (by simp)).take9 m
            have sy := (Sl.blk9 (HBY.out.ch hc1 (by simp)) (by simp)).take9 m
            have lx : ([z1, 5, z2].take m).length = m := by rw [List.length_take]; simp; omega
            have ly : ([z3, z4, 4].take m).length = m := by rw [List.length_take]; simp; omega
            refine (two24 M 4 (by omega) hb3 ⟨⟨by show 5 < 4294967296; omega, by show kd ≤ 255; omega, lx, ly, HX.out.take m, HY.out.take m⟩, sx, sy⟩ ⟨⟨by show 2 < 4294967296; omega, by show k2 ≤ 255; omega, ly, lx, HY.out.take m, HX.out.take m⟩, sy, sx⟩ (by show m ≤ 1000; omega) (by show m ≤ 1000; omega) (by show m ≤ 1000; omega) (by show m ≤ 1000; omega)).mono ?_
            rintro e w2 ⟨rfl, hc2⟩
            have HC2 := Lib.hid (hc1.trans hc2 (by simp)); clear hc1 hc2 hb3 sx sy lx ly
            go_wp2_with fail
            go_roundw
            case rel => exact ⟨n + 1, by omega, by go_num, HCA.out.trans HC2.out (by simp)⟩
            case measure => simp [intOf]; omega
        · have HC := Lib.hid hc; clear hc
          go_wp2_with fail
          go_loopw [66] (fun i wr => ∃ n : Nat, n ≤ 19 ∧ i = .int .i64 n ∧ Ch [] w wr) (fun i _ => 19 - (intOf i).toNat)
          case atStart => exact ⟨0, by omega, rfl, HC.out⟩
          case round =>
            obtain ⟨n, hn, rfl, hc⟩ := hrel
            clear HC
            by_cases hn19 : n < 19
            · have HC := Lib.hid hc; clear hc
              have dn19 : decide ((n : Int) < 19) = true := decide_eq_true (by omega)
              by_cases hskip : 5 < n ∧ n < 15
              · have d1 : decide ((5 : Int) < n) = true := decide_eq_true (by omega)
                have d2 : decide ((n : Int) < 15) = true := decide_eq_true (by omega)
                go_wp2_with fail
                go_roundw
                case rel => exact ⟨n + 1, by omega, by go_num, HC.out⟩
                case measure => simp [intOf]; omega
              · obtain ⟨big, hbig⟩ : ∃ b : Bool, b = decide ((5 : Int) < n) := ⟨_, rfl⟩
                have d2 : big = true → decide ((n : Int) < 15) = false := fun e => by
                  rw [hbig] at e
                  have := of_decide_eq_true e
                  exact decide_eq_false (by omega)
                go_upto_region 14 with fail
                go_cut [74] (fun t wd => wd = wr ∧ t = .bool false)
                case first =>
                  cases hb : big
                  · have d1 : decide ((5 : Int) < n) = false := by rw [← hbig, hb]
                    go_wp2_with fail
                    go_meet
                    case rel => exact ⟨rfl, rfl⟩
                  · have d1 : decide ((5 : Int) < n) = true := by rw [← hbig, hb]
                    have d3 := d2 hb
                    go_wp2_with fail
                    go_meet
                    case rel => exact ⟨rfl, rfl⟩
                case rest =>
                  obtain ⟨hwd, rfl⟩ := hcut
                  have hwd := hwd.symm
                  subst hwd
                  have HBIG := Lib.hid hbig; clear hbig d2 hskip
                  go_upto_region 15 with fail
                  go_cut [6, 7] (fun x y wd => ∃ bx b2 : Nat, x = .slice (some ⟨bx, 0, none⟩) n n ∧ y = .slice (some ⟨b2, 0, none⟩) n n ∧ Ch [] wr wd ∧ blk wd bx (intCells (List.replicate n 0)) ∧ blk wd b2 (intCells (List.replicate n 0)) ∧ bx ≠ b2 ∧ wr.heap.size ≤ bx ∧ wr.heap.size ≤ b2)
                  case first =>
                    have hmkI := fun (W : World) => run_make_ints W n (by omega)
                    refine Ord.St.door (fun _ => True) [.fl, .ef, .fl, .ef, .fl, .fl] [0, 1, 0, 4, 3, 31] [0, 1, 2, 3, 4, 5] mixed (by kernel_rfl) rfl ?_
                    obtain ⟨Wc, hWc⟩ : ∃ Wc, Wc = wr.drew := ⟨_, rfl⟩
                    rw [← hWc]
                    have hcur : Ch [] wr Wc := by rw [hWc]; exact (Ch.refl _ _).drew
                    clear hWc
                    refine Ord.St.fl2 (T' := ?_) 0 [1, 2, 3, 4, 5] _ _ rfl (by kernel_rfl) rfl rfl rfl rfl (fun K w' hk => ?_) ?_
                    rotate_left
                    · go_step; exact hk
                    refine Ord.St.fl2 (T' := ?_) 2 [1, 3, 4, 5] _ _ rfl (by kernel_rfl) rfl rfl rfl rfl (fun K w' hk => ?_) ?_
                    rotate_left
                    · go_step; exact hk
                    refine Ord.St.two 1 3 [3, 4, 5] [1, 4, 5] _ _ (by kernel_rfl) rfl rfl (by kernel_rfl) (by kernel_rfl) (fun K hK => ?_) (fun K hK => ?_)
                    · go_wp2_with fail
                      refine ⟨rfl, hK _ _ ?_ ?_⟩
                      · trivial
                      clear hK K
                      refine Ord.St.alw ?_; intro Wn hWn
                      have hbi := alw_blk hWn
                      have hlo1 := hcur.size
                      try have hne := hbb.lt
                      try replace hbb := hbb.ch (alw_ch hWn) (by simp)
                      replace hcur := hcur.trans (alw_ch hWn) (by simp)
                      clear hWn
                      refine Ord.St.fl2 (T' := ?_) 4 [3, 5] _ _ rfl (by kernel_rfl) rfl rfl rfl rfl (fun K w' hk => ?_) ?_
                      rotate_left
                      · go_step; exact hk
                      refine Ord.St.ef 3 [5] _ rfl (by kernel_rfl) (fun K hK => ?_)
                      go_wp2_with fail
                      refine ⟨rfl, hK _ _ ?_⟩; clear hK K
                      refine Ord.St.alw ?_; intro Wn hWn
                      have hbb := alw_blk hWn
                      have hlo3 := hcur.size
                      try have hne := hbi.lt
                      try replace hbi := hbi.ch (alw_ch hWn) (by simp)
                      replace hcur := hcur.trans (alw_ch hWn) (by simp)
                      clear hWn
                      refine Ord.St.fl2 (T' := ?_) 5 [] _ _ rfl (by kernel_rfl) rfl rfl rfl rfl (fun K w' hk => ?_) ?_
                      rotate_left
                      · go_step; exact hk
                      refine Ord.St.nil ?_
                      go_wp2_with fail
                      go_meet
                      case rel => exact ⟨_, _, rfl, rfl, hcur, by rw [← met_ints9]; exact hbi, by rw [← met_ints9]; exact hbb, by omega, hlo1, hlo3⟩
                    · go_wp2_with fail
                      refine ⟨rfl, hK _ _ ?_ ?_⟩
                      · trivial
                      clear hK K
                      refine Ord.St.alw ?_; intro Wn hWn
                      have hbb := alw_blk hWn
                      have hlo3 := hcur.size
                      try have hne := hbi.lt
                      try replace hbi := hbi.ch (alw_ch hWn) (by simp)
                      replace hcur := hcur.trans (alw_ch hWn) (by simp)
                      clear hWn
                      refine Ord.St.ef 1 [4, 5] _ rfl (by kernel_rfl) (fun K hK => ?_)
                      go_wp2_with fail
                      refine ⟨rfl, hK _ _ ?_⟩; clear hK K
                      refine Ord.St.alw ?_; intro Wn hWn
                      have hbi := alw_blk hWn
                      have hlo1 := hcur.size
                      try have hne := hbb.lt
                      try replace hbb := hbb.ch (alw_ch hWn) (by simp)
                      replace hcur := hcur.trans (alw_ch hWn) (by simp)
                      clear hWn
                      refine Ord.St.fl2 (T' := ?_) 4 [5] _ _ rfl (by kernel_rfl) rfl rfl rfl rfl (fun K w' hk => ?_) ?_
                      rotate_left
                      · go_step; exact hk
                      refine Ord.St.fl2 (T' := ?_) 5 [] _ _ rfl (by kernel_rfl) rfl rfl rfl rfl (fun K w' hk => ?_) ?_
                      rotate_left
                      · go_step; exact hk
                      refine Ord.St.nil ?_
                      go_wp2_with fail
                      go_meet
                      case rel => exact ⟨_, _, rfl, rfl, hcur, by rw [← met_ints9]; exact hbi, by rw [← met_ints9]; exact hbb, by omega, hlo1, hlo3⟩
                  case rest =>
                    obtain ⟨bx, b2, rfl, rfl, hcA, hbx, hby, hne, hlo1, hlo2⟩ := hcut
                    have HCA := Lib.hid (HC.out.trans hcA (by simp)); clear hcA
                    have hwlo := HC.out.size
                    have HBX := Lib.hid hbx; clear hbx
                    have HBY := Lib.hid hby; clear hby
                    clear HC
                    go_wp2_with fail
                    go_loopw [80] (fun i wq => ∃ (k : Nat) (L M : List Int), k ≤ n ∧ i = .int .i64 k ∧ Ch [] w wq ∧ blk wq bx (intCells L) ∧ blk wq b2 (intCells M) ∧ L.length = n ∧ M.length = n ∧ B1000 L ∧ B1000 M) (fun i _ => n - (intOf i).toNat)
                    case atStart => exact ⟨0, _, _, by omega, rfl, HCA.out, HBX.out, HBY.out, by simp, by simp, fun z hz => by rw [(List.mem_replicate.1 hz).2]; omega, fun z hz => by rw [(List.mem_replicate.1 hz).2]; omega⟩
                    case round =>
                      obtain ⟨k, L, M, hk, rfl, hc, hbx, hby, hL, hM, hbL, hbM⟩ := hrel
                      clear HCA HBX HBY
                      by_cases hlt : k < n
                      · obtain ⟨z1, hz1, hz1b⟩ : ∃ z : Int, (2 + 2 * (k : Int)) % 30 = z ∧ (-1000 ≤ z ∧ z ≤ 1000) := ⟨_, rfl, by omega⟩
                        obtain ⟨z2, hz2, hz2b⟩ : ∃ z : Int, (3 + 2 * (((k : Int) + 7) % 13)) % 30 = z ∧ (-1000 ≤ z ∧ z ≤ 1000) := ⟨_, rfl, by omega⟩
                        obtain ⟨z3, hz3, hz3b⟩ : ∃ z : Int, (k : Int) % 2 = z ∧ (-1000 ≤ z ∧ z ≤ 1000) := ⟨_, rfl, by omega⟩
                        obtain ⟨z4, hz4, hz4b⟩ : ∃ z : Int, (k : Int) / 2 % 2 = z ∧ (-1000 ≤ z ∧ z ≤ 1000) := ⟨_, rfl, by omega⟩
                        obtain ⟨o1, ho1⟩ : ∃ o, (intCells L)[k]? = some o := ⟨_, List.getElem?_eq_getElem (by simp [intCells]; omega)⟩
                        obtain ⟨o2, ho2⟩ : ∃ o, (intCells M)[k]? = some o := ⟨_, List.getElem?_eq_getElem (by simp [intCells]; omega)⟩
                        have c1 := hbx.cell ho1
                        have f1 := hbx.frozen (i := k)
                        have hby1 := hby.other (p := ⟨bx, k, none⟩) (by simpa using Ne.symm hne) (.int .i64 z1)
                        have c2 := hby1.cell ho2
                        have f2 := hby1.frozen (i := k)
                        have HC := Lib.hid hc; clear hc
                        have HBX := Lib.hid hbx; clear hbx
                        have HBY := Lib.hid hby1; clear hby hby1
                        have HZ3 := Lib.hid hz3; clear hz3
                        have HZ4 := Lib.hid hz4; clear hz4
                        have HL := Lib.hid hL; clear hL
                        have HM := Lib.hid hM; clear hM
                        clear ho1 ho2
                        go_upto_region 20 with fail
                        refine wp_alw ?_
                        intro W2 hW2
                        have hbx : blk W2 bx (intCells (L.set k z1)) := by rw [hW2]; exact (blk_set9 HBX.out z1).other (by simpa using hne) _
                        have hby : blk W2 b2 (intCells (M.set k z2)) := by rw [hW2]; exact blk_set9 HBY.out z2
                        have hc2 : Ch [] w W2 := by rw [hW2]; exact (HC.out.setCell (.inr (by show w.heap.size ≤ bx; omega)) _).setCell (.inr (by show w.heap.size ≤ b2; omega)) _
                        have hb1 := hbL.set k hz1b
                        have hb2 := hbM.set k hz2b
                        have hl1 : (L.set k z1).length = n := by rw [List.length_set]; exact HL.out
                        have hl2 : (M.set k z2).length = n := by rw [List.length_set]; exact HM.out
                        clear hW2 c1 c2 f1 f2 HC HBX HBY HL HM hbL hbM hz1 hz2
                        generalize L.set k z1 = L at *
                        generalize M.set k z2 = M at *
                        obtain ⟨o1, ho1⟩ : ∃ o, (intCells L)[k]? = some o := ⟨_, List.getElem?_eq_getElem (by simp [intCells]; omega)⟩
                        obtain ⟨o2, ho2⟩ : ∃ o, (intCells M)[k]? = some o := ⟨_, List.getElem?_eq_getElem (by simp [intCells]; omega)⟩
                        have c1 := hbx.cell ho1
                        have f1 := hbx.frozen (i := k)
                        have hby1 := hby.other (p := ⟨bx, k, none⟩) (by simpa using Ne.symm hne) (.int .i64 z3)
                        have c2 := hby1.cell ho2
                        have f2 := hby1.frozen (i := k)
                        have HC := Lib.hid hc2; clear hc2
                        have HBX := Lib.hid hbx; clear hbx
                        have HBY0 := Lib.hid hby; clear hby
                        have HBY := Lib.hid hby1; clear hby1
                        have HL := Lib.hid hl1; clear hl1
                        have HM := Lib.hid hl2; clear hl2
                        have hbig := HBIG.out
                        clear ho1 ho2
                        cases hb : big
                        · have d1 : decide ((5 : Int) < n) = false := by rw [← hbig, hb]
                          clear hbig
                          go_wp2_with fail
                          go_roundw
                          case rel => exact ⟨k + 1, L, M, by omega, by go_num, HC.out, HBX.out, HBY0.out, HL.out, HM.out, hb1, hb2⟩
                          case measure => simp [intOf]; omega
                        · have d1 : decide ((5 : Int) < n) = true := by rw [← hbig, hb]
                          clear hbig
                          have hz3 := HZ3.out
                          have hz4 := HZ4.out
                          go_wp2_with fail
                          go_roundw
                          case rel => exact ⟨k + 1, L.set k z3, M.set k z4, by omega, by go_num, (HC.out.setCell (.inr (by show w.heap.size ≤ bx; omega)) _).setCell (.inr (by show w.heap.size ≤ b2; omega)) _, (blk_set9 HBX.out z3).other (by simpa using hne) _, blk_set9 HBY.out z4, by rw [List.length_set]; exact HL.out, by rw [List.length_set]; exact HM.out, hb1.set k hz3b, hb2.set k hz4b⟩
                          case measure => simp [intOf]; omega
                      · obtain ⟨m, hm, hmn⟩ : ∃ m : Nat, (n : Int) / 2 = m ∧ m ≤ n := ⟨n / 2, by omega, by omega⟩
                        have HC := Lib.hid hc; clear hc
                        have HBX := Lib.hid hbx; clear hbx
                        have HBY := Lib.hid hby; clear hby
                        have HL := Lib.hid hL; clear hL
                        have HM := Lib.hid hM; clear hM
                        have HBL := Lib.hid hbL; clear hbL
                        have HBM := Lib.hid hbM; clear hbM
                        go_wp2_with fail
                        refine calls_named fun W hW => ?_
                        have hb : blk W wr.heap.size (mactVal ⟨kd, some ⟨bx, 0, none⟩, n, n, L, some ⟨b2, 0, none⟩, n, n, M, 77⟩) := by rw [hW]; exact blk.new' _ _ rfl
                        have hc1 : Ch [] wr W := by rw [hW]; exact (Ch.refl _ _).alloc _
                        clear hW
                        have gg := fun (W' : World) (h' : Ch [] wr W') (kd2 N2 : Nat) (hkd2 : kd2 ≤ 255) (hN2 : N2 < 4294967296) => (⟨⟨hN2, hkd2, HL.out, HM.out, HBL.out.wide, HBM.out.wide⟩, Sl.blk9 (HBX.out.ch h' (by simp)) (by rw [HL.out]; omega), Sl.blk9 (HBY.out.ch h' (by simp)) (by rw [HM.out]; omega)⟩ : GMA W' ⟨kd2, some ⟨bx, 0, none⟩, n, n, L, some ⟨b2, 0, none⟩, n, n, M, N2⟩)
                        have HGG := Lib.hid gg; clear gg
                        refine (one24 3000 14 (by omega) hb (HGG.out W hc1 kd 77 (by omega) (by omega)) (by show n ≤ 1000; omega) (by show n ≤ 1000; omega)).mono ?_
                        rintro e w2 ⟨rfl, hc2⟩
                        have HC2 := Lib.hid (hc1.trans hc2 (by simp)); clear hc1 hc2 hb
                        go_wp2_with fail
                        refine calls_named fun W hW => ?_
                        have hb : blk W w2.heap.size (mactVal ⟨kd, some ⟨bx, 0, none⟩, n, n, L, some ⟨b2, 0, none⟩, n, n, M, 3⟩ ++ mactVal ⟨0, some ⟨b2, 0, none⟩, n, n, M, some ⟨b2, 0, none⟩, n, n, M, 0⟩) := by rw [hW]; exact blk.new' _ _ rfl
                        have hc1 : Ch [] wr W := by rw [hW]; exact HC2.out.alloc _
                        clear hW
                        have sm := Sl.blk9 (HBY.out.ch hc1 (by simp)) (by rw [HM.out]; omega)
                        refine (two24 90 14 (by omega) hb (HGG.out W hc1 kd 3 (by omega) (by omega)) ⟨⟨by show 0 < 4294967296; omega, by show 0 ≤ 255; omega, HM.out, HM.out, HBM.out.wide, HBM.out.wide⟩, sm, sm⟩ (by show n ≤ 1000; omega) (by show n ≤ 1000; omega) (by show n ≤ 1000; omega) (by show n ≤ 1000; omega)).mono ?_
                        rintro e w3 ⟨rfl, hc2⟩
                        have HC3 := Lib.hid (hc1.trans hc2 (by simp)); clear hc1 hc2 hb HC2 sm
                        go_wp2_with fail
                        refine calls_named fun W hW => ?_
                        have hb : blk W w3.heap.size (mactVal ⟨kd, some ⟨bx, 0, none⟩, n, n, L, some ⟨b2, 0, none⟩, m, n, M.take m, 3⟩) := by rw [hW]; exact blk.new' _ _ rfl
                        have hc1 : Ch [] wr W := by rw [hW]; exact HC3.out.alloc _
                        clear hW
                        have sl := Sl.blk9 (HBX.out.ch hc1 (by simp)) (by rw [HL.out]; omega)
                        have sm := (Sl.blk9 (HBY.out.ch hc1 (by simp)) (by rw [HM.out]; omega)).take9 m
                        refine (one24 60 14 (by omega) hb ⟨⟨by show 3 < 4294967296; omega, by show kd ≤ 255; omega, HL.out, by show (M.take m).length = m; rw [List.length_take, HM.out]; omega, HBL.out.wide, HBM.out.wide.take m⟩, sl, sm⟩ (by show n ≤ 1000; omega) (by show m ≤ 1000; omega)).mono ?_
                        rintro e w4 ⟨rfl, hc2⟩
                        have HC4 := Lib.hid (hc1.trans hc2 (by simp)); clear hc1 hc2 hb HC3 sl sm
                        go_wp2_with fail
                        go_roundw
                        case rel => exact ⟨n + 1, by omega, by go_num, HC.out.trans HC4.out (by simp)⟩
                        case measure => simp [intOf]; omega
            · have HC := Lib.hid hc; clear hc
              go_wp2_with fail
              refine wp_alw ?_
              intro W1 hW1
              have hb := alw_blk (xs := intCells ends24) hW1
              have hc1 := HC.out.trans (alw_ch hW1) (by simp)
              clear hW1 HC
              generalize wr.heap.size = b7 at *
              have HB := Lib.hid hb; clear hb
              have HC := Lib.hid hc1; clear hc1
              go_loopw [150] (fun i wr => ∃ k : Nat, k ≤ 7 ∧ i = .int .i64 k ∧ Ch [] w wr ∧ Ch [] W1 wr) (fun i _ => 7 - (intOf i).toNat)
              case atStart => exact ⟨0, by omega, rfl, HC.out, Ch.refl _ _⟩
              case round =>
                obtain ⟨k, hk, rfl, hc, hcW⟩ := hrel
                clear HC
                by_cases hk7 : k < 7
                · have dk : decide ((k : Int) < 7) = true := decide_eq_true (by omega)
                  obtain ⟨z, hz⟩ : ∃ z, ends24[k]? = some z := ⟨_, List.getElem?_eq_getElem (show k < ends24.length from hk7)⟩
                  obtain ⟨hz1, hz2⟩ := ends24_bd z (List.mem_of_getElem? hz)
                  have hb := HB.out.ch hcW (by simp)
                  have c0 : wr.cell? ⟨b7, k, none⟩ = some (.int .i64 z) := hb.cell (by simp [intCells, hz])
                  clear hz hb
                  have HC := Lib.hid hc; clear hc
                  have HCW := Lib.hid hcW; clear hcW
                  go_wp2_with fail
                  refine calls_named fun W hW => ?_
                  have hb1 : blk W wr.heap.size (intCells [2, z]) := by rw [hW]; exact ((((((blk.new' _ _ rfl).alloc _).alloc _).alloc _).alloc _).alloc _).alloc _
                  have hb2 : blk W (wr.heap.size + 1) (intCells [4, 6]) := by rw [hW]; exact (((((blk.new' _ _ (by simp)).alloc _).alloc _).alloc _).alloc _).alloc _
                  have hb3 : blk W (wr.heap.size + 2) (intCells [2, 4]) := by rw [hW]; exact ((((blk.new' _ _ (by simp)).alloc _).alloc _).alloc _).alloc _
                  have hb4 : blk W (wr.heap.size + 3) (intCells [z, 6]) := by rw [hW]; exact (((blk.new' _ _ (by simp)).alloc _).alloc _).alloc _
                  have hb5 : blk W (wr.heap.size + 4) (intCells [z]) := by rw [hW]; exact ((blk.new' _ _ (by simp)).alloc _).alloc _
                  have hb6 : blk W (wr.heap.size + 5) (intCells [4, 6]) := by rw [hW]; exact (blk.new' _ _ (by simp)).alloc _
                  have hb7 : blk W (wr.heap.size + 6) (mactVal ⟨kd, some ⟨wr.heap.size, 0, none⟩, 2, 2, [2, z], some ⟨wr.heap.size + 1, 0, none⟩, 2, 2, [4, 6], 1⟩ ++ mactVal ⟨kd, some ⟨wr.heap.size + 2, 0, none⟩, 2, 2, [2, 4], some ⟨wr.heap.size + 3, 0, none⟩, 2, 2, [z, 6], 1⟩ ++ mactVal ⟨kd, some ⟨wr.heap.size + 4, 0, none⟩, 1, 1, [z], some ⟨wr.heap.size + 5, 0, none⟩, 2, 2, [4, 6], 1⟩) := by rw [hW]; exact blk.new' _ _ (by simp)
                  have hc1 : Ch [] wr W := by rw [hW]; exact (((((((Ch.refl _ _).alloc _).alloc _).alloc _).alloc _).alloc _).alloc _).alloc _
                  clear hW
                  have q1 : W64 [(2 : Int), z] := fun r hr => by simp at hr; omega
                  have q2 : W64 [(4 : Int), 6] := fun r hr => by simp at hr; omega
                  have q3 : W64 [(2 : Int), 4] := fun r hr => by simp at hr; omega
                  have q4 : W64 [z, (6 : Int)] := fun r hr => by simp at hr; omega
                  have q5 : W64 [z] := fun r hr => by simp at hr; omega
                  refine (three24 60 5 (by omega) hb7 ⟨⟨by show 1 < 4294967296; omega, by show kd ≤ 255; omega, rfl, rfl, q1, q2⟩, Sl.blk9 hb1 (by simp), Sl.blk9 hb2 (by simp)⟩ ⟨⟨by show 1 < 4294967296; omega, by show kd ≤ 255; omega, rfl, rfl, q3, q4⟩, Sl.blk9 hb3 (by simp), Sl.blk9 hb4 (by simp)⟩ ⟨⟨by show 1 < 4294967296; omega, by show kd ≤ 255; omega, rfl, rfl, q5, q2⟩, Sl.blk9 hb5 (by simp), Sl.blk9 hb6 (by simp)⟩ (by show 2 ≤ 1000; omega) (by show 2 ≤ 1000; omega) (by show 2 ≤ 1000; omega) (by show 2 ≤ 1000; omega) (by show 1 ≤ 1000; omega) (by show 2 ≤ 1000; omega)).mono ?_
                  rintro e w2 ⟨rfl, hc2⟩
                  have HC2 := Lib.hid (hc1.trans hc2 (by simp)); clear hc1 hc2 hb1 hb2 hb3 hb4 hb5 hb6 hb7 q1 q2 q3 q4 q5 c0
                  go_wp2_with fail
                  go_roundw
                  case rel => exact ⟨k + 1, by omega, by go_num, HC.out.trans HC2.out (by simp), HCW.out.trans HC2.out (by simp)⟩
                  case measure => simp [intOf]; omega
                · have HC := Lib.hid hc; clear hc hcW HB
                  go_wp2_with fail
                  refine wp_alw ?_
                  intro W2 hW2
                  have hbg : blk W2 wr.heap.size [.int .i64 0, .slice none 0 0, .map none, .slice none 0 0] := by rw [hW2]; exact (blk.new' _ _ (by simp)).alloc _
                  have hbp : blk W2 (wr.heap.size + 1) [.pointer none, .pointer (some ⟨wr.heap.size, 0, none⟩)] := by rw [hW2]; exact blk.new' _ _ (by simp)
                  have hc2 : Ch [] w W2 := by rw [hW2]; exact (HC.out.alloc _).alloc _
                  have HN1 := Lib.hid (nogr_nil W2)
                  have HN2 := Lib.hid (nogr_zero hbg)
                  clear hW2 hbg HC
                  have HBP := Lib.hid hbp; clear hbp
                  have HC := Lib.hid hc2; clear hc2
                  generalize wr.heap.size = B0 at *
                  go_loopw [178] (fun i wq => ∃ k : Nat, k ≤ 2 ∧ i = .int .i64 k ∧ Ch [] W2 wq) (fun i _ => 2 - (intOf i).toNat)
                  case atStart => exact ⟨0, by omega, rfl, Ch.refl _ _⟩
                  case round =>
                    obtain ⟨q, hq, rfl, hc⟩ := hrel
                    by_cases hq2 : q < 2
                    · obtain ⟨v, hv, hn⟩ : ∃ v, [Value.pointer none, Value.pointer (some ⟨B0, 0, none⟩)][q]? = some (.pointer v) ∧ NoGr W2 (.pointer v) := by
                        rcases (by omega : q = 0 ∨ q = 1) with e | e
                        · subst e; exact ⟨_, rfl, HN1.out⟩
                        · subst e; exact ⟨_, rfl, HN2.out⟩
                      have c0 := (HBP.out.ch hc (by simp)).cell hv
                      have HN := Lib.hid hn; clear hn hv
                      have dq : decide ((q : Int) < 2) = true := decide_eq_true (by omega)
                      have HCW := Lib.hid hc; clear hc
                      go_wp2_with fail
                      refine calls_named fun W hW => ?_
                      have hc : Ch [] wr W := by rw [hW]; repeat (first | exact Ch.refl _ _ | refine Ch.alloc ?_ _)
                      clear hW
                      have hcw := HCW.out.trans hc (by simp)
                      refine (program24_none (HN.out.ch hcw) kd hk6 _ 1).mono ?_
                      rintro e w3 ⟨rfl, hc3⟩
                      have HC3 := Lib.hid (hcw.trans hc3 (by simp)); clear hc3 hc hcw
                      go_wp2_with fail
                      go_roundw
                      case rel => exact ⟨q + 1, by omega, by go_num, HC3.out⟩
                      case measure => simp [intOf]; omega
                    · have HCW := Lib.hid hc; clear hc
                      go_wp2_with fail
                      go_roundw
                      case rel => exact ⟨kd + 1, by omega, by go_num, HC.out.trans HCW.out (by simp)⟩
                      case measure => simp [intOf]; omega
    · have HC := Lib.hid hc; clear hc
      go_wp2_with fail
      refine (HAW.out _).mono ?_
      rintro e w3 ⟨rfl, hc3⟩
      have HC3 := Lib.hid hc3; clear hc3
      go_wp2_with fail
      go_ret
      exact ⟨rfl, HC.out.trans HC3.out (by simp)⟩
end
end Go.Proofs.YtehljgigebhddaaGreat
