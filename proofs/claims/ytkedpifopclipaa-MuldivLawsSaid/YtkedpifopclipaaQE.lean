/-
  Reads of words for values of the inputs; the values of the inputs of chapter 23's law; slices.Clone of numbers. Conditions: a graph in memory, words of 1 to 16 bits.
  Walk over the chapter's examples (awake of muldiv): true. Conditions: none.
  Of constants everything is a constant, plainly: what the operations of sums make of words of constants, and the numbers that these are. No program in sight. Conditions: none beyond the hypotheses.
  What SumsIs asks, plainly: for words of one to five bits, all assignments at once, by evaluation. No program in sight. Conditions: none beyond the hypotheses.
  Walk over slices.Equal of words; the functions of sim as steps of a walk that holds slices. Conditions: slices that can be read.
  Walk over slices.Clone of words; words fitted to as many as inputs; what the nodes are for words of the inputs, node by node. Conditions: a slice that can be read.
  What tables, counts and first assignments are, plainly, for the laws of chapter 21. Conditions: none beyond the hypotheses.
  Nothing parts two references, out of the words for all assignments. No program in sight. Conditions: none beyond the hypotheses.
  What MuldivLaws asks, plainly: for words of one to four bits, all assignments at once, by evaluation. No program in sight. Conditions: none beyond the hypotheses.
  The facts of MuldivLaws as they are used along its walk. No program in sight. Conditions: none beyond the hypotheses.
  What parts two references, or, and: as steps of a walk that holds words. Conditions: none beyond the hypotheses.
  Walk over MuldivLaws: true, whatever comes in. Conditions: none.
-/
import Derived.Test.YtkedpifopclipaaQD
namespace Go.Aig
end Go.Aig
namespace Go.Proofs.Ytkedpifopclipaa
open Go.RowKit Go.Mem Go.Aig
section
variable {w : World} {g : Nat} {G : Gra} {F : List Nat}
set_option maxRecDepth 100000 in
set_option maxHeartbeats 2000000 in
theorem ReadsW_is (h : GIn w g G F) {a : Option Addr} {l : List Int} {m c : Nat} (hm : l.length = m) (hL : Sl w a l) (hbd : ∀ r ∈ l, -9223372036854775808 ≤ r ∧ r ≤ 9223372036854775807) {xa : Option Addr} {ins : List Bool} {k xc : Nat} (hk : ins.length = k) (hI : Sb w xa ins) (hkl : k ≤ 1000) {B : List Bool} (hR : bitsR G ins l = (B, 0)) (hB : B.length = m) (h1 : 1 ≤ m) (h16 : m ≤ 16) :
    Calls Try.prog 117 #[.pointer (some ⟨g, 0, none⟩), .slice a m c, .slice xa k xc] w fun e w' => e = .returned (.tuple #[.int .u32 (bitsVal B), .bool true]) ∧ Ch [] w w' := by
  have HB := simBits_is h (xa := xa) (ins := ins) k xc hk hI (by omega) m c hm hL hbd (by omega)
  rw [hR] at HB
  have HV := fun (W : World) (ba : Option Addr) (bc : Nat) (hS : Sb W ba B) => sValue_is (w := W) (x := ⟨a, l, c⟩) (by show l.length ≤ _; omega) bc (by omega) hS
  simp only [WV.val, hB, hm, h1, h16, and_self, if_true] at HV
  clear hI hL
  go_enter Try.func117, Try.ntmps117
  go_wp2_with fail
  refine HB.mono ?_
  rintro e w1 ⟨v, rfl, hrow, hown, hch⟩
  obtain ⟨ba, bc, rfl⟩ := hrow.parts (by show 0 < B.length; omega)
  have hS : Sb w1 (some ⟨ba, 0, none⟩) B := row.sv hrow rfl (by show B.length ≤ _; omega)
  simp only [hB]
  go_wp2_with fail
  refine (HV w1 _ bc hS).mono ?_
  rintro e w2 ⟨rfl, rfl⟩
  go_wp2_with fail
  go_ret2
  exact ⟨rfl, hch⟩
end
theorem givenA_snoc (n m a b k : Nat) (hk : k < n) : (givenL n m a b).take (k + 1) = (givenL n m a b).take k ++ [a.testBit k] := by
  rw [List.take_add_one]
  congr 1
  unfold givenL
  rw [List.getElem?_append_left (by simpa using hk), List.getElem?_map, List.getElem?_range hk]
  rfl
theorem givenB_snoc (n m a b k : Nat) (hk : k < m) : (givenL n m a b).take (n + k + 1) = (givenL n m a b).take (n + k) ++ [b.testBit k] := by
  rw [List.take_add_one]
  congr 1
  unfold givenL
  rw [List.getElem?_append_right (by simp), List.getElem?_map]
  simp only [List.length_map, List.length_range, Nat.add_sub_cancel_left]
  rw [List.getElem?_range hk]
  rfl
set_option maxRecDepth 100000 in
set_option maxHeartbeats 4000000 in
theorem Given_is {w : World} (n a b : Nat) (hn : n ≤ 60) (ha : a ≤ 1000000) (hb : b ≤ 1000000) :
    Calls Try.prog 118 #[.int .i64 n, .int .i64 a, .int .i64 b] w fun e w' => ∃ v, e = .returned v ∧ row w' 4 1 v (n + n) (bools (givenL n n a b)) ∧ (∀ q ∈ v.ownBlock.toList, w.heap.size ≤ q) ∧ Ch [] w w' := by
  have HS1 := Lib.hid (givenA_snoc n n a b)
  have HS2 := Lib.hid (givenB_snoc n n a b)
  have hlen := givenL_len n n a b
  obtain ⟨GL, hGL⟩ : ∃ GL, GL = givenL n n a b := ⟨_, rfl⟩
  rw [← hGL] at HS1 HS2 hlen ⊢
  clear hGL
  go_enter Try.func118, Try.ntmps118
  go_wp2_with fail
  go_loopw [7, 11] (fun o i wr => ∃ s : Nat, s ≤ n ∧ i = .int .i64 s ∧ Ch [] w wr ∧ row wr 4 1 o s (bools (GL.take s)) ∧ ∀ q ∈ o.ownBlock.toList, w.heap.size ≤ q) (fun _ i _ => n - (intOf i).toNat)
  case atStart => exact ⟨0, by omega, rfl, Ch.refl _ _, ⟨rfl, .inl ⟨rfl, rfl⟩⟩, by simp⟩
  case round =>
    obtain ⟨s, hs, rfl, hc, hrow, hlo⟩ := hrel
    obtain ⟨oa, oc, rfl⟩ := row.shape hrow
    have HROW := Lib.hid hrow; clear hrow
    by_cases hlt2 : s < n
    · have hsn := HS1.out s hlt2
      have hbit := bit_i64 a s (by omega)
      rw [← Nat.testBit_eq_decide_div_mod_eq] at hbit
      have HC2 := Lib.hid hc; clear hc
      have HLO := Lib.hid hlo; clear hlo
      generalize a.testBit s = tb' at hsn hbit
      have hcA : Ch [] wr (wr.alloc (.cells #[.bool tb'] 4)) := (Ch.refl _ _).alloc _
      have hrA := HROW.out.ch hcA (by simp)
      have hbA : blk (wr.alloc (.cells #[.bool tb'] 4)) wr.heap.size [.bool tb'] := blk.new' _ _ rfl
      have HSU := Lib.hid hsn; clear hsn
      have HRA := Lib.hid hrA; clear hrA
      have HBA := Lib.hid hbA; clear hbA
      have HCA := Lib.hid hcA; clear hcA
      go_wp2_with (at_builtin; go_loud (refine wpList_append_row slBools rfl _ _ rfl (v := .slice oa s oc) (n := s) (xs := bools (GL.take s)) rfl HRA.out (ad := ⟨wr.heap.size, 0, none⟩) (m := 1) (c := 1) (news := [.bool tb']) rfl rfl (news_blk HBA.out) (by simp [Value.oneCell']) (by omega) (by omega) ?_; intro v' w5 hown4 hC4 hf4; have HO4 := Lib.hid hown4; clear hown4; have HCC4 := Lib.hid hC4; clear hC4; have HF4 := Lib.hid hf4; clear hf4))
      go_roundw
      case rel =>
        obtain ⟨q1, q2⟩ := app_step HC2.out HCA.out HLO.out HCC4.out HF4.out
        refine ⟨s + 1, by omega, by go_num, q1, ?_, q2⟩
        rw [HSU.out, show bools (GL.take s ++ [tb']) = bools (GL.take s) ++ [.bool tb'] by simp [bools]]
        exact HO4.out
      case measure => simp [intOf]; omega
    · have hsn : s = n := by omega
      subst hsn
      have HC1 := Lib.hid hc; clear hc
      have HLO1 := Lib.hid hlo; clear hlo
      obtain ⟨wo, hwo⟩ : ∃ wo, wo = wr := ⟨_, rfl⟩
      subst hwo
      go_wp2_with fail
      go_loopw [7, 24] (fun o i wr => ∃ t : Nat, t ≤ s ∧ i = .int .i64 t ∧ Ch [] w wr ∧ row wr 4 1 o (s + t) (bools (GL.take (s + t))) ∧ ∀ q ∈ o.ownBlock.toList, w.heap.size ≤ q) (fun _ i _ => s - (intOf i).toNat)
      case atStart => exact ⟨0, by omega, rfl, HC1.out, HROW.out, HLO1.out⟩
      case round =>
        clear HROW HC1 HLO1
        obtain ⟨t, ht, rfl, hc, hrow, hlo⟩ := hrel
        obtain ⟨oa, oc, rfl⟩ := row.shape hrow
        have HROW := Lib.hid hrow; clear hrow
        by_cases hlt3 : t < s
        · have hsn := HS2.out t hlt3
          have hbit := bit_i64 b t (by omega)
          rw [← Nat.testBit_eq_decide_div_mod_eq] at hbit
          have HC2 := Lib.hid hc; clear hc
          have HLO := Lib.hid hlo; clear hlo
          generalize b.testBit t = tb' at hsn hbit
          have hcA : Ch [] wr (wr.alloc (.cells #[.bool tb'] 4)) := (Ch.refl _ _).alloc _
          have hrA := HROW.out.ch hcA (by simp)
          have hbA : blk (wr.alloc (.cells #[.bool tb'] 4)) wr.heap.size [.bool tb'] := blk.new' _ _ rfl
          have HSU := Lib.hid hsn; clear hsn
          have HRA := Lib.hid hrA; clear hrA
          have HBA := Lib.hid hbA; clear hbA
          have HCA := Lib.hid hcA; clear hcA
          go_wp2_with (at_builtin; go_loud (refine wpList_append_row slBools rfl _ _ rfl (v := .slice oa (s + t) oc) (n := s + t) (xs := bools (GL.take (s + t))) rfl HRA.out (ad := ⟨wr.heap.size, 0, none⟩) (m := 1) (c := 1) (news := [.bool tb']) rfl rfl (news_blk HBA.out) (by simp [Value.oneCell']) (by omega) (by omega) ?_; intro v' w5 hown4 hC4 hf4; have HO4 := Lib.hid hown4; clear hown4; have HCC4 := Lib.hid hC4; clear hC4; have HF4 := Lib.hid hf4; clear hf4))
          go_roundw
          case rel =>
            obtain ⟨q1, q2⟩ := app_step HC2.out HCA.out HLO.out HCC4.out HF4.out
            refine ⟨t + 1, by omega, by go_num, q1, ?_, q2⟩
            rw [show s + (t + 1) = s + t + 1 by omega, HSU.out, show bools (GL.take (s + t) ++ [tb']) = bools (GL.take (s + t)) ++ [.bool tb'] by simp [bools]]
            exact HO4.out
          case measure => simp [intOf]; omega
        · have htm : t = s := by omega
          subst htm
          have hrow := HROW.out
          rw [List.take_of_length_le (by omega)] at hrow
          have HR := Lib.hid hrow; clear hrow HROW
          have HC2 := Lib.hid hc; clear hc
          have HLO := Lib.hid hlo; clear hlo
          go_wp2_with fail
          go_ret
          exact ⟨_, rfl, HR.out, HLO.out, HC2.out⟩
end Go.Proofs.Ytkedpifopclipaa
namespace Go.Proofs.Ytkedpifopclipaa
open Go.RowKit Go.Mem Go.Aig
def ma0 : Gra := ⟨4000, [⟨1, 0, 0, 0⟩, ⟨2, 0, 0, 0⟩, ⟨2, 0, 0, 0⟩, ⟨2, 0, 0, 0⟩, ⟨2, 0, 0, 0⟩]⟩
def ma1 : Gra := (mulG ma0 (natInts [2, 4]) (natInts [6, 8])).1
theorem zeros_new (w : World) (n : Nat) (hn : n ≤ 1000000) : WNew w (.slice (some ⟨w.heap.size, 0, none⟩) n n) (intCells (List.replicate n 0)) (w.alloc (.cells (refsCells (List.replicate n 0)).toArray 45)) := by
  have e : intCells (List.replicate n 0) = refsCells (List.replicate n 0) := by simp [intCells, refsCells]
  have h := row_fresh (w := w) (l := List.replicate n 0) (n := n) rfl (by simp) hn
  rw [e] at h
  rw [e]
  exact ⟨by simpa [refsCells] using h, by simp [Value.ownBlock], (Ch.refl _ _).alloc _⟩
theorem Hold.zeros {w0 : Base} {w : World} {g : Nat} {G : Gra} {F : List Nat} {L : List (Value × List Int)} (h : Hold w0 w g G F L) (n : Nat) (hn : n ≤ 1000000) : Hold w0 (w.alloc (.cells (refsCells (List.replicate n 0)).toArray 45)) g G F ((.slice (some ⟨w.heap.size, 0, none⟩) n n, List.replicate n 0) :: L) := by
  obtain ⟨a, c, e, ho⟩ := h.new (zeros_new w n hn) (fun r hr => by rw [(List.mem_replicate.1 hr).2]; omega) (by simpa using hn)
  rw [← e] at ho
  exact ho
/-- the words of the examples, read for the assignments -/
theorem reads24 : ∀ k, k < 4 → bitsR ma1 (givenL 2 2 k 0) (natInts [1, 1]) = ([true, true], 0) ∧ (bitsR ma1 (givenL 2 2 k 0) (natInts [2, 4])).2 = 0 ∧ (bitsR ma1 (givenL 2 2 k 0) (natInts [2, 4])).1.length = 2 ∧ bitsVal (bitsR ma1 (givenL 2 2 k 0) (natInts [2, 4])).1 = k := by
  intro k hk
  have : k = 0 ∨ k = 1 ∨ k = 2 ∨ k = 3 := by omega
  rcases this with rfl | rfl | rfl | rfl <;> decide +kernel
section
set_option maxRecDepth 100000 in
set_option maxHeartbeats 8000000 in
theorem awake24_is (w : World) : Calls Try.prog 48 #[] w fun e w' => e = .returned (.bool true) ∧ Ch [] w w' := by
  have hP := Pair_is w 1 (by omega)
  rw [show (1 : Nat) % 5 + 1 = 2 from rfl, show gIn 4000 (2 * 2) = ma0 from rfl, show rIn 2 2 = [6, 8] from rfl, show rIn 0 2 = [2, 4] from rfl] at hP
  have HP := Lib.hid hP; clear hP
  go_enter Try.func48, Try.ntmps48
  go_wp2_with fail
  refine HP.out.mono ?_
  rintro e w1 ⟨g, F1, a1, c1, a2, c2, rfl, ho⟩
  have HO := Lib.hid ho; clear ho HP
  go_wp2_with fail
  refine (mdMul_h HO.out (xa := a1) (xc := c1) (n := 2) (xl := natInts [2, 4]) (by simp) rfl (ya := a2) (yc := c2) (m := 2) (yl := natInts [6, 8]) (by simp) rfl (G' := ma1) (l := [10, 21]) (e := 0) (k := 2) (by kernel_rfl) rfl (by decide) (by decide)).mono ?_
  rintro e w2 ⟨a3, c3, F3, rfl, ho⟩
  clear HO; have HO := Lib.hid ho; clear ho
  have hx := HO.out.sl (a := a1) (c := c1) (n := 2) (l := natInts [2, 4]) (by simp) rfl
  have hy := HO.out.sl (a := a2) (c := c2) (n := 2) (l := natInts [6, 8]) (by simp) rfl
  obtain ⟨xb, xo, rfl, cx⟩ := hx.cells 0 2 rfl
  obtain ⟨yb, yo, rfl, cy⟩ := hy.cells 0 6 rfl
  rw [Nat.add_zero] at cx cy
  clear hx hy
  go_wp2_with fail
  refine Ord.St.door (fun _ => True) [.fl, .fl, .fl, .rd, .fl, .fl, .rd, .ef, .fl, .fl, .fl, .fl, .fl] [0, 0, 2, 6, 0, 16, 48, 127, 255, 511, 511, 1023, 4095] [0, 1, 2, 3, 4, 5, 6, 7, 8, 9, 10, 11, 12] mixed (by kernel_rfl) rfl ?_
  obtain ⟨Wc, hWc⟩ : ∃ Wc, Wc = w2.drew := ⟨_, rfl⟩
  rw [← hWc]
  have hcur : Ch [] w2 Wc := by rw [hWc]; exact (Ch.refl _ _).drew
  clear hWc
  have ho := HO.out.same hcur
  replace cx := (hcur.cell (cell_lt cx) (by simp)).trans cx
  replace cy := (hcur.cell (cell_lt cy) (by simp)).trans cy
  clear HO; have HO := Lib.hid ho; clear ho hcur
  refine Ord.St.fl2 (T' := ?_) 0 [1, 2, 3, 4, 5, 6, 7, 8, 9, 10, 11, 12] _ _ rfl (by kernel_rfl) rfl rfl rfl rfl (fun K w' hk => ?_) ?_
  rotate_left
  · go_step; exact hk
  refine Ord.St.fl2 (T' := ?_) 1 [2, 3, 4, 5, 6, 7, 8, 9, 10, 11, 12] _ _ rfl (by kernel_rfl) rfl rfl rfl rfl (fun K w' hk => ?_) ?_
  rotate_left
  · go_step; exact hk
  refine Ord.St.fl2 (T' := ?_) 2 [3, 4, 5, 6, 7, 8, 9, 10, 11, 12] _ _ rfl (by kernel_rfl) rfl rfl rfl rfl (fun K w' hk => ?_) ?_
  rotate_left
  · go_step; exact hk
  refine Ord.St.rd2 (T' := ?_) 3 [4, 5, 6, 7, 8, 9, 10, 11, 12] _ _ rfl (by kernel_rfl) rfl rfl rfl rfl (fun K hk => ?_) ?_
  rotate_left
  · go_step; exact hk
  refine Ord.St.fl2 (T' := ?_) 4 [5, 6, 7, 8, 9, 10, 11, 12] _ _ rfl (by kernel_rfl) rfl rfl rfl rfl (fun K w' hk => ?_) ?_
  rotate_left
  · go_step; exact hk
  refine Ord.St.fl2 (T' := ?_) 5 [6, 7, 8, 9, 10, 11, 12] _ _ rfl (by kernel_rfl) rfl rfl rfl rfl (fun K w' hk => ?_) ?_
  rotate_left
  · go_step; exact hk
  refine Ord.St.rd2 (T' := ?_) 6 [7, 8, 9, 10, 11, 12] _ _ rfl (by kernel_rfl) rfl rfl rfl rfl (fun K hk => ?_) ?_
  rotate_left
  · go_step; exact hk
  refine Ord.St.ef 7 [8, 9, 10, 11, 12] _ rfl (by kernel_rfl) (fun K hK => ?_)
  go_wp2_with fail
  refine (And_h HO.out 2 6 (by decide) (by decide) (G' := ma1) (r := 10) (e := 0) (by kernel_rfl)).mono ?_
  rintro e w9 ⟨F4, rfl, ho⟩
  clear HO cx cy; have HO := Lib.hid ho; clear ho
  go_wp2_with fail
  refine ⟨rfl, hK _ _ ?_⟩; clear hK K
  refine Ord.St.fl2 (T' := ?_) 8 [9, 10, 11, 12] _ _ rfl (by kernel_rfl) rfl rfl rfl rfl (fun K w' hk => ?_) ?_
  rotate_left
  · go_step; exact hk
  refine Ord.St.fl2 (T' := ?_) 9 [10, 11, 12] _ _ rfl (by kernel_rfl) rfl rfl rfl rfl (fun K w' hk => ?_) ?_
  rotate_left
  · go_step; exact hk
  refine Ord.St.fl2 (T' := ?_) 10 [11, 12] _ _ rfl (by kernel_rfl) rfl rfl rfl rfl (fun K w' hk => ?_) ?_
  rotate_left
  · go_step; exact hk
  refine Ord.St.fl2 (T' := ?_) 11 [12] _ _ rfl (by kernel_rfl) rfl rfl rfl rfl (fun K w' hk => ?_) ?_
  rotate_left
  · go_step; exact hk
  refine Ord.St.fl2 (T' := ?_) 12 [] _ _ rfl (by kernel_rfl) rfl rfl rfl rfl (fun K w' hk => ?_) ?_
  rotate_left
  · go_step; exact hk
  refine Ord.St.nil ?_
  go_wp2_with fail
  refine (Len_h HO.out (n := 11) (by kernel_rfl)).mono ?_
  rintro e w10 ⟨rfl, ho⟩
  clear HO; have HO := Lib.hid ho; clear ho
  go_wp2_with fail
  refine (mdTimes_h HO.out (xa := some ⟨xb, xo, none⟩) (xc := c1) (n := 2) (xl := natInts [2, 4]) (by simp) rfl 1 (by decide) (G' := ma1) (l := [2, 4]) (e := 0) (k := 2) (by kernel_rfl) rfl (by decide) (by decide)).mono ?_
  rintro e w11 ⟨a4, c4, F5, rfl, ho⟩
  clear HO; have HO := Lib.hid ho; clear ho
  go_wp2_with fail
  refine (mdTimes_h HO.out (xa := some ⟨xb, xo, none⟩) (xc := c1) (n := 2) (xl := natInts [2, 4]) (by simp) rfl 2 (by decide) (G' := ma1) (l := [0, 2]) (e := 0) (k := 2) (by kernel_rfl) rfl (by decide) (by decide)).mono ?_
  rintro e w12 ⟨a5, c5, F6, rfl, ho⟩
  clear HO; have HO := Lib.hid ho; clear ho
  have h3 := HO.out.sl (a := a3) (c := c3) (n := 2) (l := natInts [10, 21]) (by simp) rfl
  obtain ⟨pb, po, rfl, cp⟩ := h3.cells 0 10 rfl
  rw [Nat.add_zero] at cp
  clear h3
  go_wp2_with fail
  refine (Eqref_h HO.out (xa := a4) (xc := c4) (n := 2) (xl := natInts [2, 4]) (by simp) rfl (ya := some ⟨xb, xo, none⟩) (yc := c1) (m := 2) (yl := natInts [2, 4]) (by simp) rfl (q := true) (by decide)).mono ?_
  rintro e w13 ⟨rfl, ho⟩
  clear HO; have HO := Lib.hid ho; clear ho
  go_wp2_with fail
  have ho := HO.out.same ((Ch.refl [] w13).alloc (.cells #[.int .i64 0, .int .i64 2] 45))
  clear HO; have HO := Lib.hid ho; clear ho
  refine (Eqref_c HO.out (xa := a5) (xc := c5) (n := 2) (xl := natInts [0, 2]) (by simp) rfl (b := w13.heap.size) (m := 2) (ys := [0, 2]) (blk.new' _ _ rfl) rfl (by decide) (q := true) (by decide)).mono ?_
  rintro e w14 ⟨rfl, ho⟩
  clear HO; have HO := Lib.hid ho; clear ho
  go_wp2_with fail
  refine (Len_h HO.out (n := 11) (by kernel_rfl)).mono ?_
  rintro e w15 ⟨rfl, ho⟩
  clear HO; have HO := Lib.hid ho; clear ho
  go_wp2_with fail
  refine (sConst_h HO.out 0 (by decide) 2 rfl).mono ?_
  rintro e w16 ⟨a6, c6, rfl, ho⟩
  clear HO; have HO := Lib.hid ho; clear ho
  rw [show constL 0 2 = [0, 0] from rfl] at HO
  go_wp2_with fail
  refine (mdBoth_h HO.out (xa := some ⟨xb, xo, none⟩) (xc := c1) (n := 2) (xl := natInts [2, 4]) (by simp) rfl (ya := a6) (yc := c6) (m := 2) (yl := natInts [0, 0]) (by simp) rfl (G' := ma1) (l1 := [1, 1]) (l2 := [2, 4]) (e := 0) (k1 := 2) (k2 := 2) (by kernel_rfl) rfl rfl (by decide) (by decide) (by decide) (by decide)).mono ?_
  rintro e w17 ⟨a7, c7, a8, c8, F7, rfl, ho⟩
  clear HO; have HO := Lib.hid ho; clear ho
  go_wp2_with fail
  go_loopw [127] (fun i wr => ∃ k : Nat, k ≤ 4 ∧ i = .int .i64 k ∧ Ch [] w17 wr) (fun i _ => 4 - (intOf i).toNat)
  case atStart => exact ⟨0, by omega, rfl, Ch.refl _ _⟩
  case round =>
    obtain ⟨k, hk, rfl, hc⟩ := hrel
    by_cases hk4 : k < 4
    · obtain ⟨r1, r2, r3, r4⟩ := reads24 k hk4
      have r2' : bitsR ma1 (givenL 2 2 k 0) (natInts [2, 4]) = ((bitsR ma1 (givenL 2 2 k 0) (natInts [2, 4])).1, 0) := Prod.ext rfl r2
      have hg1 := Given_is (w := wr) 2 k 0 (by omega) (by omega) (by omega)
      have HG1 := Lib.hid hg1; clear hg1
      have HC := Lib.hid hc; clear hc
      go_wp2_with fail
      refine HG1.out.mono ?_
      rintro e v1 ⟨gv, rfl, hrow, _, hc1⟩
      obtain ⟨ga, gc, rfl⟩ := row.shape hrow
      have hgl := givenL_len 2 2 k 0
      have hsb : Sb v1 ga (givenL 2 2 k 0) := row.sv hrow rfl (by omega)
      have hcc := HC.out.trans hc1 (by simp)
      have ho1 := HO.out.same hcc
      have hR := ReadsW_is ho1.own.gin (a := a7) (l := natInts [1, 1]) (m := 2) (c := c7) rfl (ho1.sl (a := a7) (c := c7) (n := 2) (l := natInts [1, 1]) (by simp) rfl) (ho1.at (a := a7) (n := 2) (c := c7) (l := natInts [1, 1]) (by simp) rfl).ok.bd (xa := ga) (ins := givenL 2 2 k 0) (k := 2 + 2) (xc := gc) hgl hsb (by omega) r1 rfl (by omega) (by omega)
      have HCC := Lib.hid hcc; clear hcc hc1 ho1 hsb hrow
      have HR := Lib.hid hR; clear hR
      go_wp2_with fail
      refine HR.out.mono ?_
      rintro e v2 ⟨rfl, hc2⟩
      have HC2 := Lib.hid (HCC.out.trans hc2 (by simp)); clear hc2
      have hg2 := Given_is (w := v2) 2 k 0 (by omega) (by omega) (by omega)
      have HG2 := Lib.hid hg2; clear hg2
      go_wp2_with fail
      refine HG2.out.mono ?_
      rintro e v3 ⟨gv, rfl, hrow, _, hc3⟩
      obtain ⟨ga2, gc2, rfl⟩ := row.shape hrow
      have hsb : Sb v3 ga2 (givenL 2 2 k 0) := row.sv hrow rfl (by omega)
      have hcc := HC2.out.trans hc3 (by simp)
      have ho1 := HO.out.same hcc
      have hR := ReadsW_is ho1.own.gin (a := a8) (l := natInts [2, 4]) (m := 2) (c := c8) rfl (ho1.sl (a := a8) (c := c8) (n := 2) (l := natInts [2, 4]) (by simp) rfl) (ho1.at (a := a8) (n := 2) (c := c8) (l := natInts [2, 4]) (by simp) rfl).ok.bd (xa := ga2) (ins := givenL 2 2 k 0) (k := 2 + 2) (xc := gc2) hgl hsb (by omega) r2' r3 (by omega) (by omega)
      rw [r4] at hR
      have HC3 := Lib.hid hcc; clear hcc hc3 ho1 hsb hrow
      have HR2 := Lib.hid hR; clear hR
      go_wp2_with fail
      refine HR2.out.mono ?_
      rintro e v4 ⟨rfl, hc4⟩
      have HC4 := Lib.hid (HC3.out.trans hc4 (by simp)); clear hc4
      go_wp2_with fail
      go_roundw
      case rel => exact ⟨k + 1, by omega, by go_num, HC4.out⟩
      case measure => simp [intOf]; omega
    · have ho := HO.out.same hc
      clear HO; have HO := Lib.hid ho; clear ho hc
      go_wp2_with fail
      refine (sConst_h HO.out 7 (by decide) 4 rfl).mono ?_
      rintro e w41 ⟨a9, c9, rfl, ho⟩
      clear HO; have HO := Lib.hid ho; clear ho
      rw [show constL 7 4 = [1, 1, 1, 0] from rfl] at HO
      go_wp2_with fail
      refine (sConst_h HO.out 2 (by decide) 4 rfl).mono ?_
      rintro e w42 ⟨a10, c10, rfl, ho⟩
      clear HO; have HO := Lib.hid ho; clear ho
      rw [show constL 2 4 = [0, 1, 0, 0] from rfl] at HO
      go_wp2_with fail
      refine (mdBoth_h HO.out (xa := a9) (xc := c9) (n := 4) (xl := natInts [1, 1, 1, 0]) (by simp) rfl (ya := a10) (yc := c10) (m := 4) (yl := natInts [0, 1, 0, 0]) (by simp) rfl (G' := ma1) (l1 := [1, 1, 0, 0]) (l2 := [1, 0, 0, 0]) (e := 0) (k1 := 4) (k2 := 4) (by kernel_rfl) rfl rfl (by decide) (by decide) (by decide) (by decide)).mono ?_
      rintro e w43 ⟨a11, c11, a12, c12, F8, rfl, ho⟩
      clear HO; have HO := Lib.hid ho; clear ho
      have hmk : ∀ W : World, (Instr.makeSlice 28 (.int .i64 17) (.int .i64 17)).run Try.prog W = .ok (.slice (some ⟨W.heap.size, 0, none⟩) 17 17) (W.alloc (.cells (refsCells (List.replicate 17 0)).toArray 45)) := fun W => run_make_refs W 17 (by omega)
      go_wp2_with fail
      refine Ord.St.door (fun _ => True) [.fl, .ef, .ef, .ef, .fl, .fl, .fl, .fl] [0, 0, 0, 7, 15, 31, 31, 127] [0, 1, 2, 3, 4, 5, 6, 7] mixed (by kernel_rfl) rfl ?_
      obtain ⟨Wc, hWc⟩ : ∃ Wc, Wc = w43.drew := ⟨_, rfl⟩
      rw [← hWc]
      have hcur : Ch [] w43 Wc := by rw [hWc]; exact (Ch.refl _ _).drew
      clear hWc
      have ho := HO.out.same hcur
      clear HO; have HO := Lib.hid ho; clear ho hcur
      refine Ord.St.fl2 (T' := ?_) 0 [1, 2, 3, 4, 5, 6, 7] _ _ rfl (by kernel_rfl) rfl rfl rfl rfl (fun K w' hk => ?_) ?_
      rotate_left
      · go_step; exact hk
      refine Ord.St.two 1 2 [2, 3, 4, 5, 6, 7] [1, 3, 4, 5, 6, 7] _ _ (by kernel_rfl) rfl rfl (by kernel_rfl) (by kernel_rfl) (fun K hK => ?_) (fun K hK => ?_)
      · go_wp2_with fail
        refine ⟨rfl, hK _ _ ?_ ?_⟩
        · trivial
        clear hK K
        refine Ord.St.ef 2 [3, 4, 5, 6, 7] _ rfl (by kernel_rfl) (fun K hK => ?_)
        go_wp2_with fail
        refine ⟨rfl, hK _ _ ?_⟩; clear hK K
        refine Ord.St.ef 3 [4, 5, 6, 7] _ rfl (by kernel_rfl) (fun K hK => ?_)
        have ho := (HO.out.zeros 17 (by omega)).zeros 17 (by omega)
        simp only [World.size_alloc] at ho
        clear HO; have HO := Lib.hid ho; clear ho
        go_wp2_with fail
        refine (mdMul_h HO.out (xl := List.replicate 17 0) (yl := List.replicate 17 0) (by simp) (by simp) (by simp) (by simp) (G' := ma1) (l := []) (e := 240) (k := 0) (by kernel_rfl) rfl (by simp) (by omega)).mono ?_
        rintro e w60 ⟨a13, c13, F9, rfl, ho⟩
        clear HO; have HO := Lib.hid ho; clear ho
        go_wp2_with fail
        refine ⟨rfl, hK _ _ ?_⟩; clear hK K
        refine Ord.St.fl2 (T' := ?_) 4 [5, 6, 7] _ _ rfl (by kernel_rfl) rfl rfl rfl rfl (fun K w' hk => ?_) ?_
        rotate_left
        · go_step; exact hk
        refine Ord.St.fl2 (T' := ?_) 5 [6, 7] _ _ rfl (by kernel_rfl) rfl rfl rfl rfl (fun K w' hk => ?_) ?_
        rotate_left
        · go_step; exact hk
        refine Ord.St.fl2 (T' := ?_) 6 [7] _ _ rfl (by kernel_rfl) rfl rfl rfl rfl (fun K w' hk => ?_) ?_
        rotate_left
        · go_step; exact hk
        refine Ord.St.fl2 (T' := ?_) 7 [] _ _ rfl (by kernel_rfl) rfl rfl rfl rfl (fun K w' hk => ?_) ?_
        rotate_left
        · go_step; exact hk
        refine Ord.St.nil ?_
        go_wp2_with fail
        have ho := HO.out.same ((Ch.refl [] w60).alloc (.cells #[.int .i64 1, .int .i64 1, .int .i64 0, .int .i64 0] 45))
        clear HO; have HO := Lib.hid ho; clear ho
        refine (Eqref_c HO.out (xa := a11) (xc := c11) (n := 4) (xl := natInts [1, 1, 0, 0]) (by simp) rfl (b := w60.heap.size) (m := 4) (ys := [1, 1, 0, 0]) (blk.new' _ _ rfl) rfl (by decide) (q := true) (by decide)).mono ?_
        rintro e w61 ⟨rfl, ho⟩
        clear HO; have HO := Lib.hid ho; clear ho
        go_wp2_with fail
        have ho := HO.out.same ((Ch.refl [] w61).alloc (.cells #[.int .i64 1, .int .i64 0, .int .i64 0, .int .i64 0] 45))
        clear HO; have HO := Lib.hid ho; clear ho
        refine (Eqref_c HO.out (xa := a12) (xc := c12) (n := 4) (xl := natInts [1, 0, 0, 0]) (by simp) rfl (b := w61.heap.size) (m := 4) (ys := [1, 0, 0, 0]) (blk.new' _ _ rfl) rfl (by decide) (q := true) (by decide)).mono ?_
        rintro e w62 ⟨rfl, ho⟩
        clear HO; have HO := Lib.hid ho; clear ho
        go_wp2_with fail
        go_ret
        exact ⟨rfl, HO.out.ch⟩
      · go_wp2_with fail
        refine ⟨rfl, hK _ _ ?_ ?_⟩
        · trivial
        clear hK K
        refine Ord.St.ef 1 [3, 4, 5, 6, 7] _ rfl (by kernel_rfl) (fun K hK => ?_)
        go_wp2_with fail
        refine ⟨rfl, hK _ _ ?_⟩; clear hK K
        refine Ord.St.ef 3 [4, 5, 6, 7] _ rfl (by kernel_rfl) (fun K hK => ?_)
        have ho := (HO.out.zeros 17 (by omega)).zeros 17 (by omega)
        simp only [World.size_alloc] at ho
        clear HO; have HO := Lib.hid ho; clear ho
        go_wp2_with fail
        refine (mdMul_h HO.out (xl := List.replicate 17 0) (yl := List.replicate 17 0) (by simp) (by simp) (by simp) (by simp) (G' := ma1) (l := []) (e := 240) (k := 0) (by kernel_rfl) rfl (by simp) (by omega)).mono ?_
        rintro e w60 ⟨a13, c13, F9, rfl, ho⟩
        clear HO; have HO := Lib.hid ho; clear ho
        go_wp2_with fail
        refine ⟨rfl, hK _ _ ?_⟩; clear hK K
        refine Ord.St.fl2 (T' := ?_) 4 [5, 6, 7] _ _ rfl (by kernel_rfl) rfl rfl rfl rfl (fun K w' hk => ?_) ?_
        rotate_left
        · go_step; exact hk
        refine Ord.St.fl2 (T' := ?_) 5 [6, 7] _ _ rfl (by kernel_rfl) rfl rfl rfl rfl (fun K w' hk => ?_) ?_
        rotate_left
        · go_step; exact hk
        refine Ord.St.fl2 (T' := ?_) 6 [7] _ _ rfl (by kernel_rfl) rfl rfl rfl rfl (fun K w' hk => ?_) ?_
        rotate_left
        · go_step; exact hk
        refine Ord.St.fl2 (T' := ?_) 7 [] _ _ rfl (by kernel_rfl) rfl rfl rfl rfl (fun K w' hk => ?_) ?_
        rotate_left
        · go_step; exact hk
        refine Ord.St.nil ?_
        go_wp2_with fail
        have ho := HO.out.same ((Ch.refl [] w60).alloc (.cells #[.int .i64 1, .int .i64 1, .int .i64 0, .int .i64 0] 45))
        clear HO; have HO := Lib.hid ho; clear ho
        refine (Eqref_c HO.out (xa := a11) (xc := c11) (n := 4) (xl := natInts [1, 1, 0, 0]) (by simp) rfl (b := w60.heap.size) (m := 4) (ys := [1, 1, 0, 0]) (blk.new' _ _ rfl) rfl (by decide) (q := true) (by decide)).mono ?_
        rintro e w61 ⟨rfl, ho⟩
        clear HO; have HO := Lib.hid ho; clear ho
        go_wp2_with fail
        have ho := HO.out.same ((Ch.refl [] w61).alloc (.cells #[.int .i64 1, .int .i64 0, .int .i64 0, .int .i64 0] 45))
        clear HO; have HO := Lib.hid ho; clear ho
        refine (Eqref_c HO.out (xa := a12) (xc := c12) (n := 4) (xl := natInts [1, 0, 0, 0]) (by simp) rfl (b := w61.heap.size) (m := 4) (ys := [1, 0, 0, 0]) (blk.new' _ _ rfl) rfl (by decide) (q := true) (by decide)).mono ?_
        rintro e w62 ⟨rfl, ho⟩
        clear HO; have HO := Lib.hid ho; clear ho
        go_wp2_with fail
        go_ret
        exact ⟨rfl, HO.out.ch⟩
end
end Go.Proofs.Ytkedpifopclipaa
namespace Go.Aig
def cp (p : Bool × Bool) : Nat × Nat := (p.1.toNat, p.2.toNat)
end Go.Aig
namespace Go.Aig
/-- bit k is bit i of k, for k below 2^N -/
def pat : Nat → Nat → Nat
  | 0, _ => 0
  | N + 1, i => if i = N then 2 ^ 2 ^ N * (2 ^ 2 ^ N - 1) else 2 ^ 2 ^ N * pat N i + pat N i
theorem pow_pow_succ (N : Nat) : 2 ^ 2 ^ (N + 1) = 2 ^ 2 ^ N * 2 ^ 2 ^ N := by rw [← Nat.pow_add]; congr 1; rw [Nat.pow_succ]; omega
theorem pat_lt : ∀ N i : Nat, pat N i < 2 ^ 2 ^ N
  | 0, _ => by unfold pat; decide
  | N + 1, i => by
    have ih := pat_lt N i
    rw [pow_pow_succ]
    unfold pat
    have hp : 0 < 2 ^ 2 ^ N := Nat.two_pow_pos _
    generalize 2 ^ 2 ^ N = P at *
    obtain ⟨Q, rfl⟩ : ∃ Q, P = Q + 1 := ⟨P - 1, by omega⟩
    split
    · rw [Nat.add_sub_cancel]
      exact Nat.mul_lt_mul_of_pos_left (by omega) hp
    · have := Nat.mul_le_mul_left (Q + 1) (show pat N i ≤ Q by omega)
      rw [Nat.mul_add]
      omega
theorem pat_bit : ∀ N i k : Nat, i < N → k < 2 ^ N → (pat N i).testBit k = k.testBit i
  | 0, i, k, hi, _ => by omega
  | N + 1, i, k, hi, hk => by
    rw [Nat.pow_succ] at hk
    have hlt := pat_lt N i
    unfold pat
    split
    · rename_i e
      subst e
      rw [Nat.testBit_two_pow_mul, Nat.testBit_two_pow_sub_one]
      by_cases h : 2 ^ i ≤ k
      · rw [decide_eq_true h, decide_eq_true (by omega), show k = 2 ^ i * 1 + (k - 2 ^ i) by omega, Nat.testBit_two_pow_mul_add _ (by omega), if_neg (by omega)]
        simp
      · rw [decide_eq_false h, Nat.testBit_lt_two_pow (by omega)]
        simp
    · rename_i e
      rw [Nat.testBit_two_pow_mul_add _ hlt]
      split
      · rename_i h
        exact pat_bit N i k (by omega) h
      · rename_i h
        rw [pat_bit N i (k - 2 ^ N) (by omega) (by omega)]
        conv => rhs; rw [show k = 2 ^ N * 1 + (k - 2 ^ N) by omega, Nat.testBit_two_pow_mul_add _ (by omega), if_pos (by omega)]
def pats (N : Nat) : List Nat := (List.range N).map (pat N)
/-- the words of the nodes, for all assignments of N inputs at once -/
def allV (N : Nat) (ns : List Nd) : List Nat := (wvF (2 ^ 2 ^ N - 1) (pats N) ns).1
theorem pats_bit {N k : Nat} (hk : k < 2 ^ N) : (fun i => ((pats N).getD i 0).testBit k) = asg N k := by
  funext i
  unfold pats asg
  rw [List.getD_eq_getElem?_getD, List.getElem?_map]
  by_cases hi : i < N
  · rw [List.getElem?_range hi, decide_eq_true hi, Bool.true_and]
    exact pat_bit N i k hi hk
  · rw [List.getElem?_eq_none (by simp; omega), decide_eq_false hi, Bool.false_and]
    simp
theorem allV_bit {N k : Nat} (hk : k < 2 ^ N) (ns : List Nd) (r : Nat) : (wref (2 ^ 2 ^ N - 1) (allV N ns) r).testBit k = bv (asg N k) ns r := by
  unfold allV
  rw [wv_bv hk, pats_bit hk]
end Go.Aig
namespace Go.Proofs.Ytkedpifopclipaa
open Go.RowKit Go.Mem Go.Aig
section
variable {w : World}
end
/-- what is known along a walk that changes no graph: the graph, and slices that are held -/
structure HS (w0 w : World) (g : Nat) (G : Gra) (F : List Nat) (L : List (Option Addr × List Value)) : Prop where
  own : Own w0 w g G F
  held : ∀ p ∈ L, Sv w p.1 p.2
section
variable {w0 w : World} {g : Nat} {G : Gra} {F : List Nat} {L : List (Option Addr × List Value)}
end
end Go.Proofs.Ytkedpifopclipaa
namespace Go.Aig
end Go.Aig
namespace Go.Proofs.Ytkedpifopclipaa
open Go.RowKit Go.Mem Go.Aig
theorem eqSliceNilW (w : World) (a : Option Addr) (n c : Nat) : (binOp .eql 182 (.slice a n c) (.slice none 0 0)).run Try.prog w = .ok (.bool a.isNone) w := by
  have h : Try.prog.underlying 182 = some (.slice 183) := Try.underlying182
  simp only [binOp]
  simp [run_equal_slice_nil w _ _ a n c h]
attribute [local go_sem] eqSliceNilW
section
variable {w : World}
end
end Go.Proofs.Ytkedpifopclipaa
namespace Go.Aig
theorem tabE_zero {G : Gra} {l : List Nat} (hr : ∀ r ∈ l, r < 2 * G.nodes.length) (hk : (inputs G.nodes).length ≤ 16) : Go.Proofs.Ytkedpifopclipaa.tabE G (natInts l) = 0 := by
  have hb : badIn G (natInts l) = false := by
    unfold badIn natInts
    rw [List.any_map, List.any_eq_false]
    intro r h
    have := hr r h
    simp [right]
    omega
  unfold Go.Proofs.Ytkedpifopclipaa.tabE
  rw [hb, if_neg (by simp), if_neg (by omega)]
theorem parts_ok {G : Gra} {r s k : Nat} (hr : r < 2 * G.nodes.length) (hs : s < 2 * G.nodes.length) (hk : (inputs G.nodes).length = k) (h16 : k ≤ 16) : Go.Proofs.Ytkedpifopclipaa.partsG G (r : Int) (s : Int) = (firstR k (tellX G.nodes k r s), 0) := by
  have h := tabE_zero (G := G) (l := [r, s]) (by intro x hx; simp only [List.mem_cons, List.not_mem_nil, or_false] at hx; rcases hx with rfl | rfl <;> assumption) (by omega)
  unfold Go.Proofs.Ytkedpifopclipaa.partsG
  rw [show [(r : Int), (s : Int)] = natInts [r, s] from rfl, h, if_pos rfl, hk]
  rfl
end Go.Aig
namespace Go.Proofs.Ytkedpifopclipaa
open Go.RowKit Go.Mem Go.Aig
end Go.Proofs.Ytkedpifopclipaa
namespace Go.Aig
def addG (G : Gra) (x y : List Int) : Gra × List Nat × Nat := wordG G [x, y] (sumW x.length (G, 0) ((nats x).zip (nats y)) 0)
/-- nothing parts two references, out of the words for all assignments -/
theorem parts_no {G : Gra} {N r s : Nat} (hi : (inputs G.nodes).length = N) (h16 : N ≤ 16) (hr : r < 2 * G.nodes.length) (hs : s < 2 * G.nodes.length)
    (hw : wref (2 ^ 2 ^ N - 1) (allV N G.nodes) r = wref (2 ^ 2 ^ N - 1) (allV N G.nodes) s) : Go.Proofs.Ytkedpifopclipaa.partsG G (r : Int) (s : Int) = (([], false), 0) := by
  rw [parts_ok hr hs hi h16]
  have : firstV N (tellX G.nodes N r s) = none := firstV_none.2 fun a ha => by
    unfold tellX
    rw [← allV_bit ha, ← allV_bit ha, hw, Bool.xor_self]
  unfold firstR
  rw [this]
def noP (N : Nat) (G : Gra) (V : List Nat) (r s : Nat) : Bool := decide (r < 2 * G.nodes.length) && decide (s < 2 * G.nodes.length) && wref (2 ^ 2 ^ N - 1) V r == wref (2 ^ 2 ^ N - 1) V s
theorem noP_parts {N : Nat} {G : Gra} {r s : Nat} (hi : (inputs G.nodes).length = N) (h16 : N ≤ 16) (h : noP N G (allV N G.nodes) r s = true) : Go.Proofs.Ytkedpifopclipaa.partsG G (r : Int) (s : Int) = (([], false), 0) := by
  unfold noP at h
  simp only [Bool.and_eq_true, decide_eq_true_eq, beq_iff_eq] at h
  exact parts_no hi h16 h.1.1 h.1.2 h.2
def okW (n : Nat) (A : Gra × List Nat × Nat) : Bool := A.2.2 == 0 && A.2.1.length == n && A.2.1.all fun r => decide (r ≤ 1000000)
theorem okW_is {n : Nat} {A : Gra × List Nat × Nat} (h : okW n A = true) : A.2.2 = 0 ∧ A.2.1.length = n ∧ ∀ q ∈ A.2.1, q ≤ 1000000 := by
  unfold okW at h
  simp only [Bool.and_eq_true, beq_iff_eq] at h
  exact ⟨h.1.1, h.1.2, fun q hq => of_decide_eq_true (List.all_eq_true.1 h.2 q hq)⟩
theorem noP_lt {N : Nat} {G : Gra} {V : List Nat} {r s : Nat} (h : noP N G V r s = true) : r < 2 * G.nodes.length ∧ s < 2 * G.nodes.length := by
  unfold noP at h
  simp only [Bool.and_eq_true, decide_eq_true_eq, beq_iff_eq] at h
  exact h.1
end Go.Aig
namespace Go.Aig
def okB (n : Nat) (A : Gra × (List Nat × List Nat) × Nat) : Bool := A.2.2 == 0 && A.2.1.1.length == n && A.2.1.2.length == n && (A.2.1.1.all fun r => decide (r ≤ 1000000)) && A.2.1.2.all fun r => decide (r ≤ 1000000)
theorem okB_is {n : Nat} {A : Gra × (List Nat × List Nat) × Nat} (h : okB n A = true) : A.2.2 = 0 ∧ A.2.1.1.length = n ∧ A.2.1.2.length = n ∧ (∀ q ∈ A.2.1.1, q ≤ 1000000) ∧ ∀ q ∈ A.2.1.2, q ≤ 1000000 := by
  unfold okB at h
  simp only [Bool.and_eq_true, beq_iff_eq, List.all_eq_true, decide_eq_true_eq] at h
  exact ⟨h.1.1.1.1, h.1.1.1.2, h.1.1.2, h.1.2, h.2⟩
def eqR (G : Gra) (x y : List Int) : Res := negG (refG G [x, y] (neF (G, 0) ((nats x).zip (nats y))))
def mlB (n : Nat) : Bool :=
  let X := natInts (rIn 0 n)
  let Y := natInts (rIn n n)
  let B0 := bothG (gIn 4000 (2 * n)) X Y
  let A1 := mulG B0.1 (natInts B0.2.1.1) Y
  let A2 := addG A1.1 (natInts A1.2.1) (natInts B0.2.1.2)
  let E1 := eqR A2.1 (natInts A2.2.1) X
  let E2 := refG E1.1 [natInts B0.2.1.2, Y] (ltF (E1.1, 0) ((nats (natInts B0.2.1.2)).zip (nats Y)))
  let E3 := refG E2.1 [Y] (sAny (E2.1, 0) (nats Y))
  let E4 := Go.Proofs.Ytkedpifopclipaa.doAnd E3.1 E1.2.1 E2.2.1
  let A3 := mulG E4.1 X Y
  let A4 := mulG A3.1 Y X
  let E5 := Go.Proofs.Ytkedpifopclipaa.doOr A4.1 E4.2.1 (neg E3.2.1)
  let E6 := eqR E5.1 (natInts A3.2.1) (natInts A4.2.1)
  let A5 := addG E6.1 X X
  let A6 := mulG A5.1 (natInts A5.2.1) Y
  let A7 := addG A6.1 (natInts A3.2.1) (natInts A3.2.1)
  let E7 := eqR A7.1 (natInts A6.2.1) (natInts A7.2.1)
  let V := allV (2 * n) E7.1.nodes
  okB n B0 && okW n A1 && okW n A2 && okW n A3 && okW n A4 && okW n A5 && okW n A6 && okW n A7 && E1.2.2 == 0 && E2.2.2 == 0 && E3.2.2 == 0 && E4.2.2 == 0 && E5.2.2 == 0 && E6.2.2 == 0 && E7.2.2 == 0 && (inputs E7.1.nodes).length == 2 * n && noP (2 * n) E7.1 V E5.2.1 1 && noP (2 * n) E7.1 V E1.2.1 1 && noP (2 * n) E7.1 V E6.2.1 1 && noP (2 * n) E7.1 V E7.2.1 1 && decide (E7.1.nodes.length ≤ 4000) && decide (E2.2.1 ≤ 8000) && decide (E3.2.1 ≤ 8000) && decide (E4.2.1 ≤ 8000)
set_option maxRecDepth 100000 in
theorem ml_1 : mlB 1 = true := by decide +kernel
set_option maxRecDepth 100000 in
theorem ml_2 : mlB 2 = true := by decide +kernel
set_option maxRecDepth 100000 in
theorem ml_3 : mlB 3 = true := by decide +kernel
set_option maxRecDepth 100000 in
theorem ml_4 : mlB 4 = true := by decide +kernel
theorem ml_all {n : Nat} (h1 : 1 ≤ n) (h4 : n ≤ 4) : mlB n = true := by
  rcases (by omega : n = 1 ∨ n = 2 ∨ n = 3 ∨ n = 4) with rfl | rfl | rfl | rfl
  · exact ml_1
  · exact ml_2
  · exact ml_3
  · exact ml_4
end Go.Aig
namespace Go.Aig
structure MlF (n : Nat) (G : Nat → Gra) (l : Nat → List Nat) (r : Nat → Nat) : Prop where
  b0 : bothG (gIn 4000 (2 * n)) (natInts (rIn 0 n)) (natInts (rIn n n)) = (G 1, (l 8, l 9), 0)
  a1 : mulG (G 1) (natInts (l 8)) (natInts (rIn n n)) = (G 2, l 1, 0)
  a2 : addG (G 2) (natInts (l 1)) (natInts (l 9)) = (G 3, l 2, 0)
  e1 : eqR (G 3) (natInts (l 2)) (natInts (rIn 0 n)) = (G 4, r 1, 0)
  e2 : refG (G 4) [natInts (l 9), natInts (rIn n n)] (ltF ((G 4), 0) ((nats (natInts (l 9))).zip (nats (natInts (rIn n n))))) = (G 5, r 2, 0)
  e3 : refG (G 5) [natInts (rIn n n)] (sAny ((G 5), 0) (nats (natInts (rIn n n)))) = (G 6, r 3, 0)
  e4 : Go.Proofs.Ytkedpifopclipaa.doAnd (G 6) (r 1 : Nat) (r 2 : Nat) = (G 7, r 4, 0)
  a3 : mulG (G 7) (natInts (rIn 0 n)) (natInts (rIn n n)) = (G 8, l 3, 0)
  a4 : mulG (G 8) (natInts (rIn n n)) (natInts (rIn 0 n)) = (G 9, l 4, 0)
  e5 : Go.Proofs.Ytkedpifopclipaa.doOr (G 9) (r 4 : Nat) (neg (r 3) : Nat) = (G 10, r 5, 0)
  e6 : eqR (G 10) (natInts (l 3)) (natInts (l 4)) = (G 11, r 6, 0)
  a5 : addG (G 11) (natInts (rIn 0 n)) (natInts (rIn 0 n)) = (G 12, l 5, 0)
  a6 : mulG (G 12) (natInts (l 5)) (natInts (rIn n n)) = (G 13, l 6, 0)
  a7 : addG (G 13) (natInts (l 3)) (natInts (l 3)) = (G 14, l 7, 0)
  e7 : eqR (G 14) (natInts (l 6)) (natInts (l 7)) = (G 15, r 7, 0)
  len : ∀ k, 1 ≤ k → k ≤ 9 → (l k).length = n ∧ ∀ q ∈ l k, q ≤ 1000000
  p : ∀ i, i < 4 → Go.Proofs.Ytkedpifopclipaa.partsG (G 15) ([r 5, r 1, r 6, r 7].getD i 0 : Nat) ((1 : Nat) : Int) = (([], false), 0)
  rb : ∀ k, k ≤ 7 → r k ≤ 8000
set_option maxRecDepth 10000 in
theorem ml_facts {n : Nat} (h1 : 1 ≤ n) (h4 : n ≤ 4) : ∃ G l r, MlF n G l r := by
  have h := ml_all h1 h4
  unfold mlB at h
  dsimp only at h
  generalize hB0 : bothG (gIn 4000 (2 * n)) (natInts (rIn 0 n)) (natInts (rIn n n)) = B0 at h
  generalize hA1 : mulG B0.1 (natInts B0.2.1.1) (natInts (rIn n n)) = A1 at h
  generalize hA2 : addG A1.1 (natInts A1.2.1) (natInts B0.2.1.2) = A2 at h
  generalize hE1 : eqR A2.1 (natInts A2.2.1) (natInts (rIn 0 n)) = E1 at h
  generalize hE2 : refG E1.1 [natInts B0.2.1.2, natInts (rIn n n)] (ltF (E1.1, 0) ((nats (natInts B0.2.1.2)).zip (nats (natInts (rIn n n))))) = E2 at h
  generalize hE3 : refG E2.1 [natInts (rIn n n)] (sAny (E2.1, 0) (nats (natInts (rIn n n)))) = E3 at h
  generalize hE4 : Go.Proofs.Ytkedpifopclipaa.doAnd E3.1 (E1.2.1 : Nat) (E2.2.1 : Nat) = E4 at h
  generalize hA3 : mulG E4.1 (natInts (rIn 0 n)) (natInts (rIn n n)) = A3 at h
  generalize hA4 : mulG A3.1 (natInts (rIn n n)) (natInts (rIn 0 n)) = A4 at h
  generalize hE5 : Go.Proofs.Ytkedpifopclipaa.doOr A4.1 (E4.2.1 : Nat) (neg E3.2.1 : Nat) = E5 at h
  generalize hE6 : eqR E5.1 (natInts A3.2.1) (natInts A4.2.1) = E6 at h
  generalize hA5 : addG E6.1 (natInts (rIn 0 n)) (natInts (rIn 0 n)) = A5 at h
  generalize hA6 : mulG A5.1 (natInts A5.2.1) (natInts (rIn n n)) = A6 at h
  generalize hA7 : addG A6.1 (natInts A3.2.1) (natInts A3.2.1) = A7 at h
  generalize hE7 : eqR A7.1 (natInts A6.2.1) (natInts A7.2.1) = E7 at h
  simp only [Bool.and_eq_true] at h
  obtain ⟨⟨⟨⟨⟨⟨⟨⟨⟨⟨⟨⟨⟨⟨⟨⟨⟨⟨⟨⟨⟨⟨⟨w0, w1⟩, w2⟩, w3⟩, w4⟩, w5⟩, w6⟩, w7⟩, x1⟩, x2⟩, x3⟩, x4⟩, x5⟩, x6⟩, x7⟩, i1⟩, q1⟩, q2⟩, q3⟩, q4⟩, hm⟩, hr2⟩, hr3⟩, hr4⟩ := h
  have v0 := okB_is w0
  clear w0
  have v1 := okW_is w1
  clear w1
  have v2 := okW_is w2
  clear w2
  have v3 := okW_is w3
  clear w3
  have v4 := okW_is w4
  clear w4
  have v5 := okW_is w5
  clear w5
  have v6 := okW_is w6
  clear w6
  have v7 := okW_is w7
  clear w7
  simp only [beq_iff_eq] at i1 x1 x2 x3 x4 x5 x6 x7
  have hm := of_decide_eq_true hm
  have hr2 := of_decide_eq_true hr2
  have hr3 := of_decide_eq_true hr3
  have hr4 := of_decide_eq_true hr4
  have t1 := noP_lt q1
  have t2 := noP_lt q2
  have t3 := noP_lt q3
  have t4 := noP_lt q4
  have q1 := noP_parts i1 (by omega) q1
  have q2 := noP_parts i1 (by omega) q2
  have q3 := noP_parts i1 (by omega) q3
  have q4 := noP_parts i1 (by omega) q4
  obtain ⟨G0, ⟨l8, l9⟩, f0⟩ := B0
  obtain ⟨GA1, l1, f1⟩ := A1
  obtain ⟨GE1, r1, y1⟩ := E1
  obtain ⟨GA2, l2, f2⟩ := A2
  obtain ⟨GE2, r2, y2⟩ := E2
  obtain ⟨GA3, l3, f3⟩ := A3
  obtain ⟨GE3, r3, y3⟩ := E3
  obtain ⟨GA4, l4, f4⟩ := A4
  obtain ⟨GE4, r4, y4⟩ := E4
  obtain ⟨GA5, l5, f5⟩ := A5
  obtain ⟨GE5, r5, y5⟩ := E5
  obtain ⟨GA6, l6, f6⟩ := A6
  obtain ⟨GE6, r6, y6⟩ := E6
  obtain ⟨GA7, l7, f7⟩ := A7
  obtain ⟨GE7, r7, y7⟩ := E7
  simp only at *
  obtain rfl := v0.1
  obtain rfl := v1.1
  subst x1
  obtain rfl := v2.1
  subst x2
  obtain rfl := v3.1
  subst x3
  obtain rfl := v4.1
  subst x4
  obtain rfl := v5.1
  subst x5
  obtain rfl := v6.1
  subst x6
  obtain rfl := v7.1
  subst x7
  refine ⟨fun k => [gIn 4000 (2 * n), G0, GA1, GA2, GE1, GE2, GE3, GE4, GA3, GA4, GE5, GE6, GA5, GA6, GA7, GE7].getD k G0, fun k => [[], l1, l2, l3, l4, l5, l6, l7, l8, l9].getD k [], fun k => [0, r1, r2, r3, r4, r5, r6, r7].getD k 0, ?_⟩
  refine ⟨hB0, hA1, hA2, hE1, hE2, hE3, hE4, hA3, hA4, hE5, hE6, hA5, hA6, hA7, hE7, fun k k1 k9 => ?_, fun i hi => ?_, fun k hk => ?_⟩
  · rcases (by omega : k = 1 ∨ k = 2 ∨ k = 3 ∨ k = 4 ∨ k = 5 ∨ k = 6 ∨ k = 7 ∨ k = 8 ∨ k = 9) with rfl | rfl | rfl | rfl | rfl | rfl | rfl | rfl | rfl
    · exact v1.2
    · exact v2.2
    · exact v3.2
    · exact v4.2
    · exact v5.2
    · exact v6.2
    · exact v7.2
    · exact ⟨v0.2.1, v0.2.2.2.1⟩
    · exact ⟨v0.2.2.1, v0.2.2.2.2⟩
  · rcases (by omega : i = 0 ∨ i = 1 ∨ i = 2 ∨ i = 3) with rfl | rfl | rfl | rfl
    · exact q1
    · exact q2
    · exact q3
    · exact q4
  · rcases (by omega : k = 0 ∨ k = 1 ∨ k = 2 ∨ k = 3 ∨ k = 4 ∨ k = 5 ∨ k = 6 ∨ k = 7) with rfl | rfl | rfl | rfl | rfl | rfl | rfl | rfl
    · show 0 ≤ 8000; omega
    · show r1 ≤ 8000; omega
    · first | exact hr2 | exact of_decide_eq_true hr2
    · first | exact hr3 | exact of_decide_eq_true hr3
    · first | exact hr4 | exact of_decide_eq_true hr4
    · show r5 ≤ 8000; omega
    · show r6 ≤ 8000; omega
    · show r7 ≤ 8000; omega
end Go.Aig
namespace Go.Proofs.Ytkedpifopclipaa
open Go.RowKit Go.Mem Go.Aig
section
variable {w0 : Base} {w : World} {g : Nat} {G : Gra} {F : List Nat} {L : List (Value × List Int)}
theorem simParts_l (h : Hold w0 w g G F L) (r s : Nat) (hr : r ≤ 1000000) (hs : s ≤ 1000000) (hR : partsG G (r : Int) (s : Int) = (([], false), 0)) :
    Calls Try.prog 71 #[.pointer (some ⟨g, 0, none⟩), .int .i64 r, .int .i64 s] w fun en w' => ∃ a c, en = .returned (.tuple #[.slice a 0 c, .bool false, .int .i64 0]) ∧ Hold w0 w' g G F L := by
  have H := simParts_is h.own.gin r s (by omega) (by omega)
  rw [hR] at H
  refine H.mono ?_
  rintro en w' ⟨v, rfl, hrow, _, hc⟩
  obtain ⟨a, c, rfl⟩ := row.shape hrow
  exact ⟨a, c, rfl, h.same hc⟩
theorem Or_h (h : Hold w0 w g G F L) (a b : Nat) (ba : a ≤ 1000000) (bb : b ≤ 1000000) {G' : Gra} {r e : Nat} (hR : doOr G (a : Int) (b : Int) = (G', r, e)) :
    Calls Try.prog 70 #[.pointer (some ⟨g, 0, none⟩), .int .i64 a, .int .i64 b] w fun en w' => ∃ F', en = .returned (.tuple #[.int .i64 r, .int .i64 e]) ∧ Hold w0 w' g G' F' L := Calls.ref h (Or_g h.own.gin a b (by omega) (by omega)) hR
theorem And_n (h : Hold w0 w g G F L) (a b : Nat) (ba : a ≤ 1000000) (bb : b ≤ 1000000) {G' : Gra} {r e : Nat} (hR : doAnd G (a : Int) (b : Int) = (G', r, e)) :
    Calls Try.prog 69 #[.pointer (some ⟨g, 0, none⟩), .int .i64 a, .int .i64 b] w fun en w' => ∃ F', en = .returned (.tuple #[.int .i64 r, .int .i64 e]) ∧ Hold w0 w' g G' F' L := Calls.ref h (And_g h.own.gin a b (by omega) (by omega)) hR
end
end Go.Proofs.Ytkedpifopclipaa
namespace Go.Proofs.Ytkedpifopclipaa
open Go.RowKit Go.Mem Go.Aig
set_option maxRecDepth 100000 in
set_option maxHeartbeats 8000000 in
theorem MuldivLaws_walk {w : World} (wd : Nat) (hw : wd ≤ 255) : Calls Try.prog 12 #[.int .u8 wd] w fun e w' => e = .returned (.bool true) ∧ Ch [] w w' := by
  obtain ⟨v, hv⟩ : ∃ v, wd % 4 = v := ⟨_, rfl⟩
  obtain ⟨n, hn, hn1, hn4⟩ : ∃ n, v + 1 = n ∧ 1 ≤ n ∧ n ≤ 4 := ⟨_, rfl, by omega, by omega⟩
  have HP := fun W => Pair_is W v (by omega)
  rw [show v % 5 + 1 = n by omega] at HP
  have hq : (wd : Int) % 4 = (v : Int) := by omega
  have HA := fun W => awake24_is W
  obtain ⟨GG, l, r, hf⟩ := ml_facts hn1 hn4
  have HF := Lib.hid hf; clear hf
  have hr1 := HF.out.rb 1 (by decide)
  have hr2 := HF.out.rb 2 (by decide)
  have hr3 := HF.out.rb 3 (by decide)
  have hr4 := HF.out.rb 4 (by decide)
  have hng : neg (r 3) ≤ 8001 := by unfold neg; split <;> omega
  have HNG := Lib.hid (fun W => Not_any (r 3) W (by omega))
  clear hn hv
  go_enter Try.func12, Try.ntmps12
  go_wp2_with fail
  refine (HA _).mono ?_
  rintro e w1 ⟨rfl, hc1⟩
  have HC1 := Lib.hid hc1; clear hc1
  go_wp2_with fail
  refine (HP _).mono ?_
  rintro e w2 ⟨g, F2, xa, xc, ya, yc, rfl, ho⟩
  have HO := Lib.hid ho; clear ho HP HA hq
  have HMX := Lib.hid (show (Value.slice xa n xc, (natInts (rIn 0 n))) ∈ [(Value.slice ya n yc, (natInts (rIn n n))), (Value.slice xa n xc, (natInts (rIn 0 n)))] from List.mem_cons_of_mem _ (List.mem_cons_self ..))
  have HMY := Lib.hid (show (Value.slice ya n yc, (natInts (rIn n n))) ∈ [(Value.slice ya n yc, (natInts (rIn n n))), (Value.slice xa n xc, (natInts (rIn 0 n)))] from List.mem_cons_self ..)
  go_wp2_with fail
  refine (mdBoth_h HO.out (xa := xa) (xc := xc) (n := n) (xl := (natInts (rIn 0 n))) HMX.out (by simp) (ya := ya) (yc := yc) (m := n) (yl := (natInts (rIn n n))) HMY.out (by simp) (G' := GG 1) (l1 := l 8) (l2 := l 9) (e := 0) (k1 := n) (k2 := n) HF.out.b0 (HF.out.len 8 (by decide) (by decide)).1 (HF.out.len 9 (by decide) (by decide)).1 (HF.out.len 8 (by decide) (by decide)).2 (HF.out.len 9 (by decide) (by decide)).2 (by omega) (by omega)).mono ?_
  rintro e w3 ⟨a8, c8, a9, c9, F8, rfl, ho⟩
  clear HO; have HO := Lib.hid ho; clear ho
  clear HMX
  have HMX := Lib.hid (show (Value.slice xa n xc, (natInts (rIn 0 n))) ∈ [(Value.slice a9 n c9, (natInts (l 9))), (Value.slice a8 n c8, (natInts (l 8))), (Value.slice ya n yc, (natInts (rIn n n))), (Value.slice xa n xc, (natInts (rIn 0 n)))] from List.mem_cons_of_mem _ (List.mem_cons_of_mem _ (List.mem_cons_of_mem _ (List.mem_cons_self ..))))
  clear HMY
  have HMY := Lib.hid (show (Value.slice ya n yc, (natInts (rIn n n))) ∈ [(Value.slice a9 n c9, (natInts (l 9))), (Value.slice a8 n c8, (natInts (l 8))), (Value.slice ya n yc, (natInts (rIn n n))), (Value.slice xa n xc, (natInts (rIn 0 n)))] from List.mem_cons_of_mem _ (List.mem_cons_of_mem _ (List.mem_cons_self ..)))
  have HM8 := Lib.hid (show (Value.slice a8 n c8, (natInts (l 8))) ∈ [(Value.slice a9 n c9, (natInts (l 9))), (Value.slice a8 n c8, (natInts (l 8))), (Value.slice ya n yc, (natInts (rIn n n))), (Value.slice xa n xc, (natInts (rIn 0 n)))] from List.mem_cons_of_mem _ (List.mem_cons_self ..))
  have HM9 := Lib.hid (show (Value.slice a9 n c9, (natInts (l 9))) ∈ [(Value.slice a9 n c9, (natInts (l 9))), (Value.slice a8 n c8, (natInts (l 8))), (Value.slice ya n yc, (natInts (rIn n n))), (Value.slice xa n xc, (natInts (rIn 0 n)))] from List.mem_cons_self ..)
  go_wp2_with fail
  refine (mdMul_h HO.out (xa := a8) (xc := c8) (n := n) (xl := (natInts (l 8))) HM8.out (by rw [natInts_len]; exact (HF.out.len 8 (by decide) (by decide)).1) (ya := ya) (yc := yc) (m := n) (yl := (natInts (rIn n n))) HMY.out (by simp) (G' := GG 2) (l := l 1) (e := 0) (k := n) HF.out.a1 (HF.out.len 1 (by decide) (by decide)).1 (HF.out.len 1 (by decide) (by decide)).2 (by omega)).mono ?_
  rintro e w4 ⟨a1, c1, F1, rfl, ho⟩
  clear HO; have HO := Lib.hid ho; clear ho
  clear HMX
  have HMX := Lib.hid (show (Value.slice xa n xc, (natInts (rIn 0 n))) ∈ [(Value.slice a1 n c1, (natInts (l 1))), (Value.slice a9 n c9, (natInts (l 9))), (Value.slice a8 n c8, (natInts (l 8))), (Value.slice ya n yc, (natInts (rIn n n))), (Value.slice xa n xc, (natInts (rIn 0 n)))] from List.mem_cons_of_mem _ (List.mem_cons_of_mem _ (List.mem_cons_of_mem _ (List.mem_cons_of_mem _ (List.mem_cons_self ..)))))
  clear HMY
  have HMY := Lib.hid (show (Value.slice ya n yc, (natInts (rIn n n))) ∈ [(Value.slice a1 n c1, (natInts (l 1))), (Value.slice a9 n c9, (natInts (l 9))), (Value.slice a8 n c8, (natInts (l 8))), (Value.slice ya n yc, (natInts (rIn n n))), (Value.slice xa n xc, (natInts (rIn 0 n)))] from List.mem_cons_of_mem _ (List.mem_cons_of_mem _ (List.mem_cons_of_mem _ (List.mem_cons_self ..))))
  clear HM8
  have HM8 := Lib.hid (show (Value.slice a8 n c8, (natInts (l 8))) ∈ [(Value.slice a1 n c1, (natInts (l 1))), (Value.slice a9 n c9, (natInts (l 9))), (Value.slice a8 n c8, (natInts (l 8))), (Value.slice ya n yc, (natInts (rIn n n))), (Value.slice xa n xc, (natInts (rIn 0 n)))] from List.mem_cons_of_mem _ (List.mem_cons_of_mem _ (List.mem_cons_self ..)))
  clear HM9
  have HM9 := Lib.hid (show (Value.slice a9 n c9, (natInts (l 9))) ∈ [(Value.slice a1 n c1, (natInts (l 1))), (Value.slice a9 n c9, (natInts (l 9))), (Value.slice a8 n c8, (natInts (l 8))), (Value.slice ya n yc, (natInts (rIn n n))), (Value.slice xa n xc, (natInts (rIn 0 n)))] from List.mem_cons_of_mem _ (List.mem_cons_self ..))
  have HM1 := Lib.hid (show (Value.slice a1 n c1, (natInts (l 1))) ∈ [(Value.slice a1 n c1, (natInts (l 1))), (Value.slice a9 n c9, (natInts (l 9))), (Value.slice a8 n c8, (natInts (l 8))), (Value.slice ya n yc, (natInts (rIn n n))), (Value.slice xa n xc, (natInts (rIn 0 n)))] from List.mem_cons_self ..)
  go_wp2_with fail
  refine (sAdd_h HO.out (xa := a1) (xc := c1) (n := n) (xl := (natInts (l 1))) HM1.out (by rw [natInts_len]; exact (HF.out.len 1 (by decide) (by decide)).1) (ya := a9) (yc := c9) (m := n) (yl := (natInts (l 9))) HM9.out (by rw [natInts_len]; exact (HF.out.len 9 (by decide) (by decide)).1) (G' := GG 3) (l := l 2) (e := 0) (k := n) HF.out.a2 (HF.out.len 2 (by decide) (by decide)).1 (HF.out.len 2 (by decide) (by decide)).2 (by omega)).mono ?_
  rintro e w5 ⟨a2, c2, F2, rfl, ho⟩
  clear HO; have HO := Lib.hid ho; clear ho
  clear HMX
  have HMX := Lib.hid (show (Value.slice xa n xc, (natInts (rIn 0 n))) ∈ [(Value.slice a2 n c2, (natInts (l 2))), (Value.slice a1 n c1, (natInts (l 1))), (Value.slice a9 n c9, (natInts (l 9))), (Value.slice a8 n c8, (natInts (l 8))), (Value.slice ya n yc, (natInts (rIn n n))), (Value.slice xa n xc, (natInts (rIn 0 n)))] from List.mem_cons_of_mem _ (List.mem_cons_of_mem _ (List.mem_cons_of_mem _ (List.mem_cons_of_mem _ (List.mem_cons_of_mem _ (List.mem_cons_self ..))))))
  clear HMY
  have HMY := Lib.hid (show (Value.slice ya n yc, (natInts (rIn n n))) ∈ [(Value.slice a2 n c2, (natInts (l 2))), (Value.slice a1 n c1, (natInts (l 1))), (Value.slice a9 n c9, (natInts (l 9))), (Value.slice a8 n c8, (natInts (l 8))), (Value.slice ya n yc, (natInts (rIn n n))), (Value.slice xa n xc, (natInts (rIn 0 n)))] from List.mem_cons_of_mem _ (List.mem_cons_of_mem _ (List.mem_cons_of_mem _ (List.mem_cons_of_mem _ (List.mem_cons_self ..)))))
  clear HM8
  have HM8 := Lib.hid (show (Value.slice a8 n c8, (natInts (l 8))) ∈ [(Value.slice a2 n c2, (natInts (l 2))), (Value.slice a1 n c1, (natInts (l 1))), (Value.slice a9 n c9, (natInts (l 9))), (Value.slice a8 n c8, (natInts (l 8))), (Value.slice ya n yc, (natInts (rIn n n))), (Value.slice xa n xc, (natInts (rIn 0 n)))] from List.mem_cons_of_mem _ (List.mem_cons_of_mem _ (List.mem_cons_of_mem _ (List.mem_cons_self ..))))
  clear HM9
  have HM9 := Lib.hid (show (Value.slice a9 n c9, (natInts (l 9))) ∈ [(Value.slice a2 n c2, (natInts (l 2))), (Value.slice a1 n c1, (natInts (l 1))), (Value.slice a9 n c9, (natInts (l 9))), (Value.slice a8 n c8, (natInts (l 8))), (Value.slice ya n yc, (natInts (rIn n n))), (Value.slice xa n xc, (natInts (rIn 0 n)))] from List.mem_cons_of_mem _ (List.mem_cons_of_mem _ (List.mem_cons_self ..)))
  clear HM1
  have HM1 := Lib.hid (show (Value.slice a1 n c1, (natInts (l 1))) ∈ [(Value.slice a2 n c2, (natInts (l 2))), (Value.slice a1 n c1, (natInts (l 1))), (Value.slice a9 n c9, (natInts (l 9))), (Value.slice a8 n c8, (natInts (l 8))), (Value.slice ya n yc, (natInts (rIn n n))), (Value.slice xa n xc, (natInts (rIn 0 n)))] from List.mem_cons_of_mem _ (List.mem_cons_self ..))
  have HM2 := Lib.hid (show (Value.slice a2 n c2, (natInts (l 2))) ∈ [(Value.slice a2 n c2, (natInts (l 2))), (Value.slice a1 n c1, (natInts (l 1))), (Value.slice a9 n c9, (natInts (l 9))), (Value.slice a8 n c8, (natInts (l 8))), (Value.slice ya n yc, (natInts (rIn n n))), (Value.slice xa n xc, (natInts (rIn 0 n)))] from List.mem_cons_self ..)
  go_wp2_with fail
  refine (sEq_h HO.out (xa := a2) (xc := c2) (n := n) (xl := (natInts (l 2))) HM2.out (by rw [natInts_len]; exact (HF.out.len 2 (by decide) (by decide)).1) (ya := xa) (yc := xc) (m := n) (yl := (natInts (rIn 0 n))) HMX.out (by simp) (G' := GG 4) (r := r 1) (e := 0) HF.out.e1).mono ?_
  rintro e w6 ⟨G4, rfl, ho⟩
  clear HO; have HO := Lib.hid ho; clear ho
  go_wp2_with fail
  refine (sLt_h HO.out (xa := a9) (xc := c9) (n := n) (xl := (natInts (l 9))) HM9.out (by rw [natInts_len]; exact (HF.out.len 9 (by decide) (by decide)).1) (ya := ya) (yc := yc) (m := n) (yl := (natInts (rIn n n))) HMY.out (by simp) (G' := GG 5) (r := r 2) (e := 0) HF.out.e2).mono ?_
  rintro e w7 ⟨G5, rfl, ho⟩
  clear HO; have HO := Lib.hid ho; clear ho
  go_wp2_with fail
  refine (sAny_h HO.out (xa := ya) (xc := yc) (n := n) (xl := (natInts (rIn n n))) HMY.out (by simp) (G' := GG 6) (r := r 3) (e := 0) HF.out.e3).mono ?_
  rintro e w8 ⟨G6, rfl, ho⟩
  clear HO; have HO := Lib.hid ho; clear ho
  go_wp2_with fail
  refine (And_n HO.out (r 1) (r 2) (by omega) (by omega) (G' := GG 7) (r := r 4) (e := 0) HF.out.e4).mono ?_
  rintro e w9 ⟨G7, rfl, ho⟩
  clear HO; have HO := Lib.hid ho; clear ho
  go_wp2_with fail
  refine (mdMul_h HO.out (xa := xa) (xc := xc) (n := n) (xl := (natInts (rIn 0 n))) HMX.out (by simp) (ya := ya) (yc := yc) (m := n) (yl := (natInts (rIn n n))) HMY.out (by simp) (G' := GG 8) (l := l 3) (e := 0) (k := n) HF.out.a3 (HF.out.len 3 (by decide) (by decide)).1 (HF.out.len 3 (by decide) (by decide)).2 (by omega)).mono ?_
  rintro e w10 ⟨a3, c3, F3, rfl, ho⟩
  clear HO; have HO := Lib.hid ho; clear ho
  clear HMX
  have HMX := Lib.hid (show (Value.slice xa n xc, (natInts (rIn 0 n))) ∈ [(Value.slice a3 n c3, (natInts (l 3))), (Value.slice a2 n c2, (natInts (l 2))), (Value.slice a1 n c1, (natInts (l 1))), (Value.slice a9 n c9, (natInts (l 9))), (Value.slice a8 n c8, (natInts (l 8))), (Value.slice ya n yc, (natInts (rIn n n))), (Value.slice xa n xc, (natInts (rIn 0 n)))] from List.mem_cons_of_mem _ (List.mem_cons_of_mem _ (List.mem_cons_of_mem _ (List.mem_cons_of_mem _ (List.mem_cons_of_mem _ (List.mem_cons_of_mem _ (List.mem_cons_self ..)))))))
  clear HMY
  have HMY := Lib.hid (show (Value.slice ya n yc, (natInts (rIn n n))) ∈ [(Value.slice a3 n c3, (natInts (l 3))), (Value.slice a2 n c2, (natInts (l 2))), (Value.slice a1 n c1, (natInts (l 1))), (Value.slice a9 n c9, (natInts (l 9))), (Value.slice a8 n c8, (natInts (l 8))), (Value.slice ya n yc, (natInts (rIn n n))), (Value.slice xa n xc, (natInts (rIn 0 n)))] from List.mem_cons_of_mem _ (List.mem_cons_of_mem _ (List.mem_cons_of_mem _ (List.mem_cons_of_mem _ (List.mem_cons_of_mem _ (List.mem_cons_self ..))))))
  clear HM8
  have HM8 := Lib.hid (show (Value.slice a8 n c8, (natInts (l 8))) ∈ [(Value.slice a3 n c3, (natInts (l 3))), (Value.slice a2 n c2, (natInts (l 2))), (Value.slice a1 n c1, (natInts (l 1))), (Value.slice a9 n c9, (natInts (l 9))), (Value.slice a8 n c8, (natInts (l 8))), (Value.slice ya n yc, (natInts (rIn n n))), (Value.slice xa n xc, (natInts (rIn 0 n)))] from List.mem_cons_of_mem _ (List.mem_cons_of_mem _ (List.mem_cons_of_mem _ (List.mem_cons_of_mem _ (List.mem_cons_self ..)))))
  clear HM9
  have HM9 := Lib.hid (show (Value.slice a9 n c9, (natInts (l 9))) ∈ [(Value.slice a3 n c3, (natInts (l 3))), (Value.slice a2 n c2, (natInts (l 2))), (Value.slice a1 n c1, (natInts (l 1))), (Value.slice a9 n c9, (natInts (l 9))), (Value.slice a8 n c8, (natInts (l 8))), (Value.slice ya n yc, (natInts (rIn n n))), (Value.slice xa n xc, (natInts (rIn 0 n)))] from List.mem_cons_of_mem _ (List.mem_cons_of_mem _ (List.mem_cons_of_mem _ (List.mem_cons_self ..))))
  clear HM1
  have HM1 := Lib.hid (show (Value.slice a1 n c1, (natInts (l 1))) ∈ [(Value.slice a3 n c3, (natInts (l 3))), (Value.slice a2 n c2, (natInts (l 2))), (Value.slice a1 n c1, (natInts (l 1))), (Value.slice a9 n c9, (natInts (l 9))), (Value.slice a8 n c8, (natInts (l 8))), (Value.slice ya n yc, (natInts (rIn n n))), (Value.slice xa n xc, (natInts (rIn 0 n)))] from List.mem_cons_of_mem _ (List.mem_cons_of_mem _ (List.mem_cons_self ..)))
  clear HM2
  have HM2 := Lib.hid (show (Value.slice a2 n c2, (natInts (l 2))) ∈ [(Value.slice a3 n c3, (natInts (l 3))), (Value.slice a2 n c2, (natInts (l 2))), (Value.slice a1 n c1, (natInts (l 1))), (Value.slice a9 n c9, (natInts (l 9))), (Value.slice a8 n c8, (natInts (l 8))), (Value.slice ya n yc, (natInts (rIn n n))), (Value.slice xa n xc, (natInts (rIn 0 n)))] from List.mem_cons_of_mem _ (List.mem_cons_self ..))
  have HM3 := Lib.hid (show (Value.slice a3 n c3, (natInts (l 3))) ∈ [(Value.slice a3 n c3, (natInts (l 3))), (Value.slice a2 n c2, (natInts (l 2))), (Value.slice a1 n c1, (natInts (l 1))), (Value.slice a9 n c9, (natInts (l 9))), (Value.slice a8 n c8, (natInts (l 8))), (Value.slice ya n yc, (natInts (rIn n n))), (Value.slice xa n xc, (natInts (rIn 0 n)))] from List.mem_cons_self ..)
  go_wp2_with fail
  refine (mdMul_h HO.out (xa := ya) (xc := yc) (n := n) (xl := (natInts (rIn n n))) HMY.out (by simp) (ya := xa) (yc := xc) (m := n) (yl := (natInts (rIn 0 n))) HMX.out (by simp) (G' := GG 9) (l := l 4) (e := 0) (k := n) HF.out.a4 (HF.out.len 4 (by decide) (by decide)).1 (HF.out.len 4 (by decide) (by decide)).2 (by omega)).mono ?_
  rintro e w11 ⟨a4, c4, F4, rfl, ho⟩
  clear HO; have HO := Lib.hid ho; clear ho
  clear HMX
  have HMX := Lib.hid (show (Value.slice xa n xc, (natInts (rIn 0 n))) ∈ [(Value.slice a4 n c4, (natInts (l 4))), (Value.slice a3 n c3, (natInts (l 3))), (Value.slice a2 n c2, (natInts (l 2))), (Value.slice a1 n c1, (natInts (l 1))), (Value.slice a9 n c9, (natInts (l 9))), (Value.slice a8 n c8, (natInts (l 8))), (Value.slice ya n yc, (natInts (rIn n n))), (Value.slice xa n xc, (natInts (rIn 0 n)))] from List.mem_cons_of_mem _ (List.mem_cons_of_mem _ (List.mem_cons_of_mem _ (List.mem_cons_of_mem _ (List.mem_cons_of_mem _ (List.mem_cons_of_mem _ (List.mem_cons_of_mem _ (List.mem_cons_self ..))))))))
  clear HMY
  have HMY := Lib.hid (show (Value.slice ya n yc, (natInts (rIn n n))) ∈ [(Value.slice a4 n c4, (natInts (l 4))), (Value.slice a3 n c3, (natInts (l 3))), (Value.slice a2 n c2, (natInts (l 2))), (Value.slice a1 n c1, (natInts (l 1))), (Value.slice a9 n c9, (natInts (l 9))), (Value.slice a8 n c8, (natInts (l 8))), (Value.slice ya n yc, (natInts (rIn n n))), (Value.slice xa n xc, (natInts (rIn 0 n)))] from List.mem_cons_of_mem _ (List.mem_cons_of_mem _ (List.mem_cons_of_mem _ (List.mem_cons_of_mem _ (List.mem_cons_of_mem _ (List.mem_cons_of_mem _ (List.mem_cons_self ..)))))))
  clear HM8
  have HM8 := Lib.hid (show (Value.slice a8 n c8, (natInts (l 8))) ∈ [(Value.slice a4 n c4, (natInts (l 4))), (Value.slice a3 n c3, (natInts (l 3))), (Value.slice a2 n c2, (natInts (l 2))), (Value.slice a1 n c1, (natInts (l 1))), (Value.slice a9 n c9, (natInts (l 9))), (Value.slice a8 n c8, (natInts (l 8))), (Value.slice ya n yc, (natInts (rIn n n))), (Value.slice xa n xc, (natInts (rIn 0 n)))] from List.mem_cons_of_mem _ (List.mem_cons_of_mem _ (List.mem_cons_of_mem _ (List.mem_cons_of_mem _ (List.mem_cons_of_mem _ (List.mem_cons_self ..))))))
  clear HM9
  have HM9 := Lib.hid (show (Value.slice a9 n c9, (natInts (l 9))) ∈ [(Value.slice a4 n c4, (natInts (l 4))), (Value.slice a3 n c3, (natInts (l 3))), (Value.slice a2 n c2, (natInts (l 2))), (Value.slice a1 n c1, (natInts (l 1))), (Value.slice a9 n c9, (natInts (l 9))), (Value.slice a8 n c8, (natInts (l 8))), (Value.slice ya n yc, (natInts (rIn n n))), (Value.slice xa n xc, (natInts (rIn 0 n)))] from List.mem_cons_of_mem _ (List.mem_cons_of_mem _ (List.mem_cons_of_mem _ (List.mem_cons_of_mem _ (List.mem_cons_self ..)))))
  clear HM1
  have HM1 := Lib.hid (show (Value.slice a1 n c1, (natInts (l 1))) ∈ [(Value.slice a4 n c4, (natInts (l 4))), (Value.slice a3 n c3, (natInts (l 3))), (Value.slice a2 n c2, (natInts (l 2))), (Value.slice a1 n c1, (natInts (l 1))), (Value.slice a9 n c9, (natInts (l 9))), (Value.slice a8 n c8, (natInts (l 8))), (Value.slice ya n yc, (natInts (rIn n n))), (Value.slice xa n xc, (natInts (rIn 0 n)))] from List.mem_cons_of_mem _ (List.mem_cons_of_mem _ (List.mem_cons_of_mem _ (List.mem_cons_self ..))))
  clear HM2
  have HM2 := Lib.hid (show (Value.slice a2 n c2, (natInts (l 2))) ∈ [(Value.slice a4 n c4, (natInts (l 4))), (Value.slice a3 n c3, (natInts (l 3))), (Value.slice a2 n c2, (natInts (l 2))), (Value.slice a1 n c1, (natInts (l 1))), (Value.slice a9 n c9, (natInts (l 9))), (Value.slice a8 n c8, (natInts (l 8))), (Value.slice ya n yc, (natInts (rIn n n))), (Value.slice xa n xc, (natInts (rIn 0 n)))] from List.mem_cons_of_mem _ (List.mem_cons_of_mem _ (List.mem_cons_self ..)))
  clear HM3
  have HM3 := Lib.hid (show (Value.slice a3 n c3, (natInts (l 3))) ∈ [(Value.slice a4 n c4, (natInts (l 4))), (Value.slice a3 n c3, (natInts (l 3))), (Value.slice a2 n c2, (natInts (l 2))), (Value.slice a1 n c1, (natInts (l 1))), (Value.slice a9 n c9, (natInts (l 9))), (Value.slice a8 n c8, (natInts (l 8))), (Value.slice ya n yc, (natInts (rIn n n))), (Value.slice xa n xc, (natInts (rIn 0 n)))] from List.mem_cons_of_mem _ (List.mem_cons_self ..))
  have HM4 := Lib.hid (show (Value.slice a4 n c4, (natInts (l 4))) ∈ [(Value.slice a4 n c4, (natInts (l 4))), (Value.slice a3 n c3, (natInts (l 3))), (Value.slice a2 n c2, (natInts (l 2))), (Value.slice a1 n c1, (natInts (l 1))), (Value.slice a9 n c9, (natInts (l 9))), (Value.slice a8 n c8, (natInts (l 8))), (Value.slice ya n yc, (natInts (rIn n n))), (Value.slice xa n xc, (natInts (rIn 0 n)))] from List.mem_cons_self ..)
  go_wp2_with fail
  refine (HNG.out _).mono ?_
  rintro e w12 ⟨rfl, rfl⟩
  go_wp2_with fail
  refine (Or_h HO.out (r 4) (neg (r 3)) (by omega) (by omega) (G' := GG 10) (r := r 5) (e := 0) HF.out.e5).mono ?_
  rintro e w13 ⟨G10, rfl, ho⟩
  clear HO; have HO := Lib.hid ho; clear ho
  go_wp2_with fail
  refine (sEq_h HO.out (xa := a3) (xc := c3) (n := n) (xl := (natInts (l 3))) HM3.out (by rw [natInts_len]; exact (HF.out.len 3 (by decide) (by decide)).1) (ya := a4) (yc := c4) (m := n) (yl := (natInts (l 4))) HM4.out (by rw [natInts_len]; exact (HF.out.len 4 (by decide) (by decide)).1) (G' := GG 11) (r := r 6) (e := 0) HF.out.e6).mono ?_
  rintro e w14 ⟨G11, rfl, ho⟩
  clear HO; have HO := Lib.hid ho; clear ho
  go_wp2_with fail
  refine (sAdd_h HO.out (xa := xa) (xc := xc) (n := n) (xl := (natInts (rIn 0 n))) HMX.out (by simp) (ya := xa) (yc := xc) (m := n) (yl := (natInts (rIn 0 n))) HMX.out (by simp) (G' := GG 12) (l := l 5) (e := 0) (k := n) HF.out.a5 (HF.out.len 5 (by decide) (by decide)).1 (HF.out.len 5 (by decide) (by decide)).2 (by omega)).mono ?_
  rintro e w15 ⟨a5, c5, F5, rfl, ho⟩
  clear HO; have HO := Lib.hid ho; clear ho
  clear HMX
  have HMX := Lib.hid (show (Value.slice xa n xc, (natInts (rIn 0 n))) ∈ [(Value.slice a5 n c5, (natInts (l 5))), (Value.slice a4 n c4, (natInts (l 4))), (Value.slice a3 n c3, (natInts (l 3))), (Value.slice a2 n c2, (natInts (l 2))), (Value.slice a1 n c1, (natInts (l 1))), (Value.slice a9 n c9, (natInts (l 9))), (Value.slice a8 n c8, (natInts (l 8))), (Value.slice ya n yc, (natInts (rIn n n))), (Value.slice xa n xc, (natInts (rIn 0 n)))] from List.mem_cons_of_mem _ (List.mem_cons_of_mem _ (List.mem_cons_of_mem _ (List.mem_cons_of_mem _ (List.mem_cons_of_mem _ (List.mem_cons_of_mem _ (List.mem_cons_of_mem _ (List.mem_cons_of_mem _ (List.mem_cons_self ..)))))))))
  clear HMY
  have HMY := Lib.hid (show (Value.slice ya n yc, (natInts (rIn n n))) ∈ [(Value.slice a5 n c5, (natInts (l 5))), (Value.slice a4 n c4, (natInts (l 4))), (Value.slice a3 n c3, (natInts (l 3))), (Value.slice a2 n c2, (natInts (l 2))), (Value.slice a1 n c1, (natInts (l 1))), (Value.slice a9 n c9, (natInts (l 9))), (Value.slice a8 n c8, (natInts (l 8))), (Value.slice ya n yc, (natInts (rIn n n))), (Value.slice xa n xc, (natInts (rIn 0 n)))] from List.mem_cons_of_mem _ (List.mem_cons_of_mem _ (List.mem_cons_of_mem _ (List.mem_cons_of_mem _ (List.mem_cons_of_mem _ (List.mem_cons_of_mem _ (List.mem_cons_of_mem _ (List.mem_cons_self ..))))))))
  clear HM8
  have HM8 := Lib.hid (show (Value.slice a8 n c8, (natInts (l 8))) ∈ [(Value.slice a5 n c5, (natInts (l 5))), (Value.slice a4 n c4, (natInts (l 4))), (Value.slice a3 n c3, (natInts (l 3))), (Value.slice a2 n c2, (natInts (l 2))), (Value.slice a1 n c1, (natInts (l 1))), (Value.slice a9 n c9, (natInts (l 9))), (Value.slice a8 n c8, (natInts (l 8))), (Value.slice ya n yc, (natInts (rIn n n))), (Value.slice xa n xc, (natInts (rIn 0 n)))] from List.mem_cons_of_mem _ (List.mem_cons_of_mem _ (List.mem_cons_of_mem _ (List.mem_cons_of_mem _ (List.mem_cons_of_mem _ (List.mem_cons_of_mem _ (List.mem_cons_self ..)))))))
  clear HM9
  have HM9 := Lib.hid (show (Value.slice a9 n c9, (natInts (l 9))) ∈ [(Value.slice a5 n c5, (natInts (l 5))), (Value.slice a4 n c4, (natInts (l 4))), (Value.slice a3 n c3, (natInts (l 3))), (Value.slice a2 n c2, (natInts (l 2))), (Value.slice a1 n c1, (natInts (l 1))), (Value.slice a9 n c9, (natInts (l 9))), (Value.slice a8 n c8, (natInts (l 8))), (Value.slice ya n yc, (natInts (rIn n n))), (Value.slice xa n xc, (natInts (rIn 0 n)))] from List.mem_cons_of_mem _ (List.mem_cons_of_mem _ (List.mem_cons_of_mem _ (List.mem_cons_of_mem _ (List.mem_cons_of_mem _ (List.mem_cons_self ..))))))
  clear HM1
  have HM1 := Lib.hid (show (Value.slice a1 n c1, (natInts (l 1))) ∈ [(Value.slice a5 n c5, (natInts (l 5))), (Value.slice a4 n c4, (natInts (l 4))), (Value.slice a3 n c3, (natInts (l 3))), (Value.slice a2 n c2, (natInts (l 2))), (Value.slice a1 n c1, (natInts (l 1))), (Value.slice a9 n c9, (natInts (l 9))), (Value.slice a8 n c8, (natInts (l 8))), (Value.slice ya n yc, (natInts (rIn n n))), (Value.slice xa n xc, (natInts (rIn 0 n)))] from List.mem_cons_of_mem _ (List.mem_cons_of_mem _ (List.mem_cons_of_mem _ (List.mem_cons_of_mem _ (List.mem_cons_self ..)))))
  clear HM2
  have HM2 := Lib.hid (show (Value.slice a2 n c2, (natInts (l 2))) ∈ [(Value.slice a5 n c5, (natInts (l 5))), (Value.slice a4 n c4, (natInts (l 4))), (Value.slice a3 n c3, (natInts (l 3))), (Value.slice a2 n c2, (natInts (l 2))), (Value.slice a1 n c1, (natInts (l 1))), (Value.slice a9 n c9, (natInts (l 9))), (Value.slice a8 n c8, (natInts (l 8))), (Value.slice ya n yc, (natInts (rIn n n))), (Value.slice xa n xc, (natInts (rIn 0 n)))] from List.mem_cons_of_mem _ (List.mem_cons_of_mem _ (List.mem_cons_of_mem _ (List.mem_cons_self ..))))
  clear HM3
  have HM3 := Lib.hid (show (Value.slice a3 n c3, (natInts (l 3))) ∈ [(Value.slice a5 n c5, (natInts (l 5))), (Value.slice a4 n c4, (natInts (l 4))), (Value.slice a3 n c3, (natInts (l 3))), (Value.slice a2 n c2, (natInts (l 2))), (Value.slice a1 n c1, (natInts (l 1))), (Value.slice a9 n c9, (natInts (l 9))), (Value.slice a8 n c8, (natInts (l 8))), (Value.slice ya n yc, (natInts (rIn n n))), (Value.slice xa n xc, (natInts (rIn 0 n)))] from List.mem_cons_of_mem _ (List.mem_cons_of_mem _ (List.mem_cons_self ..)))
  clear HM4
  have HM4 := Lib.hid (show (Value.slice a4 n c4, (natInts (l 4))) ∈ [(Value.slice a5 n c5, (natInts (l 5))), (Value.slice a4 n c4, (natInts (l 4))), (Value.slice a3 n c3, (natInts (l 3))), (Value.slice a2 n c2, (natInts (l 2))), (Value.slice a1 n c1, (natInts (l 1))), (Value.slice a9 n c9, (natInts (l 9))), (Value.slice a8 n c8, (natInts (l 8))), (Value.slice ya n yc, (natInts (rIn n n))), (Value.slice xa n xc, (natInts (rIn 0 n)))] from List.mem_cons_of_mem _ (List.mem_cons_self ..))
  have HM5 := Lib.hid (show (Value.slice a5 n c5, (natInts (l 5))) ∈ [(Value.slice a5 n c5, (natInts (l 5))), (Value.slice a4 n c4, (natInts (l 4))), (Value.slice a3 n c3, (natInts (l 3))), (Value.slice a2 n c2, (natInts (l 2))), (Value.slice a1 n c1, (natInts (l 1))), (Value.slice a9 n c9, (natInts (l 9))), (Value.slice a8 n c8, (natInts (l 8))), (Value.slice ya n yc, (natInts (rIn n n))), (Value.slice xa n xc, (natInts (rIn 0 n)))] from List.mem_cons_self ..)
  go_wp2_with fail
  refine (mdMul_h HO.out (xa := a5) (xc := c5) (n := n) (xl := (natInts (l 5))) HM5.out (by rw [natInts_len]; exact (HF.out.len 5 (by decide) (by decide)).1) (ya := ya) (yc := yc) (m := n) (yl := (natInts (rIn n n))) HMY.out (by simp) (G' := GG 13) (l := l 6) (e := 0) (k := n) HF.out.a6 (HF.out.len 6 (by decide) (by decide)).1 (HF.out.len 6 (by decide) (by decide)).2 (by omega)).mono ?_
  rintro e w16 ⟨a6, c6, F6, rfl, ho⟩
  clear HO; have HO := Lib.hid ho; clear ho
  clear HMX
  have HMX := Lib.hid (show (Value.slice xa n xc, (natInts (rIn 0 n))) ∈ [(Value.slice a6 n c6, (natInts (l 6))), (Value.slice a5 n c5, (natInts (l 5))), (Value.slice a4 n c4, (natInts (l 4))), (Value.slice a3 n c3, (natInts (l 3))), (Value.slice a2 n c2, (natInts (l 2))), (Value.slice a1 n c1, (natInts (l 1))), (Value.slice a9 n c9, (natInts (l 9))), (Value.slice a8 n c8, (natInts (l 8))), (Value.slice ya n yc, (natInts (rIn n n))), (Value.slice xa n xc, (natInts (rIn 0 n)))] from List.mem_cons_of_mem _ (List.mem_cons_of_mem _ (List.mem_cons_of_mem _ (List.mem_cons_of_mem _ (List.mem_cons_of_mem _ (List.mem_cons_of_mem _ (List.mem_cons_of_mem _ (List.mem_cons_of_mem _ (List.mem_cons_of_mem _ (List.mem_cons_self ..))))))))))
  clear HMY
  have HMY := Lib.hid (show (Value.slice ya n yc, (natInts (rIn n n))) ∈ [(Value.slice a6 n c6, (natInts (l 6))), (Value.slice a5 n c5, (natInts (l 5))), (Value.slice a4 n c4, (natInts (l 4))), (Value.slice a3 n c3, (natInts (l 3))), (Value.slice a2 n c2, (natInts (l 2))), (Value.slice a1 n c1, (natInts (l 1))), (Value.slice a9 n c9, (natInts (l 9))), (Value.slice a8 n c8, (natInts (l 8))), (Value.slice ya n yc, (natInts (rIn n n))), (Value.slice xa n xc, (natInts (rIn 0 n)))] from List.mem_cons_of_mem _ (List.mem_cons_of_mem _ (List.mem_cons_of_mem _ (List.mem_cons_of_mem _ (List.mem_cons_of_mem _ (List.mem_cons_of_mem _ (List.mem_cons_of_mem _ (List.mem_cons_of_mem _ (List.mem_cons_self ..)))))))))
  clear HM8
  have HM8 := Lib.hid (show (Value.slice a8 n c8, (natInts (l 8))) ∈ [(Value.slice a6 n c6, (natInts (l 6))), (Value.slice a5 n c5, (natInts (l 5))), (Value.slice a4 n c4, (natInts (l 4))), (Value.slice a3 n c3, (natInts (l 3))), (Value.slice a2 n c2, (natInts (l 2))), (Value.slice a1 n c1, (natInts (l 1))), (Value.slice a9 n c9, (natInts (l 9))), (Value.slice a8 n c8, (natInts (l 8))), (Value.slice ya n yc, (natInts (rIn n n))), (Value.slice xa n xc, (natInts (rIn 0 n)))] from List.mem_cons_of_mem _ (List.mem_cons_of_mem _ (List.mem_cons_of_mem _ (List.mem_cons_of_mem _ (List.mem_cons_of_mem _ (List.mem_cons_of_mem _ (List.mem_cons_of_mem _ (List.mem_cons_self ..))))))))
  clear HM9
  have HM9 := Lib.hid (show (Value.slice a9 n c9, (natInts (l 9))) ∈ [(Value.slice a6 n c6, (natInts (l 6))), (Value.slice a5 n c5, (natInts (l 5))), (Value.slice a4 n c4, (natInts (l 4))), (Value.slice a3 n c3, (natInts (l 3))), (Value.slice a2 n c2, (natInts (l 2))), (Value.slice a1 n c1, (natInts (l 1))), (Value.slice a9 n c9, (natInts (l 9))), (Value.slice a8 n c8, (natInts (l 8))), (Value.slice ya n yc, (natInts (rIn n n))), (Value.slice xa n xc, (natInts (rIn 0 n)))] from List.mem_cons_of_mem _ (List.mem_cons_of_mem _ (List.mem_cons_of_mem _ (List.mem_cons_of_mem _ (List.mem_cons_of_mem _ (List.mem_cons_of_mem _ (List.mem_cons_self ..)))))))
  clear HM1
  have HM1 := Lib.hid (show (Value.slice a1 n c1, (natInts (l 1))) ∈ [(Value.slice a6 n c6, (natInts (l 6))), (Value.slice a5 n c5, (natInts (l 5))), (Value.slice a4 n c4, (natInts (l 4))), (Value.slice a3 n c3, (natInts (l 3))), (Value.slice a2 n c2, (natInts (l 2))), (Value.slice a1 n c1, (natInts (l 1))), (Value.slice a9 n c9, (natInts (l 9))), (Value.slice a8 n c8, (natInts (l 8))), (Value.slice ya n yc, (natInts (rIn n n))), (Value.slice xa n xc, (natInts (rIn 0 n)))] from List.mem_cons_of_mem _ (List.mem_cons_of_mem _ (List.mem_cons_of_mem _ (List.mem_cons_of_mem _ (List.mem_cons_of_mem _ (List.mem_cons_self ..))))))
  clear HM2
  have HM2 := Lib.hid (show (Value.slice a2 n c2, (natInts (l 2))) ∈ [(Value.slice a6 n c6, (natInts (l 6))), (Value.slice a5 n c5, (natInts (l 5))), (Value.slice a4 n c4, (natInts (l 4))), (Value.slice a3 n c3, (natInts (l 3))), (Value.slice a2 n c2, (natInts (l 2))), (Value.slice a1 n c1, (natInts (l 1))), (Value.slice a9 n c9, (natInts (l 9))), (Value.slice a8 n c8, (natInts (l 8))), (Value.slice ya n yc, (natInts (rIn n n))), (Value.slice xa n xc, (natInts (rIn 0 n)))] from List.mem_cons_of_mem _ (List.mem_cons_of_mem _ (List.mem_cons_of_mem _ (List.mem_cons_of_mem _ (List.mem_cons_self ..)))))
  clear HM3
  have HM3 := Lib.hid (show (Value.slice a3 n c3, (natInts (l 3))) ∈ [(Value.slice a6 n c6, (natInts (l 6))), (Value.slice a5 n c5, (natInts (l 5))), (Value.slice a4 n c4, (natInts (l 4))), (Value.slice a3 n c3, (natInts (l 3))), (Value.slice a2 n c2, (natInts (l 2))), (Value.slice a1 n c1, (natInts (l 1))), (Value.slice a9 n c9, (natInts (l 9))), (Value.slice a8 n c8, (natInts (l 8))), (Value.slice ya n yc, (natInts (rIn n n))), (Value.slice xa n xc, (natInts (rIn 0 n)))] from List.mem_cons_of_mem _ (List.mem_cons_of_mem _ (List.mem_cons_of_mem _ (List.mem_cons_self ..))))
  clear HM4
  have HM4 := Lib.hid (show (Value.slice a4 n c4, (natInts (l 4))) ∈ [(Value.slice a6 n c6, (natInts (l 6))), (Value.slice a5 n c5, (natInts (l 5))), (Value.slice a4 n c4, (natInts (l 4))), (Value.slice a3 n c3, (natInts (l 3))), (Value.slice a2 n c2, (natInts (l 2))), (Value.slice a1 n c1, (natInts (l 1))), (Value.slice a9 n c9, (natInts (l 9))), (Value.slice a8 n c8, (natInts (l 8))), (Value.slice ya n yc, (natInts (rIn n n))), (Value.slice xa n xc, (natInts (rIn 0 n)))] from List.mem_cons_of_mem _ (List.mem_cons_of_mem _ (List.mem_cons_self ..)))
  clear HM5
  have HM5 := Lib.hid (show (Value.slice a5 n c5, (natInts (l 5))) ∈ [(Value.slice a6 n c6, (natInts (l 6))), (Value.slice a5 n c5, (natInts (l 5))), (Value.slice a4 n c4, (natInts (l 4))), (Value.slice a3 n c3, (natInts (l 3))), (Value.slice a2 n c2, (natInts (l 2))), (Value.slice a1 n c1, (natInts (l 1))), (Value.slice a9 n c9, (natInts (l 9))), (Value.slice a8 n c8, (natInts (l 8))), (Value.slice ya n yc, (natInts (rIn n n))), (Value.slice xa n xc, (natInts (rIn 0 n)))] from List.mem_cons_of_mem _ (List.mem_cons_self ..))
  have HM6 := Lib.hid (show (Value.slice a6 n c6, (natInts (l 6))) ∈ [(Value.slice a6 n c6, (natInts (l 6))), (Value.slice a5 n c5, (natInts (l 5))), (Value.slice a4 n c4, (natInts (l 4))), (Value.slice a3 n c3, (natInts (l 3))), (Value.slice a2 n c2, (natInts (l 2))), (Value.slice a1 n c1, (natInts (l 1))), (Value.slice a9 n c9, (natInts (l 9))), (Value.slice a8 n c8, (natInts (l 8))), (Value.slice ya n yc, (natInts (rIn n n))), (Value.slice xa n xc, (natInts (rIn 0 n)))] from List.mem_cons_self ..)
  go_wp2_with fail
  refine (sAdd_h HO.out (xa := a3) (xc := c3) (n := n) (xl := (natInts (l 3))) HM3.out (by rw [natInts_len]; exact (HF.out.len 3 (by decide) (by decide)).1) (ya := a3) (yc := c3) (m := n) (yl := (natInts (l 3))) HM3.out (by rw [natInts_len]; exact (HF.out.len 3 (by decide) (by decide)).1) (G' := GG 14) (l := l 7) (e := 0) (k := n) HF.out.a7 (HF.out.len 7 (by decide) (by decide)).1 (HF.out.len 7 (by decide) (by decide)).2 (by omega)).mono ?_
  rintro e w17 ⟨a7, c7, F7, rfl, ho⟩
  clear HO; have HO := Lib.hid ho; clear ho
  clear HMX
  have HMX := Lib.hid (show (Value.slice xa n xc, (natInts (rIn 0 n))) ∈ [(Value.slice a7 n c7, (natInts (l 7))), (Value.slice a6 n c6, (natInts (l 6))), (Value.slice a5 n c5, (natInts (l 5))), (Value.slice a4 n c4, (natInts (l 4))), (Value.slice a3 n c3, (natInts (l 3))), (Value.slice a2 n c2, (natInts (l 2))), (Value.slice a1 n c1, (natInts (l 1))), (Value.slice a9 n c9, (natInts (l 9))), (Value.slice a8 n c8, (natInts (l 8))), (Value.slice ya n yc, (natInts (rIn n n))), (Value.slice xa n xc, (natInts (rIn 0 n)))] from List.mem_cons_of_mem _ (List.mem_cons_of_mem _ (List.mem_cons_of_mem _ (List.mem_cons_of_mem _ (List.mem_cons_of_mem _ (List.mem_cons_of_mem _ (List.mem_cons_of_mem _ (List.mem_cons_of_mem _ (List.mem_cons_of_mem _ (List.mem_cons_of_mem _ (List.mem_cons_self ..)))))))))))
  clear HMY
  have HMY := Lib.hid (show (Value.slice ya n yc, (natInts (rIn n n))) ∈ [(Value.slice a7 n c7, (natInts (l 7))), (Value.slice a6 n c6, (natInts (l 6))), (Value.slice a5 n c5, (natInts (l 5))), (Value.slice a4 n c4, (natInts (l 4))), (Value.slice a3 n c3, (natInts (l 3))), (Value.slice a2 n c2, (natInts (l 2))), (Value.slice a1 n c1, (natInts (l 1))), (Value.slice a9 n c9, (natInts (l 9))), (Value.slice a8 n c8, (natInts (l 8))), (Value.slice ya n yc, (natInts (rIn n n))), (Value.slice xa n xc, (natInts (rIn 0 n)))] from List.mem_cons_of_mem _ (List.mem_cons_of_mem _ (List.mem_cons_of_mem _ (List.mem_cons_of_mem _ (List.mem_cons_of_mem _ (List.mem_cons_of_mem _ (List.mem_cons_of_mem _ (List.mem_cons_of_mem _ (List.mem_cons_of_mem _ (List.mem_cons_self ..))))))))))
  clear HM8
  have HM8 := Lib.hid (show (Value.slice a8 n c8, (natInts (l 8))) ∈ [(Value.slice a7 n c7, (natInts (l 7))), (Value.slice a6 n c6, (natInts (l 6))), (Value.slice a5 n c5, (natInts (l 5))), (Value.slice a4 n c4, (natInts (l 4))), (Value.slice a3 n c3, (natInts (l 3))), (Value.slice a2 n c2, (natInts (l 2))), (Value.slice a1 n c1, (natInts (l 1))), (Value.slice a9 n c9, (natInts (l 9))), (Value.slice a8 n c8, (natInts (l 8))), (Value.slice ya n yc, (natInts (rIn n n))), (Value.slice xa n xc, (natInts (rIn 0 n)))] from List.mem_cons_of_mem _ (List.mem_cons_of_mem _ (List.mem_cons_of_mem _ (List.mem_cons_of_mem _ (List.mem_cons_of_mem _ (List.mem_cons_of_mem _ (List.mem_cons_of_mem _ (List.mem_cons_of_mem _ (List.mem_cons_self ..)))))))))
  clear HM9
  have HM9 := Lib.hid (show (Value.slice a9 n c9, (natInts (l 9))) ∈ [(Value.slice a7 n c7, (natInts (l 7))), (Value.slice a6 n c6, (natInts (l 6))), (Value.slice a5 n c5, (natInts (l 5))), (Value.slice a4 n c4, (natInts (l 4))), (Value.slice a3 n c3, (natInts (l 3))), (Value.slice a2 n c2, (natInts (l 2))), (Value.slice a1 n c1, (natInts (l 1))), (Value.slice a9 n c9, (natInts (l 9))), (Value.slice a8 n c8, (natInts (l 8))), (Value.slice ya n yc, (natInts (rIn n n))), (Value.slice xa n xc, (natInts (rIn 0 n)))] from List.mem_cons_of_mem _ (List.mem_cons_of_mem _ (List.mem_cons_of_mem _ (List.mem_cons_of_mem _ (List.mem_cons_of_mem _ (List.mem_cons_of_mem _ (List.mem_cons_of_mem _ (List.mem_cons_self ..))))))))
  clear HM1
  have HM1 := Lib.hid (show (Value.slice a1 n c1, (natInts (l 1))) ∈ [(Value.slice a7 n c7, (natInts (l 7))), (Value.slice a6 n c6, (natInts (l 6))), (Value.slice a5 n c5, (natInts (l 5))), (Value.slice a4 n c4, (natInts (l 4))), (Value.slice a3 n c3, (natInts (l 3))), (Value.slice a2 n c2, (natInts (l 2))), (Value.slice a1 n c1, (natInts (l 1))), (Value.slice a9 n c9, (natInts (l 9))), (Value.slice a8 n c8, (natInts (l 8))), (Value.slice ya n yc, (natInts (rIn n n))), (Value.slice xa n xc, (natInts (rIn 0 n)))] from List.mem_cons_of_mem _ (List.mem_cons_of_mem _ (List.mem_cons_of_mem _ (List.mem_cons_of_mem _ (List.mem_cons_of_mem _ (List.mem_cons_of_mem _ (List.mem_cons_self ..)))))))
  clear HM2
  have HM2 := Lib.hid (show (Value.slice a2 n c2, (natInts (l 2))) ∈ [(Value.slice a7 n c7, (natInts (l 7))), (Value.slice a6 n c6, (natInts (l 6))), (Value.slice a5 n c5, (natInts (l 5))), (Value.slice a4 n c4, (natInts (l 4))), (Value.slice a3 n c3, (natInts (l 3))), (Value.slice a2 n c2, (natInts (l 2))), (Value.slice a1 n c1, (natInts (l 1))), (Value.slice a9 n c9, (natInts (l 9))), (Value.slice a8 n c8, (natInts (l 8))), (Value.slice ya n yc, (natInts (rIn n n))), (Value.slice xa n xc, (natInts (rIn 0 n)))] from List.mem_cons_of_mem _ (List.mem_cons_of_mem _ (List.mem_cons_of_mem _ (List.mem_cons_of_mem _ (List.mem_cons_of_mem _ (List.mem_cons_self ..))))))
  clear HM3
  have HM3 := Lib.hid (show (Value.slice a3 n c3, (natInts (l 3))) ∈ [(Value.slice a7 n c7, (natInts (l 7))), (Value.slice a6 n c6, (natInts (l 6))), (Value.slice a5 n c5, (natInts (l 5))), (Value.slice a4 n c4, (natInts (l 4))), (Value.slice a3 n c3, (natInts (l 3))), (Value.slice a2 n c2, (natInts (l 2))), (Value.slice a1 n c1, (natInts (l 1))), (Value.slice a9 n c9, (natInts (l 9))), (Value.slice a8 n c8, (natInts (l 8))), (Value.slice ya n yc, (natInts (rIn n n))), (Value.slice xa n xc, (natInts (rIn 0 n)))] from List.mem_cons_of_mem _ (List.mem_cons_of_mem _ (List.mem_cons_of_mem _ (List.mem_cons_of_mem _ (List.mem_cons_self ..)))))
  clear HM4
  have HM4 := Lib.hid (show (Value.slice a4 n c4, (natInts (l 4))) ∈ [(Value.slice a7 n c7, (natInts (l 7))), (Value.slice a6 n c6, (natInts (l 6))), (Value.slice a5 n c5, (natInts (l 5))), (Value.slice a4 n c4, (natInts (l 4))), (Value.slice a3 n c3, (natInts (l 3))), (Value.slice a2 n c2, (natInts (l 2))), (Value.slice a1 n c1, (natInts (l 1))), (Value.slice a9 n c9, (natInts (l 9))), (Value.slice a8 n c8, (natInts (l 8))), (Value.slice ya n yc, (natInts (rIn n n))), (Value.slice xa n xc, (natInts (rIn 0 n)))] from List.mem_cons_of_mem _ (List.mem_cons_of_mem _ (List.mem_cons_of_mem _ (List.mem_cons_self ..))))
  clear HM5
  have HM5 := Lib.hid (show (Value.slice a5 n c5, (natInts (l 5))) ∈ [(Value.slice a7 n c7, (natInts (l 7))), (Value.slice a6 n c6, (natInts (l 6))), (Value.slice a5 n c5, (natInts (l 5))), (Value.slice a4 n c4, (natInts (l 4))), (Value.slice a3 n c3, (natInts (l 3))), (Value.slice a2 n c2, (natInts (l 2))), (Value.slice a1 n c1, (natInts (l 1))), (Value.slice a9 n c9, (natInts (l 9))), (Value.slice a8 n c8, (natInts (l 8))), (Value.slice ya n yc, (natInts (rIn n n))), (Value.slice xa n xc, (natInts (rIn 0 n)))] from List.mem_cons_of_mem _ (List.mem_cons_of_mem _ (List.mem_cons_self ..)))
  clear HM6
  have HM6 := Lib.hid (show (Value.slice a6 n c6, (natInts (l 6))) ∈ [(Value.slice a7 n c7, (natInts (l 7))), (Value.slice a6 n c6, (natInts (l 6))), (Value.slice a5 n c5, (natInts (l 5))), (Value.slice a4 n c4, (natInts (l 4))), (Value.slice a3 n c3, (natInts (l 3))), (Value.slice a2 n c2, (natInts (l 2))), (Value.slice a1 n c1, (natInts (l 1))), (Value.slice a9 n c9, (natInts (l 9))), (Value.slice a8 n c8, (natInts (l 8))), (Value.slice ya n yc, (natInts (rIn n n))), (Value.slice xa n xc, (natInts (rIn 0 n)))] from List.mem_cons_of_mem _ (List.mem_cons_self ..))
  have HM7 := Lib.hid (show (Value.slice a7 n c7, (natInts (l 7))) ∈ [(Value.slice a7 n c7, (natInts (l 7))), (Value.slice a6 n c6, (natInts (l 6))), (Value.slice a5 n c5, (natInts (l 5))), (Value.slice a4 n c4, (natInts (l 4))), (Value.slice a3 n c3, (natInts (l 3))), (Value.slice a2 n c2, (natInts (l 2))), (Value.slice a1 n c1, (natInts (l 1))), (Value.slice a9 n c9, (natInts (l 9))), (Value.slice a8 n c8, (natInts (l 8))), (Value.slice ya n yc, (natInts (rIn n n))), (Value.slice xa n xc, (natInts (rIn 0 n)))] from List.mem_cons_self ..)
  go_wp2_with fail
  refine (sEq_h HO.out (xa := a6) (xc := c6) (n := n) (xl := (natInts (l 6))) HM6.out (by rw [natInts_len]; exact (HF.out.len 6 (by decide) (by decide)).1) (ya := a7) (yc := c7) (m := n) (yl := (natInts (l 7))) HM7.out (by rw [natInts_len]; exact (HF.out.len 7 (by decide) (by decide)).1) (G' := GG 15) (r := r 7) (e := 0) HF.out.e7).mono ?_
  rintro e w18 ⟨G15, rfl, ho⟩
  clear HO; have HO := Lib.hid ho; clear ho
  go_wp2_with fail
  have hr5 := HF.out.rb 5 (by decide)
  have hr6 := HF.out.rb 6 (by decide)
  have hr7 := HF.out.rb 7 (by decide)
  have hrd : ∀ k, k < 4 → ([.int .i64 (r 5), .int .i64 (r 1), .int .i64 (r 6), .int .i64 (r 7)] : List Value)[k]? = some (.int .i64 (([r 5, r 1, r 6, r 7].getD k 0 : Nat))) ∧ [r 5, r 1, r 6, r 7].getD k 0 ≤ 1000000 := by
    intro k hk
    rcases (by omega : k = 0 ∨ k = 1 ∨ k = 2 ∨ k = 3) with rfl | rfl | rfl | rfl
    · exact ⟨rfl, by show r 5 ≤ _; omega⟩
    · exact ⟨rfl, by show r 1 ≤ _; omega⟩
    · exact ⟨rfl, by show r 6 ≤ _; omega⟩
    · exact ⟨rfl, by show r 7 ≤ _; omega⟩
  refine wp_named fun W0 hW0 => ?_
  have ho := HO.out.keepN (alw_ch hW0) (alw_blk (xs := [.int .i64 (r 5), .int .i64 (r 1), .int .i64 (r 6), .int .i64 (r 7)]) hW0)
  clear hW0 HO; have HO := Lib.hid ho; clear ho
  generalize w18.heap.size = qb at HO ⊢
  generalize hPC : ([.int .i64 (r 5), .int .i64 (r 1), .int .i64 (r 6), .int .i64 (r 7)] : List Value) = PC at HO hrd
  have HRD := Lib.hid hrd; clear hrd hPC
  go_loopw [189] (fun i wq => ∃ k : Nat, k ≤ 4 ∧ i = .int .i64 k ∧ Hold ((Base.mk w1 []).add qb PC) wq g (GG 15) G15 [(Value.slice a7 n c7, (natInts (l 7))), (Value.slice a6 n c6, (natInts (l 6))), (Value.slice a5 n c5, (natInts (l 5))), (Value.slice a4 n c4, (natInts (l 4))), (Value.slice a3 n c3, (natInts (l 3))), (Value.slice a2 n c2, (natInts (l 2))), (Value.slice a1 n c1, (natInts (l 1))), (Value.slice a9 n c9, (natInts (l 9))), (Value.slice a8 n c8, (natInts (l 8))), (Value.slice ya n yc, (natInts (rIn n n))), (Value.slice xa n xc, (natInts (rIn 0 n)))]) (fun i _ => 4 - (intOf i).toNat)
  case atStart => exact ⟨0, by omega, rfl, HO.out⟩
  case round =>
    obtain ⟨k, hk, rfl, ho⟩ := hrel
    clear HO; have HO := Lib.hid ho; clear ho
    by_cases hk4 : k < 4
    · obtain ⟨k1, k2⟩ := HRD.out k hk4
      have k0 := (HO.out.kb0).cell k1
      have hp := HF.out.p k hk4
      generalize [r 5, r 1, r 6, r 7].getD k 0 = z at k0 k2 hp
      have HPP := Lib.hid hp; clear hp k1
      have d4 : decide ((k : Int) < 4) = true := decide_eq_true (by omega)
      go_wp2_with fail
      refine (simParts_l HO.out z 1 k2 (by omega) HPP.out).mono ?_
      rintro e v9 ⟨p1, s1, rfl, ho⟩
      clear HO; have HO := Lib.hid ho; clear ho
      go_wp2_with fail
      go_roundw
      case rel => exact ⟨k + 1, by omega, by go_num, HO.out⟩
      case measure => simp [intOf]; omega
    · have d4 : decide ((k : Int) < 4) = false := decide_eq_false (by omega)
      clear hk4
      go_wp2_with fail
      go_ret
      exact ⟨rfl, HC1.out.trans HO.out.own.ch (by simp)⟩
end Go.Proofs.Ytkedpifopclipaa
