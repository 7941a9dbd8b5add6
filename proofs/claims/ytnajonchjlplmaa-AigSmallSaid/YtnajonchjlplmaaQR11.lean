/-
  Walk over told: a graph tells what the reference does. Conditions: a graph in memory, and the reference's of the same nodes, apart.
-/
import Derived.Test.YtnajonchjlplmaaQR10
namespace Go.Proofs.Ytnajonchjlplmaa
open Go.RowKit Go.Mem Go.Aig
theorem Cone_bad {w : World} {g : Nat} {G : Gra} {F : List Nat} (h : GIn w g G F) {a : Option Addr} {l : List Int} (n cap : Nat) (hn : l.length = n) (hl : Sl w a l) (hlb : ∀ x ∈ l, x ≤ 9223372036854775807) (halt : ∀ p, a = some p → p.block < w.heap.size) (hany : (l.any fun x => !right G.nodes x) = true) :
    Calls Try.prog 26 #[.pointer (some ⟨g, 0, none⟩), .slice a n cap] w fun e w' => e = .returned (.tuple #[.slice none 0 0, .int .i64 200]) ∧ Ch [] w w' := by
  subst hn
  obtain ⟨_, _, _, _, h, rfl⟩ := h
  exact Cone_no h cap hl hlb halt hany
theorem row_blk {w : World} {e : TypeId} {a : Option Addr} {n m c : Nat} {xs : List Value} (h : row w e 1 (.slice a m c) n xs) : ∀ k, k < n → ∃ (ib : Nat) (ys : List Value), a = some ⟨ib, 0, none⟩ ∧ blk w ib ys ∧ n ≤ ys.length := by
  intro k hk
  rcases h.2 with ⟨_, h0⟩ | ⟨g', cap', cur, e1, _, hh, h1, h2, h3, _⟩
  · omega
  · cases e1
    exact ⟨g', cur.toList, rfl, ⟨e, by simpa using hh⟩, by simp; omega⟩
section
set_option maxRecDepth 100000 in
set_option maxHeartbeats 16000000 in
theorem told_is {w : World} {g : Nat} {G : Gra} {F : List Nat} (h : GIn w g G F) {rb cap : Nat} (hr : RG w rb cap G) (_hF : rb ∉ F) : Calls Try.prog 62 #[.pointer (some ⟨g, 0, none⟩), .agg #[.int .i64 G.most, .slice (some ⟨rb, 0, none⟩) G.nodes.length cap]] w fun e w' => e = .returned (.bool true) ∧ Ch [] w w' := by
  obtain ⟨hl, hp, hmo⟩ := hr.len
  have hle := hr.le
  have hmx := hr.mx
  have hrb := hr.lt
  have hil := inputs_le G.nodes
  have H := Lib.hid h; clear h
  have HR := Lib.hid hr; clear hr
  go_enter Try.func62, Try.ntmps62
  go_upto_region 1 with fail
  refine wp_alw ?_
  intro W0 hW0
  have hc0 : Ch [] w W0 := by rw [hW0]; exact (Ch.refl _ _).alloc _
  have b3 : blk W0 w.heap.size [.int .i64 G.most, .slice (some ⟨rb, 0, none⟩) G.nodes.length cap] := by rw [hW0]; exact blk.new' (w := w) [.int .i64 G.most, .slice (some ⟨rb, 0, none⟩) G.nodes.length cap] 105 rfl
  clear hW0
  have hg0 := H.out.same hc0 (by simp)
  have hI := Inputs_g hg0
  have B3 := Lib.hid b3; clear b3
  have HC0 := Lib.hid hc0; clear hc0
  have HI := Lib.hid hI; clear hI hg0
  go_wp2_with fail
  refine HI.out.mono ?_
  rintro e w1 ⟨v, rfl, hrow, hfr, hc1⟩
  obtain ⟨ia, ic, rfl⟩ := row.shape hrow
  have hlo : ∀ q ∈ (Value.slice ia (inputs G.nodes).length ic).ownBlock.toList, W0.heap.size ≤ q := fun q hq => hfr q (by simpa using hq)
  have IROW := Lib.hid hrow; clear hrow hfr
  have ILO := Lib.hid hlo; clear hlo
  have HC1 := Lib.hid hc1; clear hc1 HI
  have hcw := HC0.out.trans HC1.out (by simp)
  have hg1 := H.out.same hcw (by simp)
  have b3 := B3.out.ch HC1.out (by simp)
  have hr1 := HR.out.ch hcw (by simp)
  have y0 := b3.cell (i := 0) rfl
  have y1 := b3.cell (i := 1) rfl
  have hLen := fun (W : World) (hW : Ch [] w1 W) => Len_g (hg1.same hW (by simp))
  have hRoom := Room_i (hg1.same (Ch.refl [] w1).drew (by simp))
  have hIn := fun (W : World) (hW : Ch [] w1 W) => rInputs_is (hr1.ch hW (by simp))
  have HLEN := Lib.hid (hLen _ (Ch.refl [] w1).drew); clear hLen
  have HROOM := Lib.hid hRoom; clear hRoom
  have HIN := Lib.hid hIn; clear hIn
  have hisl := Sl.of_row' IROW.out rfl (by omega)
  have HISL := Lib.hid hisl; clear hisl
  have BB3 := Lib.hid b3; clear b3
  have HCW := Lib.hid hcw; clear hcw
  have HG1 := Lib.hid hg1; clear hg1
  have HR1 := Lib.hid hr1; clear hr1
  have hms : decide (G.nodes.length ≤ G.most) = true := decide_eq_true HR.out.ok.room
  clear hms
  have hml : (G.nodes.length : Int) ≤ G.most := by have := HR.out.ok.room; omega
  go_wp2_with fail
  have hcurd : Ch [] w1 w1.drew := (Ch.refl [] w1).drew
  refine Ord.St.door (fun w' => Ch [] w1 w') [.fl, .rd, .fl, .rd, .fl, .fl, .fl, .fl, .ef, .fl, .ho, .fl, .ho, .fl, .fl, .fl, .fl, .fl, .fl, .rd, .ef, .ef, .ef, .fl, .fl] [0, 1, 0, 4, 12, 31, 63, 127, 255, 127, 639, 127, 2175, 6271, 15999, 32767, 65535, 131071, 262143, 262143, 786431, 1835007, 4194303, 8388607, 16777215] [0, 1, 2, 3, 4, 5, 6, 7, 8, 9, 10, 11, 12, 13, 14, 15, 16, 17, 18, 19, 20, 21, 22, 23, 24] mixed (by kernel_rfl) rfl ?_
  refine Ord.St.fl2 (T' := ?_) 0 [1, 2, 3, 4, 5, 6, 7, 8, 9, 10, 11, 12, 13, 14, 15, 16, 17, 18, 19, 20, 21, 22, 23, 24] _ _ rfl (by kernel_rfl) rfl rfl rfl rfl (fun K w' hk => ?_) ?_
  rotate_left
  · go_step; exact hk
  refine Ord.St.rd2 (T' := ?_) 1 [2, 3, 4, 5, 6, 7, 8, 9, 10, 11, 12, 13, 14, 15, 16, 17, 18, 19, 20, 21, 22, 23, 24] _ _ rfl (by kernel_rfl) rfl rfl rfl rfl (fun K hk => ?_) ?_
  rotate_left
  · go_step; refine HLEN.out.mono ?_; rintro e w'' ⟨rfl, rfl⟩; exact hk
  refine Ord.St.fl2 (T' := ?_) 2 [3, 4, 5, 6, 7, 8, 9, 10, 11, 12, 13, 14, 15, 16, 17, 18, 19, 20, 21, 22, 23, 24] _ _ rfl (by kernel_rfl) rfl rfl rfl rfl (fun K w' hk => ?_) ?_
  rotate_left
  · go_step; exact hk
  refine Ord.St.rd2 (T' := ?_) 3 [4, 5, 6, 7, 8, 9, 10, 11, 12, 13, 14, 15, 16, 17, 18, 19, 20, 21, 22, 23, 24] _ _ rfl (by kernel_rfl) rfl rfl rfl rfl (fun K hk => ?_) ?_
  rotate_left
  · go_step; exact hk
  refine Ord.St.fl2 (T' := ?_) 4 [5, 6, 7, 8, 9, 10, 11, 12, 13, 14, 15, 16, 17, 18, 19, 20, 21, 22, 23, 24] _ _ rfl (by kernel_rfl) rfl rfl rfl rfl (fun K w' hk => ?_) ?_
  rotate_left
  · go_step; exact hk
  refine Ord.St.fl2 (T' := ?_) 5 [6, 7, 8, 9, 10, 11, 12, 13, 14, 15, 16, 17, 18, 19, 20, 21, 22, 23, 24] _ _ rfl (by kernel_rfl) rfl rfl rfl rfl (fun K w' hk => ?_) ?_
  rotate_left
  · go_step; exact hk
  refine Ord.St.fl2 (T' := ?_) 6 [7, 8, 9, 10, 11, 12, 13, 14, 15, 16, 17, 18, 19, 20, 21, 22, 23, 24] _ _ rfl (by kernel_rfl) rfl rfl rfl rfl (fun K w' hk => ?_) ?_
  rotate_left
  · go_step; exact hk
  first | (refine Ord.St.fl2 (T' := ?_) 7 [8, 9, 10, 11, 12, 13, 14, 15, 16, 17, 18, 19, 20, 21, 22, 23, 24] _ _ rfl (by kernel_rfl) ?_ rfl rfl rfl (fun K w' hk => ?_) ?_; rotate_left; (first | rfl | (simp [Region.wanted, yielded, *]; done)); focus (go_step; exact hk)) | (refine Ord.St.skip 7 [8, 9, 10, 11, 12, 13, 14, 15, 16, 17, 18, 19, 20, 21, 22, 23, 24] _ rfl (by kernel_rfl) ?_ (fun K hK => ?_); (first | rfl | (simp [Region.wanted, yielded, *]; done)); go_simp; refine hK _ ?_; clear hK K)
  first | (refine Ord.St.fl2 (T' := ?_) 9 [8, 10, 11, 12, 13, 14, 15, 16, 17, 18, 19, 20, 21, 22, 23, 24] _ _ rfl (by kernel_rfl) ?_ rfl rfl rfl (fun K w' hk => ?_) ?_; rotate_left; (first | rfl | (simp [Region.wanted, yielded, *]; done)); focus (go_step; exact hk)) | (refine Ord.St.skip 9 [8, 10, 11, 12, 13, 14, 15, 16, 17, 18, 19, 20, 21, 22, 23, 24] _ rfl (by kernel_rfl) ?_ (fun K hK => ?_); (first | rfl | (simp [Region.wanted, yielded, *]; done)); go_simp; refine hK _ ?_; clear hK K)
  refine Ord.St.ho2 (T' := ?_) 10 [8, 11, 12, 13, 14, 15, 16, 17, 18, 19, 20, 21, 22, 23, 24] _ _ rfl (by kernel_rfl) (by first | rfl | simp [Region.wanted, yielded, *]) rfl rfl rfl ?_ (fun K w' hw' hk => ?_) ?_
  rotate_left
  · trivial
  · have z0 := (BB3.out.ch hw' (by simp)).cell (i := 0) rfl; have z1 := (BB3.out.ch hw' (by simp)).cell (i := 1) rfl; go_step; exact hk
  first | (refine Ord.St.fl2 (T' := ?_) 11 [8, 12, 13, 14, 15, 16, 17, 18, 19, 20, 21, 22, 23, 24] _ _ rfl (by kernel_rfl) ?_ rfl rfl rfl (fun K w' hk => ?_) ?_; rotate_left; (first | rfl | (simp [Region.wanted, yielded, *]; done)); focus (go_step; exact hk)) | (refine Ord.St.skip 11 [8, 12, 13, 14, 15, 16, 17, 18, 19, 20, 21, 22, 23, 24] _ rfl (by kernel_rfl) ?_ (fun K hK => ?_); (first | rfl | (simp [Region.wanted, yielded, *]; done)); go_simp; refine hK _ ?_; clear hK K)
  refine Ord.St.ho2 (T' := ?_) 12 [8, 13, 14, 15, 16, 17, 18, 19, 20, 21, 22, 23, 24] _ _ rfl (by kernel_rfl) (by first | rfl | simp [Region.wanted, yielded, *]) rfl rfl rfl ?_ (fun K w' hw' hk => ?_) ?_
  rotate_left
  · trivial
  · have z0 := (BB3.out.ch hw' (by simp)).cell (i := 0) rfl; have z1 := (BB3.out.ch hw' (by simp)).cell (i := 1) rfl; go_step; exact hk
  first | (refine Ord.St.fl2 (T' := ?_) 13 [8, 14, 15, 16, 17, 18, 19, 20, 21, 22, 23, 24] _ _ rfl (by kernel_rfl) ?_ rfl rfl rfl (fun K w' hk => ?_) ?_; rotate_left; (first | rfl | (simp [Region.wanted, yielded, *]; done)); focus (go_step; exact hk)) | (refine Ord.St.skip 13 [8, 14, 15, 16, 17, 18, 19, 20, 21, 22, 23, 24] _ rfl (by kernel_rfl) ?_ (fun K hK => ?_); (first | rfl | (simp [Region.wanted, yielded, *]; done)); go_simp; refine hK _ ?_; clear hK K)
  first | (refine Ord.St.fl2 (T' := ?_) 14 [8, 15, 16, 17, 18, 19, 20, 21, 22, 23, 24] _ _ rfl (by kernel_rfl) ?_ rfl rfl rfl (fun K w' hk => ?_) ?_; rotate_left; (first | rfl | (simp [Region.wanted, yielded, *]; done)); focus (go_step; exact hk)) | (refine Ord.St.skip 14 [8, 15, 16, 17, 18, 19, 20, 21, 22, 23, 24] _ rfl (by kernel_rfl) ?_ (fun K hK => ?_); (first | rfl | (simp [Region.wanted, yielded, *]; done)); go_simp; refine hK _ ?_; clear hK K)
  refine Ord.St.efC 8 [15, 16, 17, 18, 19, 20, 21, 22, 23, 24] _ rfl (by kernel_rfl) (fun K hK => ?_)
  go_wp2_with fail
  refine HROOM.out.mono ?_
  rintro e w2 ⟨rfl, hc2⟩
  have hcur : Ch [] w1 w2 := (Ch.refl [] w1).drew.trans hc2 (by simp)
  have b3 := BB3.out.ch hcur (by simp)
  have x0 := b3.cell (i := 0) rfl
  have x1 := b3.cell (i := 1) rfl
  clear hcurd b3 y0 y1 hc2 HROOM HLEN
  go_wp2_with fail
  refine ⟨rfl, hK _ _ ?_ ?_⟩
  · exact hcur
  clear hK K
  first | (refine Ord.St.fl2 (T' := ?_) 15 [16, 17, 18, 19, 20, 21, 22, 23, 24] _ _ rfl (by kernel_rfl) ?_ rfl rfl rfl (fun K w' hk => ?_) ?_; rotate_left; (first | rfl | (simp [Region.wanted, yielded, *]; done)); focus (go_step; exact hk)) | (refine Ord.St.skip 15 [16, 17, 18, 19, 20, 21, 22, 23, 24] _ rfl (by kernel_rfl) ?_ (fun K hK => ?_); (first | rfl | (simp [Region.wanted, yielded, *]; done)); go_simp; refine hK _ ?_; clear hK K)
  refine Ord.St.fl2 (T' := ?_) 16 [17, 18, 19, 20, 21, 22, 23, 24] _ _ rfl (by kernel_rfl) rfl rfl rfl rfl (fun K w' hk => ?_) ?_
  rotate_left
  · go_step; exact hk
  refine Ord.St.fl2 (T' := ?_) 17 [18, 19, 20, 21, 22, 23, 24] _ _ rfl (by kernel_rfl) rfl rfl rfl rfl (fun K w' hk => ?_) ?_
  rotate_left
  · go_step; exact hk
  first | (refine Ord.St.fl2 (T' := ?_) 18 [19, 20, 21, 22, 23, 24] _ _ rfl (by kernel_rfl) ?_ rfl rfl rfl (fun K w' hk => ?_) ?_; rotate_left; (first | rfl | (simp [Region.wanted, yielded, *]; done)); focus (go_step; exact hk)) | (refine Ord.St.skip 18 [19, 20, 21, 22, 23, 24] _ rfl (by kernel_rfl) ?_ (fun K hK => ?_); (first | rfl | (simp [Region.wanted, yielded, *]; done)); go_simp; refine hK _ ?_; clear hK K)
  first | (refine Ord.St.rd2 (T' := ?_) 19 [20, 21, 22, 23, 24] _ _ rfl (by kernel_rfl) ?_ rfl rfl rfl (fun K hk => ?_) ?_; rotate_left; (first | rfl | (simp [Region.wanted, yielded, *]; done)); focus (go_step; exact hk)) | (refine Ord.St.skipr 19 [20, 21, 22, 23, 24] _ rfl (by kernel_rfl) ?_ (fun K hK => ?_); (first | rfl | (simp [Region.wanted, yielded, *]; done)); go_simp; refine hK _ ?_; clear hK K)
  refine Ord.St.ef 20 [21, 22, 23, 24] _ rfl (by kernel_rfl) (fun K hK => ?_)
  have HI2 := Lib.hid (HIN.out _ hcur)
  go_wp2_with fail
  refine HI2.out.mono ?_
  rintro e w3 ⟨v, rfl, hrow, hlo3, hc3⟩
  obtain ⟨ja, jc, rfl⟩ := row.shape hrow
  have hsl3 := Sl.of_row' hrow rfl (by omega)
  have hRf := refs20_is (inputs G.nodes).length jc (by simp) hsl3 (by omega)
  have HRF := Lib.hid hRf; clear hRf hsl3 hrow hlo3
  have hcur3 := hcur.trans hc3 (by simp)
  clear hc3 hcur x0 x1 HI2
  go_wp2_with fail
  refine ⟨rfl, hK _ _ ?_⟩; clear hK K
  refine Ord.St.ef 21 [22, 23, 24] _ rfl (by kernel_rfl) (fun K hK => ?_)
  go_wp2_with fail
  refine HRF.out.mono ?_
  rintro e w4 ⟨v, rfl, hrow, hlo4, hc4⟩
  obtain ⟨ka, kc, rfl⟩ := row.shape hrow
  have hsl4 := Sl.of_ints hrow (by omega)
  have hcur4 := hcur3.trans hc4 (by simp)
  have hE := Eqref_same (n := (inputs G.nodes).length) ic kc (by simp) (HISL.out.ch hcur4 (by simp)) hsl4
  have HE := Lib.hid hE; clear hE hsl4 hrow hlo4 hc4 hcur3 HRF
  go_wp2_with fail
  refine ⟨rfl, hK _ _ ?_⟩; clear hK K
  refine Ord.St.ef 22 [23, 24] _ rfl (by kernel_rfl) (fun K hK => ?_)
  go_wp2_with fail
  refine HE.out.mono ?_
  rintro e w5 ⟨rfl, hc5⟩
  have hcur5 := hcur4.trans hc5 (by simp)
  clear hcur4 hc5 HE
  go_wp2_with fail
  refine ⟨rfl, hK _ _ ?_⟩; clear hK K
  first | (refine Ord.St.fl2 (T' := ?_) 23 [24] _ _ rfl (by kernel_rfl) ?_ rfl rfl rfl (fun K w' hk => ?_) ?_; rotate_left; (first | rfl | (simp [Region.wanted, yielded, *]; done)); focus (go_step; exact hk)) | (refine Ord.St.skip 23 [24] _ rfl (by kernel_rfl) ?_ (fun K hK => ?_); (first | rfl | (simp [Region.wanted, yielded, *]; done)); go_simp; refine hK _ ?_; clear hK K)
  refine Ord.St.fl2 (T' := ?_) 24 [] _ _ rfl (by kernel_rfl) rfl rfl rfl rfl (fun K w' hk => ?_) ?_
  rotate_left
  · go_step; exact hk
  refine Ord.St.nil ?_
  go_upto_region 4 with fail
  have b3 := BB3.out.ch hcur5 (by simp)
  have y0 := b3.cell (i := 0) rfl
  have y1 := b3.cell (i := 1) rfl
  have hD := rDepths_is (HR1.out.ch hcur5 (by simp))
  have HD := Lib.hid hD; clear hD b3
  have HC5 := Lib.hid (HCW.out.trans hcur5 (by simp))
  have HC15 := Lib.hid hcur5; clear hcur5
  clear HIN
  go_wp2_with fail
  refine HD.out.mono ?_
  rintro e w6 ⟨v, rfl, hdr, hdlo, hc6⟩
  obtain ⟨da, dc, rfl⟩ := row.shape hdr
  have hdsl := Sl.of_row' hdr (by simp) (by omega)
  have hc16 := HC15.out.trans hc6 (by simp)
  have hc06 := HC5.out.trans hc6 (by simp)
  have HDS := Lib.hid hdsl; clear hdsl hdr hdlo
  have b3 := BB3.out.ch hc16 (by simp)
  have hg6 := H.out.same hc06 (by simp)
  have hr6 := HR.out.ch hc06 (by simp)
  have ir6 := IROW.out.ch hc16 (by simp)
  have B36 := Lib.hid b3; clear b3
  have HC6 := Lib.hid hc06; clear hc06
  have IR6 := Lib.hid ir6; clear ir6
  have HG6 := Lib.hid hg6; clear hg6
  have HR6 := Lib.hid hr6; clear hr6
  have HC16 := Lib.hid hc16; clear hc16 hc6 HD HC15 HC5 y0 y1
  go_wp2_with fail
  go_loopw [7, 8] (fun o i wr => ∃ (z : Int) (L : List Nat), -1 ≤ z ∧ z ≤ (G.nodes.length : Int) + 1 ∧ i = .int .i64 z ∧ (L.length : Int) ≤ 2 * (z + 1) ∧ (∀ r ∈ L, r < 2 * G.nodes.length) ∧ Ch [] w6 wr ∧ row wr 33 1 o L.length (refsCells L) ∧ ∀ q ∈ o.ownBlock.toList, w6.heap.size ≤ q) (fun _ i _ => ((G.nodes.length : Int) + 1 - intOf i).toNat)
  case atStart => exact ⟨-1, [], by omega, by omega, rfl, by simp, by simp, Ch.refl _ _, ⟨rfl, .inl ⟨rfl, rfl⟩⟩, by simp⟩
  case round =>
    obtain ⟨z, L, hz0, hz1, rfl, hLz, hLb, hc, hrow, hlo⟩ := hrel
    obtain ⟨oa, oc, rfl⟩ := row.shape hrow
    have b3 := B36.out.ch hc (by simp)
    have y0 := b3.cell (i := 0) rfl
    have y1 := b3.cell (i := 1) rfl
    by_cases hzl : z ≤ (G.nodes.length : Int)
    · have qz : decide (z ≤ (G.nodes.length : Int)) = true := decide_eq_true hzl
      have HC := Lib.hid hc; clear hc b3
      have hql : ∀ q ∈ (Value.slice oa L.length oc).ownBlock.toList, q < wr.heap.size := fun q hq => (hrow.lt q (by simpa using hq)).2
      have HQL := Lib.hid hql; clear hql
      have HROW := Lib.hid hrow; clear hrow
      have HLO := Lib.hid hlo; clear hlo
      obtain ⟨wo, rfl⟩ : ∃ wo : World, wo = wr := ⟨_, rfl⟩
      have hcA : Ch [] wo (wo.alloc (.cells #[.int .i64 (2 * z), .int .i64 (2 * z + 1)] 33)) := (Ch.refl _ _).alloc _
      have hbA : blk (wo.alloc (.cells #[.int .i64 (2 * z), .int .i64 (2 * z + 1)] 33)) wo.heap.size [.int .i64 (2 * z), .int .i64 (2 * z + 1)] := blk.new' [.int .i64 (2 * z), .int .i64 (2 * z + 1)] 33 rfl
      have hrA := HROW.out.ch hcA (by simp)
      have HCA := Lib.hid (HC.out.trans hcA (by simp)); clear hcA
      have HBA := Lib.hid hbA; clear hbA
      have HRA := Lib.hid hrA; clear hrA HROW
      have hLb' := Lib.hid hLb; clear hLb
      go_wp2_with fail
      clear y0 y1 qz
      go_loopw [70, 7] (fun i o wr => ∃ (k : Nat) (L : List Nat), k ≤ 2 ∧ i = .int .i64 k ∧ (L.length : Int) ≤ 2 * (z + 1) + k ∧ (∀ r ∈ L, r < 2 * G.nodes.length) ∧ Ch [] w6 wr ∧ blk wr wo.heap.size [.int .i64 (2 * z), .int .i64 (2 * z + 1)] ∧ row wr 33 1 o L.length (refsCells L) ∧ ∀ q ∈ o.ownBlock.toList, w6.heap.size ≤ q ∧ q ≠ wo.heap.size) (fun i _ _ => 2 - (intOf i).toNat)
      case atStart => exact ⟨0, L, by omega, rfl, by omega, hLb'.out, HCA.out, HBA.out, HRA.out, fun q hq => ⟨HLO.out q hq, by have := HQL.out q hq; omega⟩⟩
      case round =>
        clear HCA HBA HRA hLb' HLO HQL HC
        obtain ⟨k, L, hk, rfl, hLk, hLb, hc, hb, hrow, hlo⟩ := hrel
        obtain ⟨oa, oc, rfl⟩ := row.shape hrow
        have b3 := B36.out.ch hc (by simp)
        have y0 := b3.cell (i := 0) rfl
        have y1 := b3.cell (i := 1) rfl
        by_cases hlt : k < 2
        · obtain ⟨x, hx, hx0, hx1⟩ : ∃ x : Int, [Value.int .i64 (2 * z), Value.int .i64 (2 * z + 1)][k]? = some (.int .i64 x) ∧ 2 * z ≤ x ∧ x ≤ 2 * z + 1 := by
            rcases (by omega : k = 0 ∨ k = 1) with e | e
            · subst e; exact ⟨2 * z, rfl, by omega, by omega⟩
            · subst e; exact ⟨2 * z + 1, rfl, by omega, by omega⟩
          have c0 := hb.cell hx
          have hcw := HC6.out.trans hc (by simp)
          have hg := H.out.same hcw (by simp)
          have hS := Sides_g hg x (by omega)
          have hN1 := fun (W : World) => NotI x W (by omega) (by omega)
          have hN3 := fun (W : World) => rNotI W x (by omega) (by omega)
          obtain ⟨n0, n1⟩ := negI_bd (x := x) (a := -1000000) (b := 1000000) (by omega) (by omega)
          have hN2 := fun (W : World) => NotI (negI x) W (by omega) (by omega)
          rw [negI_negI] at hN2
          have HN1 := Lib.hid hN1; clear hN1
          have HN2 := Lib.hid hN2; clear hN2
          have HN3 := Lib.hid hN3; clear hN3
          generalize negI x = nx at *
          have HC := Lib.hid hc; clear hc b3 hx
          have HB := Lib.hid hb; clear hb
          have HCW := Lib.hid hcw; clear hcw
          have HG := Lib.hid hg; clear hg
          have hLb' := Lib.hid hLb; clear hLb
          have HROW := Lib.hid hrow; clear hrow
          have HLO := Lib.hid hlo; clear hlo
          by_cases his : 0 ≤ z ∧ z < (G.nodes.length : Int)
          · obtain ⟨h0, h1⟩ := his
            obtain ⟨n, rfl⟩ := Int.eq_ofNat_of_zero_le h0
            obtain ⟨r, rfl⟩ := Int.eq_ofNat_of_zero_le (show 0 ≤ x by omega)
            obtain ⟨xn, hxn⟩ : ∃ xn, G.nodes[n]? = some xn := ⟨_, List.getElem?_eq_getElem (by omega)⟩
            have ht := tells_yes HR.out.ok.wf hxn (r := (r : Int)) (by omega) (by omega)
            rw [ht.l, ht.r, ht.is] at hS
            have hrl : r < 2 * G.nodes.length := by omega
            have q0 : decide (n < G.nodes.length) = true := decide_eq_true (by omega)
            have hk3 := wf_kind HR.out.ok.wf hxn
            have hB : ((xn.k : Int) == 3) = (xn.k == 3) := by
              by_cases e : xn.k = 3
              · simp [e]
              · rw [show (xn.k == 3) = false by simp [e]]; simp; omega
            have HT := Lib.hid ht; clear ht
            generalize (xn.k == 3) = B at *
            have HS := Lib.hid hS; clear hS h0
            have HBQ := Lib.hid hB; clear hB
            go_wp2_with fail
            refine HS.out.mono ?_
            rintro e w7 ⟨rfl, hc7⟩
            have hg7 := HG.out.same hc7 (by simp)
            have hD := Depth_g hg7 (r : Int) (by omega)
            rw [HT.out.dep, HT.out.err] at hD
            have hR := Right_g hg7 (r : Int) (by omega)
            rw [HT.out.right] at hR
            have HD := Lib.hid hD; clear hD
            have HR7 := Lib.hid hR; clear hR
            have hc67 := HC.out.trans hc7 (by simp)
            have b3 := B36.out.ch hc67 (by simp)
            have y0 := b3.cell (i := 0) rfl
            have y1 := b3.cell (i := 1) rfl
            have hb7 := HB.out.ch hc7 (by simp)
            have hr7 := HROW.out.ch hc7 (by simp)
            have HC67 := Lib.hid hc67; clear hc67
            have HB7 := Lib.hid hb7; clear hb7
            have HRW7 := Lib.hid hr7; clear hr7
            obtain ⟨e0, e1, e2⟩ := (HR6.out.ch HC67.out (by simp)).node hxn
            have HXN := Lib.hid hxn; clear hxn
            have HG7 := Lib.hid hg7; clear hg7
            clear HROW HB HC HS HG hc7 b3 c0
            go_wp2_with fail
            refine HD.out.mono ?_
            rintro e w' ⟨rfl, rfl⟩
            go_wp2_with fail
            refine HR7.out.mono ?_
            rintro e w' ⟨rfl, rfl⟩
            go_wp2_with fail
            refine (HN1.out _).mono ?_
            rintro e w' ⟨rfl, rfl⟩
            go_wp2_with fail
            refine (HN3.out _).mono ?_
            rintro e w' ⟨rfl, rfl⟩
            go_wp2_with fail
            refine (HN1.out _).mono ?_
            rintro e w' ⟨rfl, rfl⟩
            go_wp2_with fail
            refine (HN2.out _).mono ?_
            rintro e w' ⟨rfl, rfl⟩
            go_wp2_with fail
            refine wp_alw ?_
            intro W8 hW8
            have hc78 : Ch [] w7 W8 := by rw [hW8]; exact (Ch.refl _ _).alloc _
            have bX : blk W8 w7.heap.size [.int .i64 xn.k, .int .i64 xn.l, .int .i64 xn.r] := by rw [hW8]; exact blk.new' [.int .i64 xn.k, .int .i64 xn.l, .int .i64 xn.r] 122 rfl
            clear hW8 y0 y1 e0 e1 e2
            have hK := Kind_g (HG7.out.same hc78.drew (by simp)) (r : Int) (by omega)
            rw [HT.out.kind] at hK
            have HK := Lib.hid hK; clear hK
            have hc68 := HC67.out.trans hc78 (by simp)
            have b3 := B36.out.ch hc68 (by simp)
            have y0 := b3.cell (i := 0) rfl
            have y1 := b3.cell (i := 1) rfl
            have x0 := bX.cell (i := 0) rfl
            have x1 := bX.cell (i := 1) rfl
            have x2 := bX.cell (i := 2) rfl
            obtain ⟨db, do', rfl, hdc⟩ := HDS.out.cells n (xn.d : Int) (by rw [List.getElem?_map, List.getElem?_map, HXN.out]; rfl)
            have d0 := (hc68.cell (cell_lt hdc) (by simp)).trans hdc
            have hb8 := HB7.out.ch hc78 (by simp)
            have hr8 := HRW7.out.ch hc78 (by simp)
            have HC68 := Lib.hid hc68; clear hc68 hc78
            have HB8 := Lib.hid hb8; clear hb8
            have HRW8 := Lib.hid hr8; clear hr8
            clear b3 bX hdc HC67 HB7 HRW7 HG7
            have hBq := HBQ.out
            refine Ord.St.door (fun _ => True) [.fl, .fl, .rd, .fl, .fl, .rd, .fl, .fl, .fl, .fl, .rd, .fl, .fl, .fl, .fl, .fl, .rd, .fl, .fl, .fl, .fl, .fl, .rd, .fl, .fl, .fl, .fl, .fl, .fl, .fl, .fl, .rd, .fl, .fl, .fl, .fl, .fl, .fl] [0, 0, 3, 7, 0, 16, 63, 127, 255, 255, 767, 2047, 4095, 8191, 16383, 16383, 49151, 131071, 262143, 524287, 1048575, 1048575, 3145727, 7340031, 16777215, 33554431, 67108863, 134217727, 134217727, 134217727, 939524095, 2013265919, 4294967295, 8589934591, 17179869183, 34359738367, 68719476735, 137438953471] [0, 1, 2, 3, 4, 5, 6, 7, 8, 9, 10, 11, 12, 13, 14, 15, 16, 17, 18, 19, 20, 21, 22, 23, 24, 25, 26, 27, 28, 29, 30, 31, 32, 33, 34, 35, 36, 37] mixed (by kernel_rfl) rfl ?_
            refine Ord.St.fl2 (T' := ?_) 0 [1, 2, 3, 4, 5, 6, 7, 8, 9, 10, 11, 12, 13, 14, 15, 16, 17, 18, 19, 20, 21, 22, 23, 24, 25, 26, 27, 28, 29, 30, 31, 32, 33, 34, 35, 36, 37] _ _ rfl (by kernel_rfl) rfl rfl rfl rfl (fun K w' hk => ?_) ?_
            rotate_left
            · go_step; exact hk
            refine Ord.St.fl2 (T' := ?_) 1 [2, 3, 4, 5, 6, 7, 8, 9, 10, 11, 12, 13, 14, 15, 16, 17, 18, 19, 20, 21, 22, 23, 24, 25, 26, 27, 28, 29, 30, 31, 32, 33, 34, 35, 36, 37] _ _ rfl (by kernel_rfl) rfl rfl rfl rfl (fun K w' hk => ?_) ?_
            rotate_left
            · go_step; exact hk
            refine Ord.St.rd2 (T' := ?_) 2 [3, 4, 5, 6, 7, 8, 9, 10, 11, 12, 13, 14, 15, 16, 17, 18, 19, 20, 21, 22, 23, 24, 25, 26, 27, 28, 29, 30, 31, 32, 33, 34, 35, 36, 37] _ _ rfl (by kernel_rfl) rfl rfl rfl rfl (fun K hk => ?_) ?_
            rotate_left
            · go_step; refine HK.out.mono ?_; rintro e w'' ⟨rfl, rfl⟩; exact hk
            refine Ord.St.fl2 (T' := ?_) 3 [4, 5, 6, 7, 8, 9, 10, 11, 12, 13, 14, 15, 16, 17, 18, 19, 20, 21, 22, 23, 24, 25, 26, 27, 28, 29, 30, 31, 32, 33, 34, 35, 36, 37] _ _ rfl (by kernel_rfl) rfl rfl rfl rfl (fun K w' hk => ?_) ?_
            rotate_left
            · go_step; exact hk
            refine Ord.St.fl2 (T' := ?_) 4 [5, 6, 7, 8, 9, 10, 11, 12, 13, 14, 15, 16, 17, 18, 19, 20, 21, 22, 23, 24, 25, 26, 27, 28, 29, 30, 31, 32, 33, 34, 35, 36, 37] _ _ rfl (by kernel_rfl) rfl rfl rfl rfl (fun K w' hk => ?_) ?_
            rotate_left
            · go_step; exact hk
            refine Ord.St.rd2 (T' := ?_) 5 [6, 7, 8, 9, 10, 11, 12, 13, 14, 15, 16, 17, 18, 19, 20, 21, 22, 23, 24, 25, 26, 27, 28, 29, 30, 31, 32, 33, 34, 35, 36, 37] _ _ rfl (by kernel_rfl) rfl rfl rfl rfl (fun K hk => ?_) ?_
            rotate_left
            · go_step; exact hk
            refine Ord.St.fl2 (T' := ?_) 6 [7, 8, 9, 10, 11, 12, 13, 14, 15, 16, 17, 18, 19, 20, 21, 22, 23, 24, 25, 26, 27, 28, 29, 30, 31, 32, 33, 34, 35, 36, 37] _ _ rfl (by kernel_rfl) rfl rfl rfl rfl (fun K w' hk => ?_) ?_
            rotate_left
            · go_step; exact hk
            refine Ord.St.fl2 (T' := ?_) 7 [8, 9, 10, 11, 12, 13, 14, 15, 16, 17, 18, 19, 20, 21, 22, 23, 24, 25, 26, 27, 28, 29, 30, 31, 32, 33, 34, 35, 36, 37] _ _ rfl (by kernel_rfl) rfl rfl rfl rfl (fun K w' hk => ?_) ?_
            rotate_left
            · go_step; exact hk
            first | (refine Ord.St.fl2 (T' := ?_) 8 [9, 10, 11, 12, 13, 14, 15, 16, 17, 18, 19, 20, 21, 22, 23, 24, 25, 26, 27, 28, 29, 30, 31, 32, 33, 34, 35, 36, 37] _ _ rfl (by kernel_rfl) ?_ rfl rfl rfl (fun K w' hk => ?_) ?_; rotate_left; (first | rfl | (simp [Region.wanted, yielded, *]; done)); focus (go_step; exact hk)) | (refine Ord.St.skip 8 [9, 10, 11, 12, 13, 14, 15, 16, 17, 18, 19, 20, 21, 22, 23, 24, 25, 26, 27, 28, 29, 30, 31, 32, 33, 34, 35, 36, 37] _ rfl (by kernel_rfl) ?_ (fun K hK => ?_); (first | rfl | (simp [Region.wanted, yielded, *]; done)); go_simp; refine hK _ ?_; clear hK K)
            first | (refine Ord.St.fl2 (T' := ?_) 9 [10, 11, 12, 13, 14, 15, 16, 17, 18, 19, 20, 21, 22, 23, 24, 25, 26, 27, 28, 29, 30, 31, 32, 33, 34, 35, 36, 37] _ _ rfl (by kernel_rfl) ?_ rfl rfl rfl (fun K w' hk => ?_) ?_; rotate_left; (first | rfl | (simp [Region.wanted, yielded, *]; done)); focus (go_step; exact hk)) | (refine Ord.St.skip 9 [10, 11, 12, 13, 14, 15, 16, 17, 18, 19, 20, 21, 22, 23, 24, 25, 26, 27, 28, 29, 30, 31, 32, 33, 34, 35, 36, 37] _ rfl (by kernel_rfl) ?_ (fun K hK => ?_); (first | rfl | (simp [Region.wanted, yielded, *]; done)); go_simp; refine hK _ ?_; clear hK K)
            first | (refine Ord.St.rd2 (T' := ?_) 10 [11, 12, 13, 14, 15, 16, 17, 18, 19, 20, 21, 22, 23, 24, 25, 26, 27, 28, 29, 30, 31, 32, 33, 34, 35, 36, 37] _ _ rfl (by kernel_rfl) ?_ rfl rfl rfl (fun K hk => ?_) ?_; rotate_left; (first | rfl | (simp [Region.wanted, yielded, *]; done)); focus (go_step; exact hk)) | (refine Ord.St.skipr 10 [11, 12, 13, 14, 15, 16, 17, 18, 19, 20, 21, 22, 23, 24, 25, 26, 27, 28, 29, 30, 31, 32, 33, 34, 35, 36, 37] _ rfl (by kernel_rfl) ?_ (fun K hK => ?_); (first | rfl | (simp [Region.wanted, yielded, *]; done)); go_simp; refine hK _ ?_; clear hK K)
            first | (refine Ord.St.fl2 (T' := ?_) 11 [12, 13, 14, 15, 16, 17, 18, 19, 20, 21, 22, 23, 24, 25, 26, 27, 28, 29, 30, 31, 32, 33, 34, 35, 36, 37] _ _ rfl (by kernel_rfl) ?_ rfl rfl rfl (fun K w' hk => ?_) ?_; rotate_left; (first | rfl | (simp [Region.wanted, yielded, *]; done)); focus (go_step; exact hk)) | (refine Ord.St.skip 11 [12, 13, 14, 15, 16, 17, 18, 19, 20, 21, 22, 23, 24, 25, 26, 27, 28, 29, 30, 31, 32, 33, 34, 35, 36, 37] _ rfl (by kernel_rfl) ?_ (fun K hK => ?_); (first | rfl | (simp [Region.wanted, yielded, *]; done)); go_simp; refine hK _ ?_; clear hK K)
            refine Ord.St.fl2 (T' := ?_) 12 [13, 14, 15, 16, 17, 18, 19, 20, 21, 22, 23, 24, 25, 26, 27, 28, 29, 30, 31, 32, 33, 34, 35, 36, 37] _ _ rfl (by kernel_rfl) rfl rfl rfl rfl (fun K w' hk => ?_) ?_
            rotate_left
            · go_step; exact hk
            refine Ord.St.fl2 (T' := ?_) 13 [14, 15, 16, 17, 18, 19, 20, 21, 22, 23, 24, 25, 26, 27, 28, 29, 30, 31, 32, 33, 34, 35, 36, 37] _ _ rfl (by kernel_rfl) rfl rfl rfl rfl (fun K w' hk => ?_) ?_
            rotate_left
            · go_step; exact hk
            first | (refine Ord.St.fl2 (T' := ?_) 14 [15, 16, 17, 18, 19, 20, 21, 22, 23, 24, 25, 26, 27, 28, 29, 30, 31, 32, 33, 34, 35, 36, 37] _ _ rfl (by kernel_rfl) ?_ rfl rfl rfl (fun K w' hk => ?_) ?_; rotate_left; (first | rfl | (simp [Region.wanted, yielded, *]; done)); focus (go_step; exact hk)) | (refine Ord.St.skip 14 [15, 16, 17, 18, 19, 20, 21, 22, 23, 24, 25, 26, 27, 28, 29, 30, 31, 32, 33, 34, 35, 36, 37] _ rfl (by kernel_rfl) ?_ (fun K hK => ?_); (first | rfl | (simp [Region.wanted, yielded, *]; done)); go_simp; refine hK _ ?_; clear hK K)
            first | (refine Ord.St.fl2 (T' := ?_) 15 [16, 17, 18, 19, 20, 21, 22, 23, 24, 25, 26, 27, 28, 29, 30, 31, 32, 33, 34, 35, 36, 37] _ _ rfl (by kernel_rfl) ?_ rfl rfl rfl (fun K w' hk => ?_) ?_; rotate_left; (first | rfl | (simp [Region.wanted, yielded, *]; done)); focus (go_step; exact hk)) | (refine Ord.St.skip 15 [16, 17, 18, 19, 20, 21, 22, 23, 24, 25, 26, 27, 28, 29, 30, 31, 32, 33, 34, 35, 36, 37] _ rfl (by kernel_rfl) ?_ (fun K hK => ?_); (first | rfl | (simp [Region.wanted, yielded, *]; done)); go_simp; refine hK _ ?_; clear hK K)
            first | (refine Ord.St.rd2 (T' := ?_) 16 [17, 18, 19, 20, 21, 22, 23, 24, 25, 26, 27, 28, 29, 30, 31, 32, 33, 34, 35, 36, 37] _ _ rfl (by kernel_rfl) ?_ rfl rfl rfl (fun K hk => ?_) ?_; rotate_left; (first | rfl | (simp [Region.wanted, yielded, *]; done)); focus (go_step; exact hk)) | (refine Ord.St.skipr 16 [17, 18, 19, 20, 21, 22, 23, 24, 25, 26, 27, 28, 29, 30, 31, 32, 33, 34, 35, 36, 37] _ rfl (by kernel_rfl) ?_ (fun K hK => ?_); (first | rfl | (simp [Region.wanted, yielded, *]; done)); go_simp; refine hK _ ?_; clear hK K)
            first | (refine Ord.St.fl2 (T' := ?_) 17 [18, 19, 20, 21, 22, 23, 24, 25, 26, 27, 28, 29, 30, 31, 32, 33, 34, 35, 36, 37] _ _ rfl (by kernel_rfl) ?_ rfl rfl rfl (fun K w' hk => ?_) ?_; rotate_left; (first | rfl | (simp [Region.wanted, yielded, *]; done)); focus (go_step; exact hk)) | (refine Ord.St.skip 17 [18, 19, 20, 21, 22, 23, 24, 25, 26, 27, 28, 29, 30, 31, 32, 33, 34, 35, 36, 37] _ rfl (by kernel_rfl) ?_ (fun K hK => ?_); (first | rfl | (simp [Region.wanted, yielded, *]; done)); go_simp; refine hK _ ?_; clear hK K)
            refine Ord.St.fl2 (T' := ?_) 18 [19, 20, 21, 22, 23, 24, 25, 26, 27, 28, 29, 30, 31, 32, 33, 34, 35, 36, 37] _ _ rfl (by kernel_rfl) rfl rfl rfl rfl (fun K w' hk => ?_) ?_
            rotate_left
            · go_step; exact hk
            refine Ord.St.fl2 (T' := ?_) 19 [20, 21, 22, 23, 24, 25, 26, 27, 28, 29, 30, 31, 32, 33, 34, 35, 36, 37] _ _ rfl (by kernel_rfl) rfl rfl rfl rfl (fun K w' hk => ?_) ?_
            rotate_left
            · go_step; exact hk
            first | (refine Ord.St.fl2 (T' := ?_) 20 [21, 22, 23, 24, 25, 26, 27, 28, 29, 30, 31, 32, 33, 34, 35, 36, 37] _ _ rfl (by kernel_rfl) ?_ rfl rfl rfl (fun K w' hk => ?_) ?_; rotate_left; (first | rfl | (simp [Region.wanted, yielded, *]; done)); focus (go_step; exact hk)) | (refine Ord.St.skip 20 [21, 22, 23, 24, 25, 26, 27, 28, 29, 30, 31, 32, 33, 34, 35, 36, 37] _ rfl (by kernel_rfl) ?_ (fun K hK => ?_); (first | rfl | (simp [Region.wanted, yielded, *]; done)); go_simp; refine hK _ ?_; clear hK K)
            first | (refine Ord.St.fl2 (T' := ?_) 21 [22, 23, 24, 25, 26, 27, 28, 29, 30, 31, 32, 33, 34, 35, 36, 37] _ _ rfl (by kernel_rfl) ?_ rfl rfl rfl (fun K w' hk => ?_) ?_; rotate_left; (first | rfl | (simp [Region.wanted, yielded, *]; done)); focus (go_step; exact hk)) | (refine Ord.St.skip 21 [22, 23, 24, 25, 26, 27, 28, 29, 30, 31, 32, 33, 34, 35, 36, 37] _ rfl (by kernel_rfl) ?_ (fun K hK => ?_); (first | rfl | (simp [Region.wanted, yielded, *]; done)); go_simp; refine hK _ ?_; clear hK K)
            first | (refine Ord.St.rd2 (T' := ?_) 22 [23, 24, 25, 26, 27, 28, 29, 30, 31, 32, 33, 34, 35, 36, 37] _ _ rfl (by kernel_rfl) ?_ rfl rfl rfl (fun K hk => ?_) ?_; rotate_left; (first | rfl | (simp [Region.wanted, yielded, *]; done)); focus (go_step; exact hk)) | (refine Ord.St.skipr 22 [23, 24, 25, 26, 27, 28, 29, 30, 31, 32, 33, 34, 35, 36, 37] _ rfl (by kernel_rfl) ?_ (fun K hK => ?_); (first | rfl | (simp [Region.wanted, yielded, *]; done)); go_simp; refine hK _ ?_; clear hK K)
            first | (refine Ord.St.fl2 (T' := ?_) 23 [24, 25, 26, 27, 28, 29, 30, 31, 32, 33, 34, 35, 36, 37] _ _ rfl (by kernel_rfl) ?_ rfl rfl rfl (fun K w' hk => ?_) ?_; rotate_left; (first | rfl | (simp [Region.wanted, yielded, *]; done)); focus (go_step; exact hk)) | (refine Ord.St.skip 23 [24, 25, 26, 27, 28, 29, 30, 31, 32, 33, 34, 35, 36, 37] _ rfl (by kernel_rfl) ?_ (fun K hK => ?_); (first | rfl | (simp [Region.wanted, yielded, *]; done)); go_simp; refine hK _ ?_; clear hK K)
            first | (refine Ord.St.fl2 (T' := ?_) 24 [25, 26, 27, 28, 29, 30, 31, 32, 33, 34, 35, 36, 37] _ _ rfl (by kernel_rfl) ?_ rfl rfl rfl (fun K w' hk => ?_) ?_; rotate_left; (first | rfl | (simp [Region.wanted, yielded, *]; done)); focus (go_step; exact hk)) | (refine Ord.St.skip 24 [25, 26, 27, 28, 29, 30, 31, 32, 33, 34, 35, 36, 37] _ rfl (by kernel_rfl) ?_ (fun K hK => ?_); (first | rfl | (simp [Region.wanted, yielded, *]; done)); go_simp; refine hK _ ?_; clear hK K)
            refine Ord.St.fl2 (T' := ?_) 25 [26, 27, 28, 29, 30, 31, 32, 33, 34, 35, 36, 37] _ _ rfl (by kernel_rfl) rfl rfl rfl rfl (fun K w' hk => ?_) ?_
            rotate_left
            · go_step; exact hk
            refine Ord.St.fl2 (T' := ?_) 26 [27, 28, 29, 30, 31, 32, 33, 34, 35, 36, 37] _ _ rfl (by kernel_rfl) rfl rfl rfl rfl (fun K w' hk => ?_) ?_
            rotate_left
            · go_step; exact hk
            first | (refine Ord.St.fl2 (T' := ?_) 27 [28, 29, 30, 31, 32, 33, 34, 35, 36, 37] _ _ rfl (by kernel_rfl) ?_ rfl rfl rfl (fun K w' hk => ?_) ?_; rotate_left; (first | rfl | (simp [Region.wanted, yielded, *]; done)); focus (go_step; exact hk)) | (refine Ord.St.skip 27 [28, 29, 30, 31, 32, 33, 34, 35, 36, 37] _ rfl (by kernel_rfl) ?_ (fun K hK => ?_); (first | rfl | (simp [Region.wanted, yielded, *]; done)); go_simp; refine hK _ ?_; clear hK K)
            first | (refine Ord.St.fl2 (T' := ?_) 28 [29, 30, 31, 32, 33, 34, 35, 36, 37] _ _ rfl (by kernel_rfl) ?_ rfl rfl rfl (fun K w' hk => ?_) ?_; rotate_left; (first | rfl | (simp [Region.wanted, yielded, *]; done)); focus (go_step; exact hk)) | (refine Ord.St.skip 28 [29, 30, 31, 32, 33, 34, 35, 36, 37] _ rfl (by kernel_rfl) ?_ (fun K hK => ?_); (first | rfl | (simp [Region.wanted, yielded, *]; done)); go_simp; refine hK _ ?_; clear hK K)
            first | (refine Ord.St.fl2 (T' := ?_) 29 [30, 31, 32, 33, 34, 35, 36, 37] _ _ rfl (by kernel_rfl) ?_ rfl rfl rfl (fun K w' hk => ?_) ?_; rotate_left; (first | rfl | (simp [Region.wanted, yielded, *]; done)); focus (go_step; exact hk)) | (refine Ord.St.skip 29 [30, 31, 32, 33, 34, 35, 36, 37] _ rfl (by kernel_rfl) ?_ (fun K hK => ?_); (first | rfl | (simp [Region.wanted, yielded, *]; done)); go_simp; refine hK _ ?_; clear hK K)
            first | (refine Ord.St.fl2 (T' := ?_) 30 [31, 32, 33, 34, 35, 36, 37] _ _ rfl (by kernel_rfl) ?_ rfl rfl rfl (fun K w' hk => ?_) ?_; rotate_left; (first | rfl | (simp [Region.wanted, yielded, *]; done)); focus (go_step; exact hk)) | (refine Ord.St.skip 30 [31, 32, 33, 34, 35, 36, 37] _ rfl (by kernel_rfl) ?_ (fun K hK => ?_); (first | rfl | (simp [Region.wanted, yielded, *]; done)); go_simp; refine hK _ ?_; clear hK K)
            first | (refine Ord.St.rd2 (T' := ?_) 31 [32, 33, 34, 35, 36, 37] _ _ rfl (by kernel_rfl) ?_ rfl rfl rfl (fun K hk => ?_) ?_; rotate_left; (first | rfl | (simp [Region.wanted, yielded, *]; done)); focus (go_step; exact hk)) | (refine Ord.St.skipr 31 [32, 33, 34, 35, 36, 37] _ rfl (by kernel_rfl) ?_ (fun K hK => ?_); (first | rfl | (simp [Region.wanted, yielded, *]; done)); go_simp; refine hK _ ?_; clear hK K)
            first | (refine Ord.St.fl2 (T' := ?_) 32 [33, 34, 35, 36, 37] _ _ rfl (by kernel_rfl) ?_ rfl rfl rfl (fun K w' hk => ?_) ?_; rotate_left; (first | rfl | (simp [Region.wanted, yielded, *]; done)); focus (go_step; exact hk)) | (refine Ord.St.skip 32 [33, 34, 35, 36, 37] _ rfl (by kernel_rfl) ?_ (fun K hK => ?_); (first | rfl | (simp [Region.wanted, yielded, *]; done)); go_simp; refine hK _ ?_; clear hK K)
            refine Ord.St.fl2 (T' := ?_) 33 [34, 35, 36, 37] _ _ rfl (by kernel_rfl) rfl rfl rfl rfl (fun K w' hk => ?_) ?_
            rotate_left
            · go_step; exact hk
            refine Ord.St.fl2 (T' := ?_) 34 [35, 36, 37] _ _ rfl (by kernel_rfl) rfl rfl rfl rfl (fun K w' hk => ?_) ?_
            rotate_left
            · go_step; exact hk
            first | (refine Ord.St.fl2 (T' := ?_) 35 [36, 37] _ _ rfl (by kernel_rfl) ?_ rfl rfl rfl (fun K w' hk => ?_) ?_; rotate_left; (first | rfl | (simp [Region.wanted, yielded, *]; done)); focus (go_step; exact hk)) | (refine Ord.St.skip 35 [36, 37] _ rfl (by kernel_rfl) ?_ (fun K hK => ?_); (first | rfl | (simp [Region.wanted, yielded, *]; done)); go_simp; refine hK _ ?_; clear hK K)
            first | (refine Ord.St.fl2 (T' := ?_) 36 [37] _ _ rfl (by kernel_rfl) ?_ rfl rfl rfl (fun K w' hk => ?_) ?_; rotate_left; (first | rfl | (simp [Region.wanted, yielded, *]; done)); focus (go_step; exact hk)) | (refine Ord.St.skip 36 [37] _ rfl (by kernel_rfl) ?_ (fun K hK => ?_); (first | rfl | (simp [Region.wanted, yielded, *]; done)); go_simp; refine hK _ ?_; clear hK K)
            refine Ord.St.fl2 (T' := ?_) 37 [] _ _ rfl (by kernel_rfl) rfl rfl rfl rfl (fun K w' hk => ?_) ?_
            rotate_left
            · go_step; exact hk
            refine Ord.St.nil ?_
            clear hBq HK x0 x1 x2 d0
            by_cases hmod : n % 3 = G.nodes.length % 3
            · have qm : ((n : Int) % 3 == (G.nodes.length : Int) % 3) = true := by simp; omega
              clear hmod
              have hcA : Ch [] W8 ((W8.alloc (.cells #[.int .i64 (r : Int)] 33)).drew) := ((Ch.refl _ _).alloc _).drew
              have hrA := HRW8.out.ch hcA (by simp)
              have hbA : blk ((W8.alloc (.cells #[.int .i64 (r : Int)] 33)).drew) W8.heap.size [.int .i64 (r : Int)] := (blk.new' _ _ rfl).drew
              have HRA := Lib.hid hrA; clear hrA HRW8
              have HBA := Lib.hid hbA; clear hbA
              have HCA := Lib.hid hcA; clear hcA
              go_wp2_with (at_builtin; go_loud (refine wpList_append_row slRefs rfl _ _ rfl (v := .slice oa L.length oc) (n := L.length) (xs := refsCells L) rfl HRA.out (ad := ⟨W8.heap.size, 0, none⟩) (m := 1) (c := 1) (news := [.int .i64 (r : Int)]) rfl rfl (news_blk HBA.out) (by simp [Value.oneCell']) (by omega) (by omega) ?_; intro v' w4 hown4 hC4 hf4; have HO4 := Lib.hid hown4; clear hown4; have HC4 := Lib.hid hC4; clear hC4; have HF4 := Lib.hid hf4; clear hf4))
              go_roundw
              case rel =>
                obtain ⟨p1, p2⟩ := app_step HC68.out HCA.out (fun q hq => (HLO.out q hq).1) HC4.out HF4.out
                refine ⟨k + 1, L ++ [r], by omega, by go_num, by simp; omega, ?_, p1, ?_, ?_, fun q hq => ⟨p2 q hq, ?_⟩⟩
                · intro q hq
                  rcases List.mem_append.1 hq with hq | hq
                  · exact hLb'.out q hq
                  · simp at hq; subst hq; exact hrl
                · exact (HB8.out.ch HCA.out (by simp)).ch HC4.out (fun hin => (HLO.out _ hin).2 rfl)
                · have := HO4.out; simpa [refsCells] using this
                · rcases HF4.out q (by simpa using hq) with e | e
                  · exact (HLO.out q (by simpa using e)).2
                  · have := HB8.out.lt; have := HCA.out.size; omega
              case measure => simp [intOf]; omega
            · have qm : ((n : Int) % 3 == (G.nodes.length : Int) % 3) = false := by simp; omega
              clear hmod
              go_wp2_with fail
              go_roundw
              case rel => exact ⟨k + 1, L, by omega, by go_num, by omega, hLb'.out, HC68.out.drew, HB8.out.drew, HRW8.out.ch (Ch.refl [] _).drew (by simp), HLO.out⟩
              case measure => simp [intOf]; omega
          · have ht := tells_no (ns := G.nodes) (r := x) (by omega)
            rw [ht.l, ht.r, ht.is] at hS
            have HS := Lib.hid hS; clear hS
            have HT := Lib.hid ht; clear ht
            by_cases hz : 0 ≤ z
            · have q0 : decide (0 ≤ z) = true := decide_eq_true hz
              have q1 : decide (z < (G.nodes.length : Int)) = false := decide_eq_false (by omega)
              clear his
              go_wp2_with fail
              refine HS.out.mono ?_
              rintro e w7 ⟨rfl, hc7⟩
              have hg7 := HG.out.same hc7 (by simp)
              have hD := Depth_g hg7 x (by omega)
              rw [HT.out.dep, HT.out.err] at hD
              have hR := Right_g hg7 x (by omega)
              rw [HT.out.right] at hR
              have hK := Kind_g hg7 x (by omega)
              rw [HT.out.kind] at hK
              have HD := Lib.hid hD; clear hD
              have HR7 := Lib.hid hR; clear hR
              have HK := Lib.hid hK; clear hK
              have hc67 := HC.out.trans hc7 (by simp)
              have b3 := B36.out.ch hc67 (by simp)
              have y0 := b3.cell (i := 0) rfl
              have y1 := b3.cell (i := 1) rfl
              have hb7 := HB.out.ch hc7 (by simp)
              have hr7 := HROW.out.ch hc7 (by simp)
              have HC67 := Lib.hid hc67; clear hc67
              have HB7 := Lib.hid hb7; clear hb7
              have HRW7 := Lib.hid hr7; clear hr7
              clear HROW HB HC HS HG hg7 hc7 b3 c0
              go_wp2_with fail
              refine HD.out.mono ?_
              rintro e w' ⟨rfl, rfl⟩
              go_wp2_with fail
              refine HR7.out.mono ?_
              rintro e w' ⟨rfl, rfl⟩
              go_wp2_with fail
              refine (HN1.out _).mono ?_
              rintro e w' ⟨rfl, rfl⟩
              go_wp2_with fail
              refine (HN3.out _).mono ?_
              rintro e w' ⟨rfl, rfl⟩
              go_wp2_with fail
              refine (HN1.out _).mono ?_
              rintro e w' ⟨rfl, rfl⟩
              go_wp2_with fail
              refine (HN2.out _).mono ?_
              rintro e w' ⟨rfl, rfl⟩
              go_wp2_with fail
              refine HK.out.mono ?_
              rintro e w' ⟨rfl, rfl⟩
              go_wp2_with fail
              go_roundw
              case rel => exact ⟨k + 1, L, by omega, by go_num, by omega, hLb'.out, HC67.out, HB7.out, HRW7.out, HLO.out⟩
              case measure => simp [intOf]; omega
            · have q0 : decide (0 ≤ z) = false := decide_eq_false hz
              clear his
              go_wp2_with fail
              refine HS.out.mono ?_
              rintro e w7 ⟨rfl, hc7⟩
              have hg7 := HG.out.same hc7 (by simp)
              have hD := Depth_g hg7 x (by omega)
              rw [HT.out.dep, HT.out.err] at hD
              have hR := Right_g hg7 x (by omega)
              rw [HT.out.right] at hR
              have hK := Kind_g hg7 x (by omega)
              rw [HT.out.kind] at hK
              have HD := Lib.hid hD; clear hD
              have HR7 := Lib.hid hR; clear hR
              have HK := Lib.hid hK; clear hK
              have hc67 := HC.out.trans hc7 (by simp)
              have b3 := B36.out.ch hc67 (by simp)
              have y0 := b3.cell (i := 0) rfl
              have y1 := b3.cell (i := 1) rfl
              have hb7 := HB.out.ch hc7 (by simp)
              have hr7 := HROW.out.ch hc7 (by simp)
              have HC67 := Lib.hid hc67; clear hc67
              have HB7 := Lib.hid hb7; clear hb7
              have HRW7 := Lib.hid hr7; clear hr7
              clear HROW HB HC HS HG hg7 hc7 b3 c0
              go_wp2_with fail
              refine HD.out.mono ?_
              rintro e w' ⟨rfl, rfl⟩
              go_wp2_with fail
              refine HR7.out.mono ?_
              rintro e w' ⟨rfl, rfl⟩
              go_wp2_with fail
              refine (HN1.out _).mono ?_
              rintro e w' ⟨rfl, rfl⟩
              go_wp2_with fail
              refine (HN3.out _).mono ?_
              rintro e w' ⟨rfl, rfl⟩
              go_wp2_with fail
              refine (HN1.out _).mono ?_
              rintro e w' ⟨rfl, rfl⟩
              go_wp2_with fail
              refine (HN2.out _).mono ?_
              rintro e w' ⟨rfl, rfl⟩
              go_wp2_with fail
              refine HK.out.mono ?_
              rintro e w' ⟨rfl, rfl⟩
              go_wp2_with fail
              go_roundw
              case rel => exact ⟨k + 1, L, by omega, by go_num, by omega, hLb'.out, HC67.out, HB7.out, HRW7.out, HLO.out⟩
              case measure => simp [intOf]; omega
        · have hk2 : k = 2 := by omega
          rw [hk2]
          rw [hk2] at hLk
          have HC := Lib.hid hc; clear hc b3
          have HROW := Lib.hid hrow; clear hrow
          have HLO := Lib.hid hlo; clear hlo
          have hLb' := Lib.hid hLb; clear hLb
          clear hk2 hb hlt hk
          go_wp2_with fail
          go_roundw
          case rel => exact ⟨z + 1, L, by omega, by omega, rfl, by omega, hLb'.out, HC.out, HROW.out, fun q hq => (HLO.out q hq).1⟩
          case measure => simp [intOf]; omega
    · have qz : decide (z ≤ (G.nodes.length : Int)) = false := decide_eq_false hzl
      have hLL : L.length ≤ 140000 := by omega
      obtain ⟨wo, rfl⟩ : ∃ wo : World, wo = wr := ⟨_, rfl⟩
      have hcw := HC6.out.trans hc (by simp)
      have hg := H.out.same hcw (by simp)
      have hsl := Sl.of_row' hrow rfl (by omega)
      have hC := Cone_g hg L.length oc rfl hsl (fun p hp => by subst hp; exact (hrow.lt p.block rfl).2) hLb
      have HCN := Lib.hid hC; clear hC
      have HC := Lib.hid hc; clear hc b3
      have HCW := Lib.hid hcw; clear hcw
      have HG := Lib.hid hg; clear hg
      have HSL := Lib.hid hsl; clear hsl
      have hLb' := Lib.hid hLb; clear hLb
      have HROW := Lib.hid hrow; clear hrow
      have HLO := Lib.hid hlo; clear hlo
      clear hzl
      go_wp2_with fail
      refine HCN.out.mono ?_
      rintro e wc ⟨v, rfl, hcr, hcf, hcc⟩
      obtain ⟨ca, cc, rfl⟩ := row.shape hcr
      have hcl : (cone G.nodes L).length ≤ G.nodes.length := by unfold cone coneDown; rw [List.length_reverse]; exact coneFrom_len _ _ _
      have hcsl := Sl.of_row' hcr rfl (by omega)
      have HCR := Lib.hid hcr; clear hcr
      have HCF := Lib.hid hcf; clear hcf
      have HCSL := Lib.hid hcsl; clear hcsl
      have HCC := Lib.hid hcc; clear hcc HCN y0 y1 qz
      go_wp2_with fail
      go_loopw [20, 207] (fun o i wr => ∃ k : Nat, k ≤ L.length ∧ i = .int .i64 k ∧ Ch [] wc wr ∧ row wr 3 1 o k (refsCells (L.take k)) ∧ ∀ q ∈ o.ownBlock.toList, wc.heap.size ≤ q) (fun _ i _ => L.length - (intOf i).toNat)
      case atStart => exact ⟨0, by omega, rfl, Ch.refl _ _, ⟨rfl, .inl ⟨rfl, rfl⟩⟩, by simp⟩
      case round =>
        obtain ⟨k, hk, rfl, hc, hrow, hlo⟩ := hrel
        obtain ⟨pa, pc, rfl⟩ := row.shape hrow
        by_cases hlt : k < L.length
        · obtain ⟨x, hx⟩ : ∃ x, L[k]? = some x := ⟨_, List.getElem?_eq_getElem hlt⟩
          have hsu : refsCells (L.take (k + 1)) = refsCells (L.take k) ++ [.int .i64 x] := by unfold refsCells; rw [List.take_add_one, hx]; simp
          obtain ⟨xb, xo, rfl, hcl'⟩ := HSL.out.cells k x (by rw [List.getElem?_map, hx]; rfl)
          have c0 := ((HCC.out.trans hc (by simp)).cell (cell_lt hcl') (by simp)).trans hcl'
          have HSU := Lib.hid hsu; clear hsu hx hcl'
          have hcA : Ch [] wr (wr.alloc (.cells #[.int .i64 x] 3)) := (Ch.refl _ _).alloc _
          have hrA := hrow.ch hcA (by simp)
          have hbA : blk (wr.alloc (.cells #[.int .i64 x] 3)) wr.heap.size [.int .i64 x] := blk.new' _ _ rfl
          have HRA := Lib.hid hrA; clear hrA hrow
          have HBA := Lib.hid hbA; clear hbA
          have HCA := Lib.hid hcA; clear hcA
          have HC2 := Lib.hid hc; clear hc
          have HLO2 := Lib.hid hlo; clear hlo
          go_wp2_with (at_builtin; go_loud (refine wpList_append_row slInts rfl _ _ rfl (v := .slice pa k pc) (n := k) (xs := refsCells (L.take k)) rfl HRA.out (ad := ⟨wr.heap.size, 0, none⟩) (m := 1) (c := 1) (news := [.int .i64 x]) rfl rfl (news_blk HBA.out) (by simp [Value.oneCell']) (by omega) (by omega) ?_; intro v' w4 hown4 hC4 hf4; have HO4 := Lib.hid hown4; clear hown4; have HC4 := Lib.hid hC4; clear hC4; have HF4 := Lib.hid hf4; clear hf4))
          go_roundw
          case rel =>
            obtain ⟨q1, q2⟩ := app_step HC2.out HCA.out HLO2.out HC4.out HF4.out
            refine ⟨k + 1, by omega, by go_num, q1, ?_, q2⟩
            rw [HSU.out]; exact HO4.out
          case measure => simp [intOf]; omega
        · have hkn : k = L.length := by omega
          rw [hkn, List.take_of_length_le (Nat.le_refl _)] at hrow
          rw [hkn] at hlo
          rw [hkn]
          have hlsl := Sl.of_row' hrow rfl (by omega)
          have hplt : ∀ p, pa = some p → p.block < wr.heap.size := fun p hp => by subst hp; exact (hrow.lt p.block rfl).2
          have hplo : ∀ p, pa = some p → wc.heap.size ≤ p.block := fun p hp => by subst hp; exact hlo p.block (by simp)
          have HPLO := Lib.hid hplo; clear hplo
          clear hkn hrow hlo hlt hk
          obtain ⟨wl, rfl⟩ : ∃ wl : World, wl = wr := ⟨_, rfl⟩
          have hccl := HCC.out.trans hc (by simp)
          have h6l := HC.out.trans hccl (by simp)
          have b3 := B36.out.ch h6l (by simp)
          have y0 := b3.cell (i := 0) rfl
          have y1 := b3.cell (i := 1) rfl
          have hcA : Ch [] wl (wl.alloc (.cells #[.int .i64 (2 * (G.nodes.length : Int))] 33)) := (Ch.refl _ _).alloc _
          have hrA := (HROW.out.ch hccl (by simp)).ch hcA (by simp)
          have hbA : blk (wl.alloc (.cells #[.int .i64 (2 * (G.nodes.length : Int))] 33)) wl.heap.size [.int .i64 (2 * (G.nodes.length : Int))] := blk.new' _ _ rfl
          have HRA := Lib.hid hrA; clear hrA
          have HBA := Lib.hid hbA; clear hbA
          have HCA := Lib.hid hcA; clear hcA
          have HCL := Lib.hid hc; clear hc
          have HCCL := Lib.hid hccl; clear hccl
          have H6L := Lib.hid h6l; clear h6l b3
          have HLSL := Lib.hid hlsl; clear hlsl
          have HPLT := Lib.hid hplt; clear hplt
          go_wp2_with (at_builtin; go_loud (refine wpList_append_row slRefs rfl _ _ rfl (v := .slice oa L.length oc) (n := L.length) (xs := refsCells L) rfl HRA.out (ad := ⟨wl.heap.size, 0, none⟩) (m := 1) (c := 1) (news := [.int .i64 (2 * (G.nodes.length : Int))]) rfl rfl (news_blk HBA.out) (by simp [Value.oneCell']) (by omega) (by omega) ?_; intro v' w4 hown4 hC4 hf4; obtain ⟨na, ncap, rfl⟩ := row.shape hown4; have HO4 := Lib.hid hown4; clear hown4; have HC4 := Lib.hid hC4; clear hC4; have HF4 := Lib.hid hf4; clear hf4))
          have hlo2 : ∀ q ∈ (Value.slice oa L.length oc).ownBlock.toList, w6.heap.size ≤ q := HLO.out
          have hC64 : Ch [] w6 w4 := (H6L.out.trans HCA.out (by simp)).trans HC4.out (fun k hk => .inr (hlo2 k hk))
          have hcw4 := HC6.out.trans hC64 (by simp)
          have hrw4 : row w4 33 1 (.slice na (L.length + 1) ncap) (L.length + 1) (refsCells (L ++ [2 * G.nodes.length])) := by
            have := HO4.out
            simpa [refsCells] using this
          have hsl4 := Sl.of_row' hrw4 (by simp) (by omega)
          have hCB := Cone_bad (H.out.same hcw4 (by simp)) (L.length + 1) ncap (by simp) hsl4 (fun x hx => by
            obtain ⟨q, hq, rfl⟩ := List.mem_map.1 hx
            rcases List.mem_append.1 hq with hq | hq
            · have := hLb'.out q hq; omega
            · simp at hq; omega) (fun p hp => by subst hp; exact (hrw4.lt p.block rfl).2) (by
            rw [List.any_eq_true]
            exact ⟨((2 * G.nodes.length : Nat) : Int), List.mem_map.2 ⟨_, by simp, rfl⟩, by unfold right; simp⟩)
          have HCB := Lib.hid hCB; clear hCB
          have hcb : ∀ q, (Value.slice ca (cone G.nodes L).length cc).ownBlock = some q → q ∉ (Value.slice oa L.length oc).ownBlock.toList := fun q hq hin => by
            have := HCF.out q hq
            have := (HROW.out.lt q (by simpa using hin)).2
            omega
          have hpb : ∀ p, pa = some p → p.block ∉ (Value.slice oa L.length oc).ownBlock.toList := fun p hp hin => by
            have := HPLO.out p hp
            have := (HROW.out.lt p.block (by simpa using hin)).2
            have := HCC.out.size
            omega
          have hs4 := (HLSL.out.ch HCA.out (by simp)).ch HC4.out hpb
          have hcsl4 := (((HCSL.out.ch HCL.out (by simp)).ch HCA.out (by simp)).ch HC4.out (fun p hp => by subst hp; exact hcb _ rfl))
          have hpl4 : ∀ p, pa = some p → p.block < w4.heap.size := fun p hp => by have := HPLT.out p hp; have := HCA.out.size; have := HC4.out.size; omega
          have HS4 := Lib.hid hs4; clear hs4
          have HCSL4 := Lib.hid hcsl4; clear hcsl4
          have HPL4 := Lib.hid hpl4; clear hpl4
          have HC64 := Lib.hid hC64; clear hC64
          have HCW4 := Lib.hid hcw4; clear hcw4
          have HCB2 := Lib.hid hcb; clear hcb
          clear hsl4 hrw4 hpb y0 y1 hlo2
          refine HCB.out.mono ?_
          rintro e w5 ⟨rfl, hc45⟩
          have b3 := (B36.out.ch HC64.out (by simp)).ch hc45 (by simp)
          have y0 := b3.cell (i := 0) rfl
          have y1 := b3.cell (i := 1) rfl
          have hRC := rCone_is (HR.out.ch (HCW4.out.trans hc45 (by simp)) (by simp)) L.length pc rfl (HS4.out.ch hc45 (by simp)) hLb'.out (by omega)
          have HRC := Lib.hid hRC; clear hRC b3
          have HC45 := Lib.hid hc45; clear hc45 HCB
          go_wp2_with fail
          refine HRC.out.mono ?_
          rintro e w7 ⟨v, rfl, hqr, hqlo, hc57⟩
          obtain ⟨qa, qc, rfl⟩ := row.shape hqr
          have hqsl := Sl.of_row' hqr rfl (by omega)
          have hE := Eqint_same (n := (cone G.nodes L).length) cc qc (by simp) ((HCSL4.out.ch HC45.out (by simp)).ch hc57 (by simp)) hqsl
          have HE := Lib.hid hE; clear hE hqsl hqr hqlo HRC y0 y1
          have HC57 := Lib.hid hc57; clear hc57
          go_wp2_with fail
          refine HE.out.mono ?_
          rintro e w8 ⟨rfl, hc78⟩
          have hc68 : Ch [] w6 w8 := ((HC64.out.trans HC45.out (by simp)).trans HC57.out (by simp)).trans hc78 (by simp)
          have hcl8 : Ch [] w4 w8 := (HC45.out.trans HC57.out (by simp)).trans hc78 (by simp)
          have hir8 := IR6.out.ch hc68 (by simp)
          have hcr8 := (((HCR.out.ch HCL.out (by simp)).ch HCA.out (by simp)).ch HC4.out HCB2.out).ch hcl8 (by simp)
          have hib : ∀ q ∈ (Value.slice ia (inputs G.nodes).length ic).ownBlock.toList, w.heap.size ≤ q := fun q hq => by have := ILO.out q hq; have := HC0.out.size; omega
          have hcbf : ∀ q ∈ (Value.slice ca (cone G.nodes L).length cc).ownBlock.toList, w.heap.size ≤ q := fun q hq => by have := HCF.out q (by simpa using hq); have := HCW.out.size; omega
          have hdis : ∀ q, (Value.slice ca (cone G.nodes L).length cc).ownBlock = some q → q ∉ (Value.slice ia (inputs G.nodes).length ic).ownBlock.toList := fun q hq hin => by
            have := HCF.out q hq
            have := (IROW.out.lt q (by simpa using hin)).2
            have := HC16.out.size
            have := HC.out.size
            omega
          have IB := Lib.hid hib; clear hib
          have hcb3 : ∀ q ∈ (Value.slice ca (cone G.nodes L).length cc).ownBlock.toList, W0.heap.size ≤ q := fun q hq => by have := HCF.out q (by simpa using hq); have := HC.out.size; have := HC16.out.size; have := HC1.out.size; omega
          have CB3 := Lib.hid hcb3; clear hcb3
          have CB := Lib.hid hcbf; clear hcbf
          have DIS := Lib.hid hdis; clear hdis
          have IR8 := Lib.hid hir8; clear hir8
          have CR8 := Lib.hid hcr8; clear hcr8 hcl8
          have b8 := B36.out.ch hc68 (by simp)
          have hcw8 := HC6.out.trans hc68 (by simp)
          have HCW8 := Lib.hid hcw8; clear hcw8 hc68 hc78
          have B8 := Lib.hid b8; clear b8
          clear HE HC57 HC45 HCW4 HC64 HPL4 HCSL4 HS4 HCB2 H6L HCCL HCL HCA HBA HRA HLSL HPLT HO4 HC4 HF4 HROW HLO hLb' HSL HG HCW HC HCC HCSL HCF HCR
          go_wp2_with fail
          go_loopw [244] (fun i wr => ∃ k : Nat, k ≤ (inputs G.nodes).length ∧ i = .int .i64 k ∧ Ch (Value.slice ia (inputs G.nodes).length ic).ownBlock.toList w8 wr ∧ ∀ j, j < (inputs G.nodes).length → ∃ (ib : Nat) (ys : List Value), ia = some ⟨ib, 0, none⟩ ∧ blk wr ib ys ∧ (inputs G.nodes).length ≤ ys.length) (fun i _ => (inputs G.nodes).length - (intOf i).toNat)
          case atStart => exact ⟨0, by omega, rfl, Ch.refl _ _, row_blk IR8.out⟩
          case round =>
            obtain ⟨k, hk, rfl, hc, hbb⟩ := hrel
            by_cases hlt : k < (inputs G.nodes).length
            · obtain ⟨ib, ys, rfl, hb, hyl⟩ := hbb k hlt
              have hold := hb.cell (List.getElem?_eq_getElem (show k < ys.length by omega))
              have hfz := hb.frozen (i := k)
              have hb2 := hb.set (i := k) (.int .i64 77)
              have HB2 := Lib.hid hb2; clear hb2 hbb hb
              have HC := Lib.hid hc; clear hc
              generalize ys[k] = old at *
              go_wp2_with fail
              go_roundw
              case rel => exact ⟨k + 1, by omega, by go_num, HC.out.setCell (by simp) _, fun _ _ => ⟨ib, _, rfl, HB2.out, by simpa using hyl⟩⟩
              case measure => simp [intOf]; omega
            · have hcr := CR8.out.ch hc DIS.out
              have hcx := HCW8.out.trans hc (fun k hk => .inr (IB.out k hk))
              have b3 := B8.out.ch hc (fun hin => by
                have := (IROW.out.lt _ (by simpa using hin)).2
                have := ILO.out _ hin
                have := B3.out.lt
                omega)
              have HCX := Lib.hid hcx; clear hcx hc hbb
              have CRX := Lib.hid hcr; clear hcr
              have BX := Lib.hid b3; clear b3
              clear IR8 CR8
              obtain ⟨wi, rfl⟩ : ∃ wi : World, wi = wr := ⟨_, rfl⟩
              go_wp2_with fail
              go_loopw [253] (fun i wr => ∃ k : Nat, k ≤ (cone G.nodes L).length ∧ i = .int .i64 k ∧ Ch (Value.slice ca (cone G.nodes L).length cc).ownBlock.toList wi wr ∧ ∀ j, j < (cone G.nodes L).length → ∃ (ib : Nat) (ys : List Value), ca = some ⟨ib, 0, none⟩ ∧ blk wr ib ys ∧ (cone G.nodes L).length ≤ ys.length) (fun i _ => (cone G.nodes L).length - (intOf i).toNat)
              case atStart => exact ⟨0, by omega, rfl, Ch.refl _ _, row_blk CRX.out⟩
              case round =>
                obtain ⟨k, hk, rfl, hc, hbb⟩ := hrel
                by_cases hlt : k < (cone G.nodes L).length
                · obtain ⟨ib, ys, rfl, hb, hyl⟩ := hbb k hlt
                  have hold := hb.cell (List.getElem?_eq_getElem (show k < ys.length by omega))
                  have hfz := hb.frozen (i := k)
                  have hb2 := hb.set (i := k) (.int .i64 77)
                  have HB2 := Lib.hid hb2; clear hb2 hbb hb
                  have HC := Lib.hid hc; clear hc
                  generalize ys[k] = old at *
                  go_wp2_with fail
                  go_roundw
                  case rel => exact ⟨k + 1, by omega, by go_num, HC.out.setCell (by simp) _, fun _ _ => ⟨ib, _, rfl, HB2.out, by simpa using hyl⟩⟩
                  case measure => simp [intOf]; omega
                · have hcx := HCX.out.trans hc (fun k hk => .inr (CB.out k hk))
                  have b3 := BX.out.ch hc (fun hin => by
                    have := CB3.out _ hin
                    have := B3.out.lt
                    omega)
                  have y0 := b3.cell (i := 0) rfl
                  have y1 := b3.cell (i := 1) rfl
                  have BY := Lib.hid b3; clear b3
                  have HCY := Lib.hid hcx; clear hcx hc hbb
                  clear IB CB DIS
                  go_wp2_with fail
                  have hIY := Inputs_g ((H.out.same HCY.out (by simp)).same (Ch.refl [] _).drew (by simp))
                  have HIY := Lib.hid hIY; clear hIY
                  refine Ord.St.door (fun w' => Ch [] wr w') [.fl, .ef, .ho, .ef, .ef, .ef, .fl] [0, 1, 0, 7, 15, 31, 63] [0, 1, 2, 3, 4, 5, 6] mixed (by kernel_rfl) rfl ?_
                  have hcurd : Ch [] wr wr.drew := (Ch.refl [] wr).drew
                  refine Ord.St.fl2 (T' := ?_) 0 [1, 2, 3, 4, 5, 6] _ _ rfl (by kernel_rfl) rfl rfl rfl rfl (fun K w' hk => ?_) ?_
                  rotate_left
                  · go_step; exact hk
                  refine Ord.St.ho2 (T' := ?_) 2 [1, 3, 4, 5, 6] _ _ rfl (by kernel_rfl) rfl rfl rfl rfl ?_ (fun K w' hw' hk => ?_) ?_
                  rotate_left
                  · trivial
                  · have z0 := (BY.out.ch hw' (by simp)).cell (i := 0) rfl; have z1 := (BY.out.ch hw' (by simp)).cell (i := 1) rfl; go_step; exact hk
                  refine Ord.St.efC 1 [3, 4, 5, 6] _ rfl (by kernel_rfl) (fun K hK => ?_)
                  go_wp2_with fail
                  refine HIY.out.mono ?_
                  rintro e wA ⟨v, rfl, hrow, hfr, hcA⟩
                  obtain ⟨ja, jc, rfl⟩ := row.shape hrow
                  have hslA := Sl.of_row' hrow rfl (by omega)
                  have HSA := Lib.hid hslA; clear hslA hrow hfr
                  have hcur : Ch [] wr wA := hcurd.trans hcA (by simp)
                  have hRI := rInputs_is (HR.out.ch (HCY.out.trans hcur (by simp)) (by simp))
                  have HRI := Lib.hid hRI; clear hRI hcurd y0 y1 hcA
                  go_wp2_with fail
                  refine ⟨rfl, hK _ _ ?_ ?_⟩
                  · exact hcur
                  clear hK K
                  refine Ord.St.ef 3 [4, 5, 6] _ rfl (by kernel_rfl) (fun K hK => ?_)
                  go_wp2_with fail
                  refine HRI.out.mono ?_
                  rintro e wB ⟨v, rfl, hrow, hlo3, hc3⟩
                  obtain ⟨ka, kc, rfl⟩ := row.shape hrow
                  have hsl3 := Sl.of_row' hrow rfl (by omega)
                  have hRf := refs20_is (inputs G.nodes).length kc (by simp) hsl3 (by omega)
                  have HRF := Lib.hid hRf; clear hRf hsl3 hrow hlo3
                  have HC3 := Lib.hid hc3; clear hc3
                  go_wp2_with fail
                  refine ⟨rfl, hK _ _ ?_⟩; clear hK K
                  refine Ord.St.ef 4 [5, 6] _ rfl (by kernel_rfl) (fun K hK => ?_)
                  go_wp2_with fail
                  refine HRF.out.mono ?_
                  rintro e wC ⟨v, rfl, hrow, hlo4, hc4⟩
                  obtain ⟨ma, mc, rfl⟩ := row.shape hrow
                  have hsl4 := Sl.of_ints hrow (by omega)
                  have hE := Eqref_same (n := (inputs G.nodes).length) jc mc (by simp) ((HSA.out.ch HC3.out (by simp)).ch hc4 (by simp)) hsl4
                  have HE := Lib.hid hE; clear hE hsl4 hrow hlo4
                  have HC4 := Lib.hid hc4; clear hc4
                  go_wp2_with fail
                  refine ⟨rfl, hK _ _ ?_⟩; clear hK K
                  refine Ord.St.ef 5 [6] _ rfl (by kernel_rfl) (fun K hK => ?_)
                  go_wp2_with fail
                  refine HE.out.mono ?_
                  rintro e wD ⟨rfl, hc5⟩
                  have HC5 := Lib.hid hc5; clear hc5
                  go_wp2_with fail
                  refine ⟨rfl, hK _ _ ?_⟩; clear hK K
                  refine Ord.St.fl2 (T' := ?_) 6 [] _ _ rfl (by kernel_rfl) rfl rfl rfl rfl (fun K w' hk => ?_) ?_
                  rotate_left
                  · go_step; exact hk
                  refine Ord.St.nil ?_
                  go_wp2_with fail
                  go_ret
                  exact ⟨rfl, (((HCY.out.trans hcur (by simp)).trans HC3.out (by simp)).trans HC4.out (by simp)).trans HC5.out (by simp)⟩
end
end Go.Proofs.Ytnajonchjlplmaa
