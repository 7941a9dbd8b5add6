/-
  Walks over the reference's Or, Mux, Xor, All, Any. Conditions: a graph that can be read, references of it.
-/
import Derived.Test.YtnajonchjlplmaaQR2
import Derived.Deep.Cut
namespace Go.Aig
def rOr (G : Gra) (a b : Nat) : Res := if (and G (neg a) (neg b)).2.2 ≠ 0 then (G, 0, (and G (neg a) (neg b)).2.2) else ((and G (neg a) (neg b)).1, neg (and G (neg a) (neg b)).2.1, 0)
theorem rOr_ok {G : Gra} (h : Ok G) {a b : Nat} (ha : a < 2 * G.nodes.length) (hb : b < 2 * G.nodes.length) :
    Ok (rOr G a b).1 ∧ Ext G (rOr G a b).1 ∧ (rOr G a b).2.1 < 2 * (rOr G a b).1.nodes.length ∧ ((rOr G a b).2.2 = 0 ∨ (rOr G a b).2.2 = 201) := by
  obtain ⟨h1, h2, h3, h4⟩ := and_ok h (neg_lt ha) (neg_lt hb)
  have := h.wf.pos
  unfold rOr
  split
  · exact ⟨h, .refl _, by show 0 < 2 * G.nodes.length; omega, h4⟩
  · exact ⟨h1, h2, neg_lt h3, .inl rfl⟩
end Go.Aig
namespace Go.Proofs.Ytnajonchjlplmaa
open Go.RowKit Go.Mem Go.Aig
theorem rto_ne {w : World} {rb rb' b : Nat} {xs : List Value} (h : blk w b xs) (hr : rb ≠ b) (hf : rb' = rb ∨ w.heap.size ≤ rb') : rb' ≠ b := by
  have := h.lt
  rcases hf with e | e <;> omega
theorem set2_ch {w W : World} {b : Nat} {u v : Value} (h : W = (w.setCell ⟨b, 0, none⟩ u).setCell ⟨b, 1, none⟩ v) : Ch [b] w W := by rw [h]; exact ((Ch.refl [b] _).setCell (by simp) _).setCell (by simp) _
theorem rg_ne {w : World} {rb cap : Nat} {G : Gra} (h : RG w rb cap G) : rb ≠ w.heap.size := by have := h.lt; omega
section
set_option maxRecDepth 100000 in
set_option maxHeartbeats 2000000 in
theorem rOr_is {w : World} {rb cap : Nat} {G : Gra} (h : RG w rb cap G) {a b : Nat} (ha : a < 2 * G.nodes.length) (hb : b < 2 * G.nodes.length) : Calls Try.prog 77 #[.agg #[.int .i64 G.most, .slice (some ⟨rb, 0, none⟩) G.nodes.length cap], .int .i64 a, .int .i64 b] w (RTo w rb (rOr G a b)) := by
  obtain ⟨hl, hp, hmo⟩ := h.len
  have hle := h.le
  have hmx := h.mx
  have hrb := h.lt
  obtain ⟨o1, o2, o3, o4⟩ := and_ok h.ok (neg_lt ha) (neg_lt hb)
  have hNa := fun (W : World) => rNot_is W a (by omega)
  have hNb := fun (W : World) => rNot_is W b (by omega)
  have HNA := Lib.hid hNa; clear hNa
  have HNB := Lib.hid hNb; clear hNb
  have hAnd := fun (W : World) (hW : Ch [] w W) => rAnd_is (h.ch hW (by simp)) (neg_lt ha) (neg_lt hb)
  have hro : rOr G a b = if (Aig.and G (neg a) (neg b)).2.2 ≠ 0 then (G, 0, (Aig.and G (neg a) (neg b)).2.2) else ((Aig.and G (neg a) (neg b)).1, neg (Aig.and G (neg a) (neg b)).2.1, 0) := rfl
  generalize Aig.and G (neg a) (neg b) = R at *
  generalize neg a = na at *
  generalize neg b = nb at *
  generalize rOr G a b = RO at *
  have hR3 : R.2.1 < 2 * 65536 := by have := o1.room; have := o1.most; omega
  have hNr := fun (W : World) => rNot_is W R.2.1 (by omega)
  have HNR := Lib.hid hNr; clear hNr
  have HRO := Lib.hid hro; clear hro
  have HAND := Lib.hid hAnd; clear hAnd
  have H := Lib.hid h; clear h
  have O4 := Lib.hid o4; clear o4
  clear o1 o2 o3 ha hb
  go_enter Try.func77, Try.ntmps77
  go_wp2_with fail
  refine wp_alw ?_
  intro W0 hW0
  have hc0 : Ch [] w W0 := by rw [hW0]; exact ((Ch.refl _ _).alloc _).alloc _
  have b2 : blk W0 w.heap.size [.int .i64 G.most, .slice (some ⟨rb, 0, none⟩) G.nodes.length cap] := by rw [hW0]; exact (blk.new' (w := w) [.int .i64 G.most, .slice (some ⟨rb, 0, none⟩) G.nodes.length cap] 105 rfl).alloc _
  have b4 : blk W0 (w.heap.size + 1) [.int .i64 0, .slice none 0 0] := by rw [hW0]; exact blk.new' [.int .i64 0, .slice none 0 0] 105 (by simp)
  clear hW0
  have B2 := Lib.hid b2; clear b2
  have B4 := Lib.hid b4; clear b4
  have HC0 := Lib.hid hc0; clear hc0
  refine Ord.St.door (fun w' => Ch [] W0 w') [.ho, .fl, .fl, .fl, .fl, .ef, .fl, .fl, .fl, .fl, .ef, .ef, .fl, .fl] [0, 0, 2, 0, 14, 31, 63, 127, 127, 127, 0, 1279, 3583, 8191] [0, 1, 2, 3, 4, 5, 6, 7, 8, 9, 10, 11, 12, 13] mixed (by kernel_rfl) rfl ?_
  obtain ⟨Wc, hWc⟩ : ∃ Wc, Wc = W0.drew := ⟨_, rfl⟩
  rw [← hWc]
  have hcur : Ch [] W0 Wc := by rw [hWc]; exact (Ch.refl _ _).drew
  clear hWc
  refine Ord.St.ho2 (T' := ?_) 0 [1, 2, 3, 4, 5, 6, 7, 8, 9, 10, 11, 12, 13] _ _ rfl (by kernel_rfl) rfl rfl rfl rfl ?_ (fun K w' hw' hk => ?_) ?_
  rotate_left
  · trivial
  · have y0 := (B2.out.ch hw' (by simp)).cell (i := 0) rfl; have y1 := (B2.out.ch hw' (by simp)).cell (i := 1) rfl; go_step; exact hk
  refine Ord.St.fl2 (T' := ?_) 1 [2, 3, 4, 5, 6, 7, 8, 9, 10, 11, 12, 13] _ _ rfl (by kernel_rfl) rfl rfl rfl rfl (fun K w' hk => ?_) ?_
  rotate_left
  · go_step; exact hk
  refine Ord.St.fl2 (T' := ?_) 2 [3, 4, 5, 6, 7, 8, 9, 10, 11, 12, 13] _ _ rfl (by kernel_rfl) rfl rfl rfl rfl (fun K w' hk => ?_) ?_
  rotate_left
  · go_step; refine (HNA.out _).mono ?_; rintro e w'' ⟨rfl, rfl⟩; exact hk
  refine Ord.St.fl2 (T' := ?_) 3 [4, 5, 6, 7, 8, 9, 10, 11, 12, 13] _ _ rfl (by kernel_rfl) rfl rfl rfl rfl (fun K w' hk => ?_) ?_
  rotate_left
  · go_step; exact hk
  refine Ord.St.fl2 (T' := ?_) 4 [5, 6, 7, 8, 9, 10, 11, 12, 13] _ _ rfl (by kernel_rfl) rfl rfl rfl rfl (fun K w' hk => ?_) ?_
  rotate_left
  · go_step; refine (HNB.out _).mono ?_; rintro e w'' ⟨rfl, rfl⟩; exact hk
  refine Ord.St.two 5 10 [6, 7, 8, 9, 10, 11, 12, 13] [5, 6, 7, 8, 9, 11, 12, 13] _ _ (by kernel_rfl) rfl rfl (by kernel_rfl) (by kernel_rfl) (fun K hK => ?_) (fun K hK => ?_)
  · have HA := Lib.hid (HAND.out _ (HC0.out.trans hcur (by simp)))
    go_wp2_with fail
    refine HA.out.mono ?_
    rintro e w5 ⟨rb', cap', rfl, hrg, hch, hfr⟩
    go_wp2_with fail
    refine ⟨rfl, hK _ _ ?_ ?_⟩
    · exact hcur.trans hch (by simp)
    clear hK K
    try have hne := rto_ne hb9 (by have := HC0.out.size; have := hs9; omega) hfr
    try replace hb9 := hb9.ch hch (by simp)
    try have hlo9 := hs9
    have hfr0 : rb' = rb ∨ w.heap.size ≤ rb' := hfr.imp id (fun e => by have := HC0.out.size; have := hcur.size; omega)
    have hfr4 := rto_ne (B4.out.ch hcur (by simp)) (by omega) hfr
    replace hcur := hcur.trans hch (by simp)
    clear hch hfr HA
    refine Ord.St.fl2 (T' := ?_) 6 [7, 8, 9, 10, 11, 12, 13] _ _ rfl (by kernel_rfl) rfl rfl rfl rfl (fun K w' hk => ?_) ?_
    rotate_left
    · go_step; exact hk
    refine Ord.St.fl2 (T' := ?_) 7 [8, 9, 10, 11, 12, 13] _ _ rfl (by kernel_rfl) rfl rfl rfl rfl (fun K w' hk => ?_) ?_
    rotate_left
    · go_step; exact hk
    refine Ord.St.fl2 (T' := ?_) 8 [9, 10, 11, 12, 13] _ _ rfl (by kernel_rfl) rfl rfl rfl rfl (fun K w' hk => ?_) ?_
    rotate_left
    · go_step; exact hk
    refine Ord.St.fl2 (T' := ?_) 9 [10, 11, 12, 13] _ _ rfl (by kernel_rfl) rfl rfl rfl rfl (fun K w' hk => ?_) ?_
    rotate_left
    · go_step; exact hk
    refine Ord.St.efC 10 [11, 12, 13] _ rfl (by kernel_rfl) (fun K hK => ?_)
    go_wp2_with fail
    refine ⟨rfl, hK _ _ ?_ ?_⟩
    · exact hcur.alloc _
    clear hK K
    refine Ord.St.alw ?_; intro Wn hWn
    have hb9 := alw_blk (xs := [.int .i64 0, .slice none 0 0]) hWn
    have hs9 := hcur.size
    try have hne := rg_ne hrg
    try replace hrg := hrg.ch (alw_ch hWn) (by simp)
    replace hcur := hcur.trans (alw_ch hWn) (by simp)
    clear hWn
    first | (have _t := hrg; clear _t; generalize w5.heap.size = b9 at *) | generalize Wc.heap.size = b9 at *
    refine Ord.St.ef 11 [12, 13] _ rfl (by kernel_rfl) (fun K hK => ?_)
    have z0 := hb9.cell (i := 0) rfl
    have z1 := hb9.cell (i := 1) rfl
    have g0 := hb9.frozen (i := 0)
    have g1 := hb9.frozen (i := 1)
    have HRG := Lib.hid hrg; clear hrg
    have HB9 := Lib.hid hb9; clear hb9
    go_wp2_with fail
    refine ⟨rfl, hK _ _ ?_⟩; clear hK K
    refine Ord.St.fl2 (T' := ?_) 12 [13] _ _ rfl (by kernel_rfl) rfl rfl rfl rfl (fun K w' hk => ?_) ?_
    rotate_left
    · go_step; exact hk
    refine Ord.St.fl2 (T' := ?_) 13 [] _ _ rfl (by kernel_rfl) rfl rfl rfl rfl (fun K w' hk => ?_) ?_
    rotate_left
    · go_step; exact hk
    refine Ord.St.nil ?_
    go_upto_region 2 with fail
    refine wp_alw ?_
    intro W6 hW6
    have hb9 : blk W6 b9 [.int .i64 R.1.most, .slice (some ⟨rb', 0, none⟩) R.1.nodes.length cap'] := by rw [hW6]; exact (HB9.out.set (i := 0) _).set (i := 1) _
    have hc9 := set2_ch hW6
    have hc6 := hcur.trans hc9 (fun k hk => .inr (by simp at hk; omega))
    have hr6 := HRG.out.ch hc9 (by simpa using hne)
    have b2 := B2.out.ch hc6 (by simp)
    have b4 := B4.out.ch hc6 (by simp)
    have c06 := HC0.out.trans hc6 (by simp)
    have x0 := hb9.cell (i := 0) rfl
    have x1 := hb9.cell (i := 1) rfl
    have y0 := b2.cell (i := 0) rfl
    have y1 := b2.cell (i := 1) rfl
    have v0 := b4.cell (i := 0) rfl
    have v1 := b4.cell (i := 1) rfl
    have f0 := b4.frozen (i := 0)
    have f1 := b4.frozen (i := 1)
    have HR6 := Lib.hid hr6; clear hr6
    have C06 := Lib.hid c06; clear c06
    have FR0 := Lib.hid hfr0; clear hfr0
    clear hW6 HRG HB9 hb9 hc9 hc6 z0 z1 g0 g1 b2 b4 hcur
    rcases O4.out with he | he
    · have q : ((R.2.2 : Int) != 0) = false := by simp [he]
      have hro := HRO.out
      rw [if_neg (by simp [he])] at hro
      have HRO2 := Lib.hid hro; clear hro he
      go_wp2_with fail
      refine Ord.St.door (fun _ => True) [.rd, .fl, .fl, .ef, .fl, .fl] [0, 0, 2, 7, 15, 31] [0, 1, 2, 3, 4, 5] mixed (by kernel_rfl) rfl ?_
      refine Ord.St.rd2 (T' := ?_) 0 [1, 2, 3, 4, 5] _ _ rfl (by kernel_rfl) rfl rfl rfl rfl (fun K hk => ?_) ?_
      rotate_left
      · go_step; exact hk
      refine Ord.St.fl2 (T' := ?_) 1 [2, 3, 4, 5] _ _ rfl (by kernel_rfl) rfl rfl rfl rfl (fun K w' hk => ?_) ?_
      rotate_left
      · go_step; exact hk
      refine Ord.St.fl2 (T' := ?_) 2 [3, 4, 5] _ _ rfl (by kernel_rfl) rfl rfl rfl rfl (fun K w' hk => ?_) ?_
      rotate_left
      · go_step; refine (HNR.out _).mono ?_; rintro e w'' ⟨rfl, rfl⟩; exact hk
      refine Ord.St.ef 3 [4, 5] _ rfl (by kernel_rfl) (fun K hK => ?_)
      go_wp2_with fail
      refine ⟨rfl, hK _ _ ?_⟩; clear hK K
      refine Ord.St.fl2 (T' := ?_) 4 [5] _ _ rfl (by kernel_rfl) rfl rfl rfl rfl (fun K w' hk => ?_) ?_
      rotate_left
      · go_step; exact hk
      refine Ord.St.fl2 (T' := ?_) 5 [] _ _ rfl (by kernel_rfl) rfl rfl rfl rfl (fun K w' hk => ?_) ?_
      rotate_left
      · go_step; exact hk
      refine Ord.St.nil ?_
      go_wp2_with fail
      have hcc : Ch [w.heap.size + 1] W6 ((W6.setCell ⟨w.heap.size + 1, 0, none⟩ (.int .i64 R.1.most)).setCell ⟨w.heap.size + 1, 1, none⟩ (.slice (some ⟨rb', 0, none⟩) R.1.nodes.length cap')).drew := (((Ch.refl _ _).setCell (by simp) _).setCell (by simp) _).drew
      refine bodyPost_ret (v := .tuple #[.agg #[.int .i64 R.1.most, .slice (some ⟨rb', 0, none⟩) R.1.nodes.length cap'], .int .i64 (neg R.2.1 : Nat), .int .i64 0]) (by simp [results, Try.results77, go_sem, v0, v1]) rfl ?_
      rw [HRO2.out]
      exact ⟨rb', cap', rfl, HR6.out.ch hcc (by simpa using hfr4), C06.out.trans hcc (fun k hk => .inr (by simp at hk; omega)), FR0.out⟩
    · have q : ((R.2.2 : Int) != 0) = true := by simp [he]
      have hro := HRO.out
      rw [if_pos (by simp [he])] at hro
      have HRO2 := Lib.hid hro; clear hro he
      go_wp2_with fail
      have hcc : Ch [w.heap.size + 1] W6 ((W6.setCell ⟨w.heap.size + 1, 0, none⟩ (.int .i64 G.most)).setCell ⟨w.heap.size + 1, 1, none⟩ (.slice (some ⟨rb, 0, none⟩) G.nodes.length cap)) := ((Ch.refl _ _).setCell (by simp) _).setCell (by simp) _
      refine bodyPost_ret (v := .tuple #[.agg #[.int .i64 G.most, .slice (some ⟨rb, 0, none⟩) G.nodes.length cap], .int .i64 0, .int .i64 R.2.2]) (by simp [results, Try.results77, go_sem, v0, v1]) rfl ?_
      rw [HRO2.out]
      exact RTo.self H.out (C06.out.trans hcc (fun k hk => .inr (by simp at hk; omega))) 0 R.2.2
  · go_wp2_with fail
    refine ⟨rfl, hK _ _ ?_ ?_⟩
    · exact hcur.alloc _
    clear hK K
    refine Ord.St.alw ?_; intro Wn hWn
    have hb9 := alw_blk (xs := [.int .i64 0, .slice none 0 0]) hWn
    have hs9 := hcur.size
    try have hne := rg_ne hrg
    try replace hrg := hrg.ch (alw_ch hWn) (by simp)
    replace hcur := hcur.trans (alw_ch hWn) (by simp)
    clear hWn
    first | (have _t := hrg; clear _t; generalize w5.heap.size = b9 at *) | generalize Wc.heap.size = b9 at *
    refine Ord.St.ef 5 [6, 7, 8, 9, 11, 12, 13] _ rfl (by kernel_rfl) (fun K hK => ?_)
    have HA := Lib.hid (HAND.out _ (HC0.out.trans hcur (by simp)))
    go_wp2_with fail
    refine HA.out.mono ?_
    rintro e w5 ⟨rb', cap', rfl, hrg, hch, hfr⟩
    go_wp2_with fail
    refine ⟨rfl, hK _ _ ?_⟩; clear hK K
    try have hne := rto_ne hb9 (by have := HC0.out.size; have := hs9; omega) hfr
    try replace hb9 := hb9.ch hch (by simp)
    try have hlo9 := hs9
    have hfr0 : rb' = rb ∨ w.heap.size ≤ rb' := hfr.imp id (fun e => by have := HC0.out.size; have := hcur.size; omega)
    have hfr4 := rto_ne (B4.out.ch hcur (by simp)) (by omega) hfr
    replace hcur := hcur.trans hch (by simp)
    clear hch hfr HA
    refine Ord.St.fl2 (T' := ?_) 6 [7, 8, 9, 11, 12, 13] _ _ rfl (by kernel_rfl) rfl rfl rfl rfl (fun K w' hk => ?_) ?_
    rotate_left
    · go_step; exact hk
    refine Ord.St.fl2 (T' := ?_) 7 [8, 9, 11, 12, 13] _ _ rfl (by kernel_rfl) rfl rfl rfl rfl (fun K w' hk => ?_) ?_
    rotate_left
    · go_step; exact hk
    refine Ord.St.fl2 (T' := ?_) 8 [9, 11, 12, 13] _ _ rfl (by kernel_rfl) rfl rfl rfl rfl (fun K w' hk => ?_) ?_
    rotate_left
    · go_step; exact hk
    refine Ord.St.fl2 (T' := ?_) 9 [11, 12, 13] _ _ rfl (by kernel_rfl) rfl rfl rfl rfl (fun K w' hk => ?_) ?_
    rotate_left
    · go_step; exact hk
    refine Ord.St.ef 11 [12, 13] _ rfl (by kernel_rfl) (fun K hK => ?_)
    have z0 := hb9.cell (i := 0) rfl
    have z1 := hb9.cell (i := 1) rfl
    have g0 := hb9.frozen (i := 0)
    have g1 := hb9.frozen (i := 1)
    have HRG := Lib.hid hrg; clear hrg
    have HB9 := Lib.hid hb9; clear hb9
    go_wp2_with fail
    refine ⟨rfl, hK _ _ ?_⟩; clear hK K
    refine Ord.St.fl2 (T' := ?_) 12 [13] _ _ rfl (by kernel_rfl) rfl rfl rfl rfl (fun K w' hk => ?_) ?_
    rotate_left
    · go_step; exact hk
    refine Ord.St.fl2 (T' := ?_) 13 [] _ _ rfl (by kernel_rfl) rfl rfl rfl rfl (fun K w' hk => ?_) ?_
    rotate_left
    · go_step; exact hk
    refine Ord.St.nil ?_
    go_upto_region 2 with fail
    refine wp_alw ?_
    intro W6 hW6
    have hb9 : blk W6 b9 [.int .i64 R.1.most, .slice (some ⟨rb', 0, none⟩) R.1.nodes.length cap'] := by rw [hW6]; exact (HB9.out.set (i := 0) _).set (i := 1) _
    have hc9 := set2_ch hW6
    have hc6 := hcur.trans hc9 (fun k hk => .inr (by simp at hk; omega))
    have hr6 := HRG.out.ch hc9 (by simpa using hne)
    have b2 := B2.out.ch hc6 (by simp)
    have b4 := B4.out.ch hc6 (by simp)
    have c06 := HC0.out.trans hc6 (by simp)
    have x0 := hb9.cell (i := 0) rfl
    have x1 := hb9.cell (i := 1) rfl
    have y0 := b2.cell (i := 0) rfl
    have y1 := b2.cell (i := 1) rfl
    have v0 := b4.cell (i := 0) rfl
    have v1 := b4.cell (i := 1) rfl
    have f0 := b4.frozen (i := 0)
    have f1 := b4.frozen (i := 1)
    have HR6 := Lib.hid hr6; clear hr6
    have C06 := Lib.hid c06; clear c06
    have FR0 := Lib.hid hfr0; clear hfr0
    clear hW6 HRG HB9 hb9 hc9 hc6 z0 z1 g0 g1 b2 b4 hcur
    rcases O4.out with he | he
    · have q : ((R.2.2 : Int) != 0) = false := by simp [he]
      have hro := HRO.out
      rw [if_neg (by simp [he])] at hro
      have HRO2 := Lib.hid hro; clear hro he
      go_wp2_with fail
      refine Ord.St.door (fun _ => True) [.rd, .fl, .fl, .ef, .fl, .fl] [0, 0, 2, 7, 15, 31] [0, 1, 2, 3, 4, 5] mixed (by kernel_rfl) rfl ?_
      refine Ord.St.rd2 (T' := ?_) 0 [1, 2, 3, 4, 5] _ _ rfl (by kernel_rfl) rfl rfl rfl rfl (fun K hk => ?_) ?_
      rotate_left
      · go_step; exact hk
      refine Ord.St.fl2 (T' := ?_) 1 [2, 3, 4, 5] _ _ rfl (by kernel_rfl) rfl rfl rfl rfl (fun K w' hk => ?_) ?_
      rotate_left
      · go_step; exact hk
      refine Ord.St.fl2 (T' := ?_) 2 [3, 4, 5] _ _ rfl (by kernel_rfl) rfl rfl rfl rfl (fun K w' hk => ?_) ?_
      rotate_left
      · go_step; refine (HNR.out _).mono ?_; rintro e w'' ⟨rfl, rfl⟩; exact hk
      refine Ord.St.ef 3 [4, 5] _ rfl (by kernel_rfl) (fun K hK => ?_)
      go_wp2_with fail
      refine ⟨rfl, hK _ _ ?_⟩; clear hK K
      refine Ord.St.fl2 (T' := ?_) 4 [5] _ _ rfl (by kernel_rfl) rfl rfl rfl rfl (fun K w' hk => ?_) ?_
      rotate_left
      · go_step; exact hk
      refine Ord.St.fl2 (T' := ?_) 5 [] _ _ rfl (by kernel_rfl) rfl rfl rfl rfl (fun K w' hk => ?_) ?_
      rotate_left
      · go_step; exact hk
      refine Ord.St.nil ?_
      go_wp2_with fail
      have hcc : Ch [w.heap.size + 1] W6 ((W6.setCell ⟨w.heap.size + 1, 0, none⟩ (.int .i64 R.1.most)).setCell ⟨w.heap.size + 1, 1, none⟩ (.slice (some ⟨rb', 0, none⟩) R.1.nodes.length cap')).drew := (((Ch.refl _ _).setCell (by simp) _).setCell (by simp) _).drew
      refine bodyPost_ret (v := .tuple #[.agg #[.int .i64 R.1.most, .slice (some ⟨rb', 0, none⟩) R.1.nodes.length cap'], .int .i64 (neg R.2.1 : Nat), .int .i64 0]) (by simp [results, Try.results77, go_sem, v0, v1]) rfl ?_
      rw [HRO2.out]
      exact ⟨rb', cap', rfl, HR6.out.ch hcc (by simpa using hfr4), C06.out.trans hcc (fun k hk => .inr (by simp at hk; omega)), FR0.out⟩
    · have q : ((R.2.2 : Int) != 0) = true := by simp [he]
      have hro := HRO.out
      rw [if_pos (by simp [he])] at hro
      have HRO2 := Lib.hid hro; clear hro he
      go_wp2_with fail
      have hcc : Ch [w.heap.size + 1] W6 ((W6.setCell ⟨w.heap.size + 1, 0, none⟩ (.int .i64 G.most)).setCell ⟨w.heap.size + 1, 1, none⟩ (.slice (some ⟨rb, 0, none⟩) G.nodes.length cap)) := ((Ch.refl _ _).setCell (by simp) _).setCell (by simp) _
      refine bodyPost_ret (v := .tuple #[.agg #[.int .i64 G.most, .slice (some ⟨rb, 0, none⟩) G.nodes.length cap], .int .i64 0, .int .i64 R.2.2]) (by simp [results, Try.results77, go_sem, v0, v1]) rfl ?_
      rw [HRO2.out]
      exact RTo.self H.out (C06.out.trans hcc (fun k hk => .inr (by simp at hk; omega))) 0 R.2.2
end
end Go.Proofs.Ytnajonchjlplmaa
