/-
  Walks over the reference's Mux and Xor. Conditions: a graph that can be read, references of it.
-/
import Derived.Test.YtnajonchjlplmaaQR3
namespace Go.Aig
/-- what comes after a step: its error, or the next step -/
def rThen (G : Gra) (X : Res) (Y : Res) : Res := if X.2.2 ≠ 0 then (G, 0, X.2.2) else Y
def rMux (G : Gra) (c a b : Nat) : Res :=
  rThen G (and G c a) (rThen G (and (and G c a).1 (neg c) b) (rThen G (rOr (and (and G c a).1 (neg c) b).1 (and G c a).2.1 (and (and G c a).1 (neg c) b).2.1) ((rOr (and (and G c a).1 (neg c) b).1 (and G c a).2.1 (and (and G c a).1 (neg c) b).2.1).1, (rOr (and (and G c a).1 (neg c) b).1 (and G c a).2.1 (and (and G c a).1 (neg c) b).2.1).2.1, 0)))
def rXor (G : Gra) (a b : Nat) : Res := rMux G a (neg b) b
structure ROk (G : Gra) (R : Res) : Prop where
  ok : Ok R.1
  ext : Ext G R.1
  lt : R.2.1 < 2 * R.1.nodes.length
  err : R.2.2 = 0 ∨ R.2.2 = 201
theorem and_rok {G : Gra} (h : Ok G) {a b : Nat} (ha : a < 2 * G.nodes.length) (hb : b < 2 * G.nodes.length) : ROk G (and G a b) := by
  obtain ⟨h1, h2, h3, h4⟩ := and_ok h ha hb
  exact ⟨h1, h2, h3, h4⟩
theorem rOr_rok {G : Gra} (h : Ok G) {a b : Nat} (ha : a < 2 * G.nodes.length) (hb : b < 2 * G.nodes.length) : ROk G (rOr G a b) := by
  obtain ⟨h1, h2, h3, h4⟩ := rOr_ok h ha hb
  exact ⟨h1, h2, h3, h4⟩
theorem rThen_rok {G : Gra} (h : Ok G) {X Y : Res} (hX : ROk G X) (hY : ROk X.1 Y ∨ ROk G Y) : ROk G (rThen G X Y) := by
  have := h.wf.pos
  unfold rThen
  split
  · exact ⟨h, .refl _, by show 0 < 2 * G.nodes.length; omega, hX.err⟩
  · rcases hY with h | h
    · exact ⟨h.ok, hX.ext.trans h.ext, h.lt, h.err⟩
    · exact h
theorem ROk.zero {G : Gra} {R : Res} (h : ROk G R) : ROk G (R.1, R.2.1, 0) := ⟨h.ok, h.ext, h.lt, .inl rfl⟩
theorem rMux_rok {G : Gra} (h : Ok G) {c a b : Nat} (hc : c < 2 * G.nodes.length) (ha : a < 2 * G.nodes.length) (hb : b < 2 * G.nodes.length) : ROk G (rMux G c a b) := by
  have h1 := and_rok h hc ha
  have h2 := and_rok h1.ok (h1.ext.lt (neg_lt hc)) (h1.ext.lt hb)
  have h3 := rOr_rok h2.ok (h2.ext.lt h1.lt) h2.lt
  have e12 := h1.ext.trans h2.ext
  unfold rMux
  refine rThen_rok h h1 (.inr ?_)
  refine rThen_rok h ⟨h2.ok, e12, h2.lt, h2.err⟩ (.inr ?_)
  have h4 : ROk G (rOr (and (and G c a).1 (neg c) b).1 (and G c a).2.1 (and (and G c a).1 (neg c) b).2.1) := ⟨h3.ok, e12.trans h3.ext, h3.lt, h3.err⟩
  exact rThen_rok h h4 (.inr h4.zero)
end Go.Aig
namespace Go.Proofs.Ytnajonchjlplmaa
open Go.RowKit Go.Mem Go.Aig
theorem rThen_bad {G : Gra} {X Y : Res} (h : X.2.2 = 201) : rThen G X Y = (G, 0, X.2.2) := by unfold rThen; rw [if_pos (by rw [h]; simp)]
theorem rThen_good {G : Gra} {X Y : Res} (h : X.2.2 = 0) : rThen G X Y = Y := by unfold rThen; rw [if_neg (by rw [h]; simp)]
section
set_option maxRecDepth 100000 in
set_option maxHeartbeats 4000000 in
theorem rMux_is {w : World} {rb cap : Nat} {G : Gra} (h : RG w rb cap G) {c a b : Nat} (hc : c < 2 * G.nodes.length) (ha : a < 2 * G.nodes.length) (hb : b < 2 * G.nodes.length) : Calls Try.prog 79 #[.agg #[.int .i64 G.most, .slice (some ⟨rb, 0, none⟩) G.nodes.length cap], .int .i64 c, .int .i64 a, .int .i64 b] w (RTo w rb (rMux G c a b)) := by
  obtain ⟨hl, hp, hmo⟩ := h.len
  have hle := h.le
  have hmx := h.mx
  have hrb := h.lt
  have o1 := and_rok h.ok hc ha
  have o2 := and_rok o1.ok (o1.ext.lt (neg_lt hc)) (o1.ext.lt hb)
  have o3 := rOr_rok o2.ok (o2.ext.lt o1.lt) o2.lt
  have hN := fun (W : World) => rNot_is W c (by omega)
  have HN := Lib.hid hN; clear hN
  have hA1 := fun (W : World) (hW : Ch [] w W) => rAnd_is (h.ch hW (by simp)) hc ha
  have hA2 := fun (W : World) (r k : Nat) (hr : RG W r k (Aig.and G c a).1) => rAnd_is hr (o1.ext.lt (neg_lt hc)) (o1.ext.lt hb)
  have hA3 := fun (W : World) (r k : Nat) (hr : RG W r k (Aig.and (Aig.and G c a).1 (neg c) b).1) => rOr_is hr (o2.ext.lt o1.lt) o2.lt
  have hro : rMux G c a b = rThen G (Aig.and G c a) (rThen G (Aig.and (Aig.and G c a).1 (neg c) b) (rThen G (rOr (Aig.and (Aig.and G c a).1 (neg c) b).1 (Aig.and G c a).2.1 (Aig.and (Aig.and G c a).1 (neg c) b).2.1) ((rOr (Aig.and (Aig.and G c a).1 (neg c) b).1 (Aig.and G c a).2.1 (Aig.and (Aig.and G c a).1 (neg c) b).2.1).1, (rOr (Aig.and (Aig.and G c a).1 (neg c) b).1 (Aig.and G c a).2.1 (Aig.and (Aig.and G c a).1 (neg c) b).2.1).2.1, 0))) := rfl
  generalize Aig.and G c a = X at *
  generalize neg c = nc at *
  generalize Aig.and X.1 nc b = Y at *
  generalize rOr Y.1 X.2.1 Y.2.1 = Z at *
  generalize rMux G c a b = RO at *
  have E1 := Lib.hid o1.err
  have E2 := Lib.hid o2.err
  have E3 := Lib.hid o3.err
  clear o1 o2 o3
  have HRO := Lib.hid hro; clear hro
  have HA1 := Lib.hid hA1; clear hA1
  have HA2 := Lib.hid hA2; clear hA2
  have HA3 := Lib.hid hA3; clear hA3
  have H := Lib.hid h; clear h
  go_enter Try.func79, Try.ntmps79
  go_wp2_with fail
  have hcx : Ch [] w ((w.alloc (.cells #[.int .i64 G.most, .slice (some ⟨rb, 0, none⟩) G.nodes.length cap] 105)).alloc (.cells #[.int .i64 0, .slice none 0 0] 105)) := ((Ch.refl _ _).alloc _).alloc _
  have hb2 : blk ((w.alloc (.cells #[.int .i64 G.most, .slice (some ⟨rb, 0, none⟩) G.nodes.length cap] 105)).alloc (.cells #[.int .i64 0, .slice none 0 0] 105)) w.heap.size [.int .i64 G.most, .slice (some ⟨rb, 0, none⟩) G.nodes.length cap] := (blk.new' (w := w) [.int .i64 G.most, .slice (some ⟨rb, 0, none⟩) G.nodes.length cap] 105 rfl).alloc _
  have hb4 : blk ((w.alloc (.cells #[.int .i64 G.most, .slice (some ⟨rb, 0, none⟩) G.nodes.length cap] 105)).alloc (.cells #[.int .i64 0, .slice none 0 0] 105)) (w.heap.size + 1) [.int .i64 0, .slice none 0 0] := blk.new' [.int .i64 0, .slice none 0 0] 105 (by simp)
  have HA := Lib.hid (HA1.out _ hcx)
  have HCX := Lib.hid hcx; clear hcx
  have HB2 := Lib.hid hb2; clear hb2
  have HB4 := Lib.hid hb4; clear hb4
  refine HA.out.mono ?_
  rintro e w5 ⟨rb1, cap1, rfl, hrg, hch, hfr⟩
  have hr1 : rb1 = rb ∨ w.heap.size + 1 < rb1 := hfr.imp id (fun e => by have := HB4.out.lt; omega)
  have HRG := Lib.hid hrg; clear hrg
  have HCH := Lib.hid hch; clear hch
  clear HA HA1 hfr
  go_upto_region 2 with fail
  refine wp_alw ?_
  intro W6 hW6
  have hbX := alw_blk (xs := [.int .i64 X.1.most, .slice (some ⟨rb1, 0, none⟩) X.1.nodes.length cap1]) hW6
  have hnX := rg_ne HRG.out
  have hrX := HRG.out.ch (alw_ch hW6) (by simp)
  have hc56 := alw_ch hW6
  have hc6 := (HCX.out.trans HCH.out (by simp)).trans hc56 (by simp)
  have b2 := (HB2.out.ch HCH.out (by simp)).ch hc56 (by simp)
  have b4 := (HB4.out.ch HCH.out (by simp)).ch hc56 (by simp)
  have hlo5 : w.heap.size + 1 < w5.heap.size := (HB4.out.ch HCH.out (by simp)).lt
  clear hW6 hc56 HRG HCH HCX HB2 HB4
  generalize w5.heap.size = b5 at *
  have x0 := hbX.cell (i := 0) rfl
  have x1 := hbX.cell (i := 1) rfl
  have y0 := b2.cell (i := 0) rfl
  have y1 := b2.cell (i := 1) rfl
  have v0 := b4.cell (i := 0) rfl
  have v1 := b4.cell (i := 1) rfl
  have f0 := b4.frozen (i := 0)
  have f1 := b4.frozen (i := 1)
  have BX := Lib.hid hbX; clear hbX
  have B2 := Lib.hid b2; clear b2
  have B4 := Lib.hid b4; clear b4
  have RX := Lib.hid hrX; clear hrX
  have HC6 := Lib.hid hc6; clear hc6
  rcases E1.out with he | he
  rotate_left
  · have q : ((X.2.2 : Int) != 0) = true := by simp [he]
    have hro := HRO.out
    rw [rThen_bad he] at hro
    have HRO2 := Lib.hid hro; clear hro he HRO
    go_wp2_with fail
    have hcc := set2_ch (w := W6) (b := w.heap.size + 1) (u := .int .i64 G.most) (v := .slice (some ⟨rb, 0, none⟩) G.nodes.length cap) rfl
    refine bodyPost_ret (v := .tuple #[.agg #[.int .i64 G.most, .slice (some ⟨rb, 0, none⟩) G.nodes.length cap], .int .i64 0, .int .i64 X.2.2]) (by simp [results, Try.results79, go_sem, v0, v1]) rfl ?_
    rw [HRO2.out]
    exact RTo.self H.out (HC6.out.trans hcc (fun k hk => .inr (by simp at hk; omega))) 0 X.2.2
  · have q : ((X.2.2 : Int) != 0) = false := by simp [he]
    have hro := HRO.out
    rw [rThen_good he] at hro
    have HRO2 := Lib.hid hro; clear hro he HRO
    go_wp2_with fail
    clear x0 x1 y0 y1 v0 v1 f0 f1 q
    refine Ord.St.door (fun w' => Ch [] W6 w') [.ho, .fl, .fl, .fl, .ef, .fl, .fl, .fl, .fl, .ef, .ef, .fl, .fl] [0, 0, 2, 0, 15, 31, 63, 63, 63, 0, 639, 1791, 4095] [0, 1, 2, 3, 4, 5, 6, 7, 8, 9, 10, 11, 12] mixed (by kernel_rfl) rfl ?_
    obtain ⟨Wc, hWc⟩ : ∃ Wc, Wc = W6.drew := ⟨_, rfl⟩
    rw [← hWc]
    have hcur : Ch [] W6 Wc := by rw [hWc]; exact (Ch.refl _ _).drew
    clear hWc
    refine Ord.St.ho2 (T' := ?_) 0 [1, 2, 3, 4, 5, 6, 7, 8, 9, 10, 11, 12] _ _ rfl (by kernel_rfl) rfl rfl rfl rfl ?_ (fun K w' hw' hk => ?_) ?_
    rotate_left
    · trivial
    · have y0 := (BX.out.ch hw' (by simp)).cell (i := 0) rfl; have y1 := (BX.out.ch hw' (by simp)).cell (i := 1) rfl; go_step; exact hk
    refine Ord.St.fl2 (T' := ?_) 1 [2, 3, 4, 5, 6, 7, 8, 9, 10, 11, 12] _ _ rfl (by kernel_rfl) rfl rfl rfl rfl (fun K w' hk => ?_) ?_
    rotate_left
    · go_step; exact hk
    refine Ord.St.fl2 (T' := ?_) 2 [3, 4, 5, 6, 7, 8, 9, 10, 11, 12] _ _ rfl (by kernel_rfl) rfl rfl rfl rfl (fun K w' hk => ?_) ?_
    rotate_left
    · go_step; refine (HN.out _).mono ?_; rintro e w'' ⟨rfl, rfl⟩; exact hk
    refine Ord.St.fl2 (T' := ?_) 3 [4, 5, 6, 7, 8, 9, 10, 11, 12] _ _ rfl (by kernel_rfl) rfl rfl rfl rfl (fun K w' hk => ?_) ?_
    rotate_left
    · go_step; exact hk
    refine Ord.St.two 4 9 [5, 6, 7, 8, 9, 10, 11, 12] [4, 5, 6, 7, 8, 10, 11, 12] _ _ (by kernel_rfl) rfl rfl (by kernel_rfl) (by kernel_rfl) (fun K hK => ?_) (fun K hK => ?_)
    · have HA := Lib.hid (HA2.out _ _ _ (RX.out.ch hcur (by simp)))
      go_wp2_with fail
      refine HA.out.mono ?_
      rintro e w7 ⟨rb2, cap2, rfl, hrg, hch, hfr⟩
      go_wp2_with fail
      refine ⟨rfl, hK _ _ ?_ ?_⟩
      · exact hcur.trans hch (by simp)
      clear hK K
      try have hne := rto_ne hb9 (by have := hs9; have := RX.out.lt; omega) hfr
      try replace hb9 := hb9.ch hch (by simp)
      have hfr4 : rb2 ≠ w.heap.size + 1 := by have := B4.out.lt; have := hcur.size; rcases hfr with e | e <;> omega
      have hr2 : rb2 = rb ∨ w.heap.size + 1 < rb2 := by have := B4.out.lt; have := hcur.size; rcases hfr with e | e <;> omega
      replace hcur := hcur.trans hch (by simp)
      clear hch hfr HA
      refine Ord.St.fl2 (T' := ?_) 5 [6, 7, 8, 9, 10, 11, 12] _ _ rfl (by kernel_rfl) rfl rfl rfl rfl (fun K w' hk => ?_) ?_
      rotate_left
      · go_step; exact hk
      refine Ord.St.fl2 (T' := ?_) 6 [7, 8, 9, 10, 11, 12] _ _ rfl (by kernel_rfl) rfl rfl rfl rfl (fun K w' hk => ?_) ?_
      rotate_left
      · go_step; exact hk
      refine Ord.St.fl2 (T' := ?_) 7 [8, 9, 10, 11, 12] _ _ rfl (by kernel_rfl) rfl rfl rfl rfl (fun K w' hk => ?_) ?_
      rotate_left
      · go_step; exact hk
      refine Ord.St.fl2 (T' := ?_) 8 [9, 10, 11, 12] _ _ rfl (by kernel_rfl) rfl rfl rfl rfl (fun K w' hk => ?_) ?_
      rotate_left
      · go_step; exact hk
      refine Ord.St.efC 9 [10, 11, 12] _ rfl (by kernel_rfl) (fun K hK => ?_)
      go_wp2_with fail
      refine ⟨rfl, hK _ _ ?_ ?_⟩
      · exact hcur.alloc _
      clear hK K
      refine Ord.St.alw ?_; intro Wn hWn
      have hb9 := alw_blk (xs := [.int .i64 0, .slice none 0 0]) hWn
      have hs9 := hcur.size
      try have hne := rg_ne hrg
      try replace hrg := hrg.ch (alw_ch hWn) (by simp)
      replace hcur := hcur.trans (alw_ch hWn) (by simp)
      clear hWn
      first | (have _t := hrg; clear _t; generalize w7.heap.size = b9 at *) | generalize Wc.heap.size = b9 at *
      refine Ord.St.ef 10 [11, 12] _ rfl (by kernel_rfl) (fun K hK => ?_)
      have z0 := hb9.cell (i := 0) rfl
      have z1 := hb9.cell (i := 1) rfl
      have g0 := hb9.frozen (i := 0)
      have g1 := hb9.frozen (i := 1)
      have HRG := Lib.hid hrg; clear hrg
      have HB9 := Lib.hid hb9; clear hb9
      go_wp2_with fail
      refine ⟨rfl, hK _ _ ?_⟩; clear hK K
      refine Ord.St.fl2 (T' := ?_) 11 [12] _ _ rfl (by kernel_rfl) rfl rfl rfl rfl (fun K w' hk => ?_) ?_
      rotate_left
      · go_step; exact hk
      refine Ord.St.fl2 (T' := ?_) 12 [] _ _ rfl (by kernel_rfl) rfl rfl rfl rfl (fun K w' hk => ?_) ?_
      rotate_left
      · go_step; exact hk
      refine Ord.St.nil ?_
      go_upto_region 5 with fail
      refine wp_alw ?_
      intro W8 hW8
      have hbY : blk W8 b9 [.int .i64 Y.1.most, .slice (some ⟨rb2, 0, none⟩) Y.1.nodes.length cap2] := by rw [hW8]; exact (HB9.out.set (i := 0) _).set (i := 1) _
      have hc9 := set2_ch hW8
      have hc68 := hcur.trans hc9 (fun k hk => .inr (by simp at hk; omega))
      have hrY := HRG.out.ch hc9 (by simpa using hne)
      have b2 := B2.out.ch hc68 (by simp)
      have b4 := B4.out.ch hc68 (by simp)
      have hc8 := HC6.out.trans hc68 (by simp)
      have x0 := hbY.cell (i := 0) rfl
      have x1 := hbY.cell (i := 1) rfl
      have y0 := b2.cell (i := 0) rfl
      have y1 := b2.cell (i := 1) rfl
      have v0 := b4.cell (i := 0) rfl
      have v1 := b4.cell (i := 1) rfl
      have f0 := b4.frozen (i := 0)
      have f1 := b4.frozen (i := 1)
      have RY := Lib.hid hrY; clear hrY
      have HC8 := Lib.hid hc8; clear hc8
      have BB2 := Lib.hid b2; clear b2
      have BB4 := Lib.hid b4; clear b4
      clear hW8 HRG HB9 hbY hc9 hc68 z0 z1 g0 g1 hcur BX B2 B4 RX
      rcases E2.out with he | he
      rotate_left
      · have q : ((Y.2.2 : Int) != 0) = true := by simp [he]
        have hro := HRO2.out
        rw [rThen_bad he] at hro
        have HRO3 := Lib.hid hro; clear hro he HRO2
        go_wp2_with fail
        have hcc := set2_ch (w := W8) (b := w.heap.size + 1) (u := .int .i64 G.most) (v := .slice (some ⟨rb, 0, none⟩) G.nodes.length cap) rfl
        refine bodyPost_ret (v := .tuple #[.agg #[.int .i64 G.most, .slice (some ⟨rb, 0, none⟩) G.nodes.length cap], .int .i64 0, .int .i64 Y.2.2]) (by simp [results, Try.results79, go_sem, v0, v1]) rfl ?_
        rw [HRO3.out]
        exact RTo.self H.out (HC8.out.trans hcc (fun k hk => .inr (by simp at hk; omega))) 0 Y.2.2
      · have q : ((Y.2.2 : Int) != 0) = false := by simp [he]
        have hro := HRO2.out
        rw [rThen_good he] at hro
        have HRO3 := Lib.hid hro; clear hro he HRO2
        have HA := Lib.hid (HA3.out _ _ _ RY.out)
        go_wp2_with fail
        refine HA.out.mono ?_
        rintro e w9 ⟨rb3, cap3, rfl, hrg, hch, hfr⟩
        have b2 := BB2.out.ch hch (by simp)
        have b4 := BB4.out.ch hch (by simp)
        have hr3 : rb3 = rb ∨ w.heap.size + 1 < rb3 := by have := BB4.out.lt; rcases hfr with e | e <;> omega
        have hc09 := HC8.out.trans hch (by simp)
        clear x0 x1 y0 y1 v0 v1 f0 f1 q hch hfr HA
        have HC9 := Lib.hid hc09; clear hc09
        have HRG := Lib.hid hrg; clear hrg
        go_upto_region 8 with fail
        refine wp_alw ?_
        intro Wx hWx
        have hbZ := alw_blk (xs := [.int .i64 Z.1.most, .slice (some ⟨rb3, 0, none⟩) Z.1.nodes.length cap3]) hWx
        have hrZ := HRG.out.ch (alw_ch hWx) (by simp)
        replace b2 := b2.ch (alw_ch hWx) (by simp)
        replace b4 := b4.ch (alw_ch hWx) (by simp)
        have hcx := HC9.out.trans (alw_ch hWx) (by simp)
        clear hWx HC9 HRG
        generalize w9.heap.size = bx at *
        have x0 := hbZ.cell (i := 0) rfl
        have x1 := hbZ.cell (i := 1) rfl
        have y0 := b2.cell (i := 0) rfl
        have y1 := b2.cell (i := 1) rfl
        have v0 := b4.cell (i := 0) rfl
        have v1 := b4.cell (i := 1) rfl
        have f0 := b4.frozen (i := 0)
        have f1 := b4.frozen (i := 1)
        have HCX := Lib.hid hcx; clear hcx
        have RZ := Lib.hid hrZ; clear hrZ
        clear b2 b4 hbZ
        rcases E3.out with he | he
        · have q : ((Z.2.2 : Int) != 0) = false := by simp [he]
          have hro := HRO3.out
          rw [rThen_good he] at hro
          have HRO4 := Lib.hid hro; clear hro he HRO3
          go_wp2_with fail
          have hcc := set2_ch (w := Wx) (b := w.heap.size + 1) (u := .int .i64 Z.1.most) (v := .slice (some ⟨rb3, 0, none⟩) Z.1.nodes.length cap3) rfl
          refine bodyPost_ret (v := .tuple #[.agg #[.int .i64 Z.1.most, .slice (some ⟨rb3, 0, none⟩) Z.1.nodes.length cap3], .int .i64 Z.2.1, .int .i64 0]) (by simp [results, Try.results79, go_sem, v0, v1]) rfl ?_
          rw [HRO4.out]
          exact ⟨rb3, cap3, rfl, RZ.out.ch hcc (by simp; omega), HCX.out.trans hcc (fun k hk => .inr (by simp at hk; omega)), by omega⟩
        · have q : ((Z.2.2 : Int) != 0) = true := by simp [he]
          have hro := HRO3.out
          rw [rThen_bad he] at hro
          have HRO4 := Lib.hid hro; clear hro he HRO3
          go_wp2_with fail
          have hcc := set2_ch (w := Wx) (b := w.heap.size + 1) (u := .int .i64 G.most) (v := .slice (some ⟨rb, 0, none⟩) G.nodes.length cap) rfl
          refine bodyPost_ret (v := .tuple #[.agg #[.int .i64 G.most, .slice (some ⟨rb, 0, none⟩) G.nodes.length cap], .int .i64 0, .int .i64 Z.2.2]) (by simp [results, Try.results79, go_sem, v0, v1]) rfl ?_
          rw [HRO4.out]
          exact RTo.self H.out (HCX.out.trans hcc (fun k hk => .inr (by simp at hk; omega))) 0 Z.2.2
    · go_wp2_with fail
      refine ⟨rfl, hK _ _ ?_ ?_⟩
      · exact hcur.alloc _
      clear hK K
      refine Ord.St.alw ?_; intro Wn hWn
      have hb9 := alw_blk (xs := [.int .i64 0, .slice none 0 0]) hWn
      have hs9 := hcur.size
      try have hne := rg_ne hrg
      try replace hrg := hrg.ch (alw_ch hWn) (by simp)
      replace hcur := hcur.trans (alw_ch hWn) (by simp)
      clear hWn
      first | (have _t := hrg; clear _t; generalize w7.heap.size = b9 at *) | generalize Wc.heap.size = b9 at *
      refine Ord.St.ef 4 [5, 6, 7, 8, 10, 11, 12] _ rfl (by kernel_rfl) (fun K hK => ?_)
      have HA := Lib.hid (HA2.out _ _ _ (RX.out.ch hcur (by simp)))
      go_wp2_with fail
      refine HA.out.mono ?_
      rintro e w7 ⟨rb2, cap2, rfl, hrg, hch, hfr⟩
      go_wp2_with fail
      refine ⟨rfl, hK _ _ ?_⟩; clear hK K
      try have hne := rto_ne hb9 (by have := hs9; have := RX.out.lt; omega) hfr
      try replace hb9 := hb9.ch hch (by simp)
      have hfr4 : rb2 ≠ w.heap.size + 1 := by have := B4.out.lt; have := hcur.size; rcases hfr with e | e <;> omega
      have hr2 : rb2 = rb ∨ w.heap.size + 1 < rb2 := by have := B4.out.lt; have := hcur.size; rcases hfr with e | e <;> omega
      replace hcur := hcur.trans hch (by simp)
      clear hch hfr HA
      refine Ord.St.fl2 (T' := ?_) 5 [6, 7, 8, 10, 11, 12] _ _ rfl (by kernel_rfl) rfl rfl rfl rfl (fun K w' hk => ?_) ?_
      rotate_left
      · go_step; exact hk
      refine Ord.St.fl2 (T' := ?_) 6 [7, 8, 10, 11, 12] _ _ rfl (by kernel_rfl) rfl rfl rfl rfl (fun K w' hk => ?_) ?_
      rotate_left
      · go_step; exact hk
      refine Ord.St.fl2 (T' := ?_) 7 [8, 10, 11, 12] _ _ rfl (by kernel_rfl) rfl rfl rfl rfl (fun K w' hk => ?_) ?_
      rotate_left
      · go_step; exact hk
      refine Ord.St.fl2 (T' := ?_) 8 [10, 11, 12] _ _ rfl (by kernel_rfl) rfl rfl rfl rfl (fun K w' hk => ?_) ?_
      rotate_left
      · go_step; exact hk
      refine Ord.St.ef 10 [11, 12] _ rfl (by kernel_rfl) (fun K hK => ?_)
      have z0 := hb9.cell (i := 0) rfl
      have z1 := hb9.cell (i := 1) rfl
      have g0 := hb9.frozen (i := 0)
      have g1 := hb9.frozen (i := 1)
      have HRG := Lib.hid hrg; clear hrg
      have HB9 := Lib.hid hb9; clear hb9
      go_wp2_with fail
      refine ⟨rfl, hK _ _ ?_⟩; clear hK K
      refine Ord.St.fl2 (T' := ?_) 11 [12] _ _ rfl (by kernel_rfl) rfl rfl rfl rfl (fun K w' hk => ?_) ?_
      rotate_left
      · go_step; exact hk
      refine Ord.St.fl2 (T' := ?_) 12 [] _ _ rfl (by kernel_rfl) rfl rfl rfl rfl (fun K w' hk => ?_) ?_
      rotate_left
      · go_step; exact hk
      refine Ord.St.nil ?_
      go_upto_region 5 with fail
      refine wp_alw ?_
      intro W8 hW8
      have hbY : blk W8 b9 [.int .i64 Y.1.most, .slice (some ⟨rb2, 0, none⟩) Y.1.nodes.length cap2] := by rw [hW8]; exact (HB9.out.set (i := 0) _).set (i := 1) _
      have hc9 := set2_ch hW8
      have hc68 := hcur.trans hc9 (fun k hk => .inr (by simp at hk; omega))
      have hrY := HRG.out.ch hc9 (by simpa using hne)
      have b2 := B2.out.ch hc68 (by simp)
      have b4 := B4.out.ch hc68 (by simp)
      have hc8 := HC6.out.trans hc68 (by simp)
      have x0 := hbY.cell (i := 0) rfl
      have x1 := hbY.cell (i := 1) rfl
      have y0 := b2.cell (i := 0) rfl
      have y1 := b2.cell (i := 1) rfl
      have v0 := b4.cell (i := 0) rfl
      have v1 := b4.cell (i := 1) rfl
      have f0 := b4.frozen (i := 0)
      have f1 := b4.frozen (i := 1)
      have RY := Lib.hid hrY; clear hrY
      have HC8 := Lib.hid hc8; clear hc8
      have BB2 := Lib.hid b2; clear b2
      have BB4 := Lib.hid b4; clear b4
      clear hW8 HRG HB9 hbY hc9 hc68 z0 z1 g0 g1 hcur BX B2 B4 RX
      rcases E2.out with he | he
      rotate_left
      · have q : ((Y.2.2 : Int) != 0) = true := by simp [he]
        have hro := HRO2.out
        rw [rThen_bad he] at hro
        have HRO3 := Lib.hid hro; clear hro he HRO2
        go_wp2_with fail
        have hcc := set2_ch (w := W8) (b := w.heap.size + 1) (u := .int .i64 G.most) (v := .slice (some ⟨rb, 0, none⟩) G.nodes.length cap) rfl
        refine bodyPost_ret (v := .tuple #[.agg #[.int .i64 G.most, .slice (some ⟨rb, 0, none⟩) G.nodes.length cap], .int .i64 0, .int .i64 Y.2.2]) (by simp [results, Try.results79, go_sem, v0, v1]) rfl ?_
        rw [HRO3.out]
        exact RTo.self H.out (HC8.out.trans hcc (fun k hk => .inr (by simp at hk; omega))) 0 Y.2.2
      · have q : ((Y.2.2 : Int) != 0) = false := by simp [he]
        have hro := HRO2.out
        rw [rThen_good he] at hro
        have HRO3 := Lib.hid hro; clear hro he HRO2
        have HA := Lib.hid (HA3.out _ _ _ RY.out)
        go_wp2_with fail
        refine HA.out.mono ?_
        rintro e w9 ⟨rb3, cap3, rfl, hrg, hch, hfr⟩
        have b2 := BB2.out.ch hch (by simp)
        have b4 := BB4.out.ch hch (by simp)
        have hr3 : rb3 = rb ∨ w.heap.size + 1 < rb3 := by have := BB4.out.lt; rcases hfr with e | e <;> omega
        have hc09 := HC8.out.trans hch (by simp)
        clear x0 x1 y0 y1 v0 v1 f0 f1 q hch hfr HA
        have HC9 := Lib.hid hc09; clear hc09
        have HRG := Lib.hid hrg; clear hrg
        go_upto_region 8 with fail
        refine wp_alw ?_
        intro Wx hWx
        have hbZ := alw_blk (xs := [.int .i64 Z.1.most, .slice (some ⟨rb3, 0, none⟩) Z.1.nodes.length cap3]) hWx
        have hrZ := HRG.out.ch (alw_ch hWx) (by simp)
        replace b2 := b2.ch (alw_ch hWx) (by simp)
        replace b4 := b4.ch (alw_ch hWx) (by simp)
        have hcx := HC9.out.trans (alw_ch hWx) (by simp)
        clear hWx HC9 HRG
        generalize w9.heap.size = bx at *
        have x0 := hbZ.cell (i := 0) rfl
        have x1 := hbZ.cell (i := 1) rfl
        have y0 := b2.cell (i := 0) rfl
        have y1 := b2.cell (i := 1) rfl
        have v0 := b4.cell (i := 0) rfl
        have v1 := b4.cell (i := 1) rfl
        have f0 := b4.frozen (i := 0)
        have f1 := b4.frozen (i := 1)
        have HCX := Lib.hid hcx; clear hcx
        have RZ := Lib.hid hrZ; clear hrZ
        clear b2 b4 hbZ
        rcases E3.out with he | he
        · have q : ((Z.2.2 : Int) != 0) = false := by simp [he]
          have hro := HRO3.out
          rw [rThen_good he] at hro
          have HRO4 := Lib.hid hro; clear hro he HRO3
          go_wp2_with fail
          have hcc := set2_ch (w := Wx) (b := w.heap.size + 1) (u := .int .i64 Z.1.most) (v := .slice (some ⟨rb3, 0, none⟩) Z.1.nodes.length cap3) rfl
          refine bodyPost_ret (v := .tuple #[.agg #[.int .i64 Z.1.most, .slice (some ⟨rb3, 0, none⟩) Z.1.nodes.length cap3], .int .i64 Z.2.1, .int .i64 0]) (by simp [results, Try.results79, go_sem, v0, v1]) rfl ?_
          rw [HRO4.out]
          exact ⟨rb3, cap3, rfl, RZ.out.ch hcc (by simp; omega), HCX.out.trans hcc (fun k hk => .inr (by simp at hk; omega)), by omega⟩
        · have q : ((Z.2.2 : Int) != 0) = true := by simp [he]
          have hro := HRO3.out
          rw [rThen_bad he] at hro
          have HRO4 := Lib.hid hro; clear hro he HRO3
          go_wp2_with fail
          have hcc := set2_ch (w := Wx) (b := w.heap.size + 1) (u := .int .i64 G.most) (v := .slice (some ⟨rb, 0, none⟩) G.nodes.length cap) rfl
          refine bodyPost_ret (v := .tuple #[.agg #[.int .i64 G.most, .slice (some ⟨rb, 0, none⟩) G.nodes.length cap], .int .i64 0, .int .i64 Z.2.2]) (by simp [results, Try.results79, go_sem, v0, v1]) rfl ?_
          rw [HRO4.out]
          exact RTo.self H.out (HCX.out.trans hcc (fun k hk => .inr (by simp at hk; omega))) 0 Z.2.2
end
end Go.Proofs.Ytnajonchjlplmaa
