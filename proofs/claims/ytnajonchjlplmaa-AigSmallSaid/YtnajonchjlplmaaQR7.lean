/-
  Walks over the reference's All and Any. Conditions: a graph that can be read, a slice of references of it.
-/
import Derived.Test.YtnajonchjlplmaaQR6
namespace Go.Proofs.Ytnajonchjlplmaa
open Go.RowKit Go.Mem Go.Aig
section
set_option maxRecDepth 100000 in
set_option maxHeartbeats 4000000 in
theorem rAll_is {w : World} {rb cap : Nat} {G : Gra} (h : RG w rb cap G) {a : Option Addr} {l : List Nat} (n acap : Nat) (hn : l.length = n) (hs : Sl w a (l.map fun (r : Nat) => (r : Int))) (hr : ∀ r ∈ l, r < 2 * G.nodes.length) (hm : n ≤ 1000000) :
    Calls Try.prog 80 #[.agg #[.int .i64 G.most, .slice (some ⟨rb, 0, none⟩) G.nodes.length cap], .slice a n acap] w (RTo w rb (rAll G l)) := by
  subst hn
  obtain ⟨hl, hp, hmo⟩ := h.len
  have hle := h.le
  have hmx := h.mx
  have hrb := h.lt
  have hgok := Lib.hid h.ok
  have hall : rAll G l = rAllFrom G G 1 l := rfl
  generalize rAll G l = RO at *
  have HALL := Lib.hid hall; clear hall
  have HS := Lib.hid hs; clear hs
  have HR := Lib.hid hr; clear hr
  have H := Lib.hid h; clear h
  go_enter Try.func80, Try.ntmps80
  go_wp2_with fail
  refine wp_alw ?_
  intro W0 hW0
  have hc0 : Ch [] w W0 := by rw [hW0]; exact (((Ch.refl _ _).alloc _).alloc _).alloc _
  have b2 : blk W0 w.heap.size [.int .i64 G.most, .slice (some ⟨rb, 0, none⟩) G.nodes.length cap] := by rw [hW0]; exact ((blk.new' (w := w) [.int .i64 G.most, .slice (some ⟨rb, 0, none⟩) G.nodes.length cap] 105 rfl).alloc _).alloc _
  have b4 : blk W0 (w.heap.size + 1) [.int .i64 0, .slice none 0 0] := by rw [hW0]; exact (blk.new' [.int .i64 0, .slice none 0 0] 105 (by simp)).alloc _
  have b7 : blk W0 (w.heap.size + 1 + 1) [.int .i64 G.most, .slice (some ⟨rb, 0, none⟩) G.nodes.length cap] := by rw [hW0]; exact blk.new' [.int .i64 G.most, .slice (some ⟨rb, 0, none⟩) G.nodes.length cap] 105 (by simp)
  clear hW0
  have hr0 := H.out.ch hc0 (by simp)
  have B2 := Lib.hid b2; clear b2
  have B4 := Lib.hid b4; clear b4
  have B7 := Lib.hid b7; clear b7
  have HC0 := Lib.hid hc0; clear hc0
  have HR0 := Lib.hid hr0; clear hr0
  go_loopw [8, 9] (fun o i wr => ∃ (k : Nat) (now : Gra) (out rbk capk : Nat), k ≤ l.length ∧ i = .int .i64 k ∧ o = .int .i64 out ∧ out < 2 * now.nodes.length ∧ Ext G now ∧ RO = rAllFrom G now out (l.drop k) ∧ Ch [] w wr ∧ RG wr rbk capk now ∧ (rbk = rb ∨ w.heap.size + 1 + 1 < rbk) ∧
    blk wr w.heap.size [.int .i64 G.most, .slice (some ⟨rb, 0, none⟩) G.nodes.length cap] ∧ blk wr (w.heap.size + 1) [.int .i64 0, .slice none 0 0] ∧ blk wr (w.heap.size + 1 + 1) [.int .i64 now.most, .slice (some ⟨rbk, 0, none⟩) now.nodes.length capk]) (fun _ i _ => l.length - (intOf i).toNat)
  case atStart => exact ⟨0, G, 1, rb, cap, by omega, rfl, rfl, by omega, .refl _, HALL.out, HC0.out, HR0.out, .inl rfl, B2.out, B4.out, B7.out⟩
  case round =>
    clear B2 B4 B7 HC0 HR0 HALL
    obtain ⟨k, now, out, rbk, capk, hk, rfl, rfl, hout, hext, hro, hc, hrg, hfr, b2, b4, b7⟩ := hrel
    by_cases hlt : k < l.length
    · obtain ⟨r, hx⟩ : ∃ r, l[k]? = some r := ⟨_, List.getElem?_eq_getElem hlt⟩
      have hrm := HR.out r (List.mem_of_getElem? hx)
      have hdrop : l.drop k = r :: l.drop (k + 1) := by
        rw [List.drop_eq_getElem_cons hlt]
        rw [List.getElem?_eq_getElem hlt] at hx
        cases hx; rfl
      obtain ⟨xb, xo, rfl, hcl⟩ := HS.out.cells k r (by rw [List.getElem?_map, hx]; rfl)
      have c0 := (hc.cell (cell_lt hcl) (by simp)).trans hcl
      rw [hdrop, rAllFrom_step] at hro
      have o1 := and_rok hrg.ok hout (hext.lt hrm)
      have hA := fun (W : World) (hW : Ch [] wr W) => rAnd_is (hrg.ch hW (by simp)) hout (hext.lt hrm)
      generalize Aig.and now out r = X at *
      have E1 := Lib.hid o1.err
      have XO := Lib.hid o1; clear o1
      have HRO := Lib.hid hro; clear hro hx hdrop hcl
      have HA1 := Lib.hid hA; clear hA
      have hrgl := hrg.lt
      have hb7l := b7.lt
      have HRG := Lib.hid hrg; clear hrg
      have B2 := Lib.hid b2; clear b2
      have B4 := Lib.hid b4; clear b4
      have B7 := Lib.hid b7; clear b7
      have HC := Lib.hid hc; clear hc
      have C0 := Lib.hid c0; clear c0
      go_wp2_with fail
      refine Ord.St.door (fun w' => Ch [] wr w') [.ho, .fl, .fl, .fl, .fl, .ho, .ef, .fl, .fl, .fl, .fl, .ef, .ef, .fl, .fl] [0, 0, 0, 0, 12, 28, 63, 127, 255, 255, 255, 0, 2559, 7167, 16383] [0, 1, 2, 3, 4, 5, 6, 7, 8, 9, 10, 11, 12, 13, 14] mixed (by kernel_rfl) rfl ?_
      obtain ⟨Wc, hWc⟩ : ∃ Wc, Wc = wr.drew := ⟨_, rfl⟩
      rw [← hWc]
      have hcur : Ch [] wr Wc := by rw [hWc]; exact (Ch.refl _ _).drew
      clear hWc
      refine Ord.St.ho2 (T' := ?_) 0 [1, 2, 3, 4, 5, 6, 7, 8, 9, 10, 11, 12, 13, 14] _ _ rfl (by kernel_rfl) rfl rfl rfl rfl ?_ (fun K w' hw' hk => ?_) ?_
      rotate_left
      · trivial
      · have y0 := (B7.out.ch hw' (by simp)).cell (i := 0) rfl; have y1 := (B7.out.ch hw' (by simp)).cell (i := 1) rfl; have a0 := (hw'.cell (cell_lt C0.out) (by simp)).trans C0.out; go_step; exact hk
      refine Ord.St.fl2 (T' := ?_) 1 [2, 3, 4, 5, 6, 7, 8, 9, 10, 11, 12, 13, 14] _ _ rfl (by kernel_rfl) rfl rfl rfl rfl (fun K w' hk => ?_) ?_
      rotate_left
      · go_step; exact hk
      refine Ord.St.fl2 (T' := ?_) 2 [3, 4, 5, 6, 7, 8, 9, 10, 11, 12, 13, 14] _ _ rfl (by kernel_rfl) rfl rfl rfl rfl (fun K w' hk => ?_) ?_
      rotate_left
      · go_step; exact hk
      refine Ord.St.fl2 (T' := ?_) 3 [4, 5, 6, 7, 8, 9, 10, 11, 12, 13, 14] _ _ rfl (by kernel_rfl) rfl rfl rfl rfl (fun K w' hk => ?_) ?_
      rotate_left
      · go_step; exact hk
      refine Ord.St.fl2 (T' := ?_) 4 [5, 6, 7, 8, 9, 10, 11, 12, 13, 14] _ _ rfl (by kernel_rfl) rfl rfl rfl rfl (fun K w' hk => ?_) ?_
      rotate_left
      · go_step; exact hk
      refine Ord.St.ho2 (T' := ?_) 5 [6, 7, 8, 9, 10, 11, 12, 13, 14] _ _ rfl (by kernel_rfl) rfl rfl rfl rfl ?_ (fun K w' hw' hk => ?_) ?_
      rotate_left
      · trivial
      · have y0 := (B7.out.ch hw' (by simp)).cell (i := 0) rfl; have y1 := (B7.out.ch hw' (by simp)).cell (i := 1) rfl; have a0 := (hw'.cell (cell_lt C0.out) (by simp)).trans C0.out; go_step; exact hk
      refine Ord.St.two 6 11 [7, 8, 9, 10, 11, 12, 13, 14] [6, 7, 8, 9, 10, 12, 13, 14] _ _ (by kernel_rfl) rfl rfl (by kernel_rfl) (by kernel_rfl) (fun K hK => ?_) (fun K hK => ?_)
      · have HA := Lib.hid (HA1.out _ hcur)
        go_wp2_with fail
        refine HA.out.mono ?_
        rintro e w5 ⟨rb1, cap1, rfl, hrg1, hch, hfr1⟩
        go_wp2_with fail
        refine ⟨rfl, hK _ _ ?_ ?_⟩
        · exact hcur.trans hch (by simp)
        clear hK K
        try have hne := rto_ne hb9 (by have := hs9; omega) hfr1
        try replace hb9 := hb9.ch hch (by simp)
        have hfr2 : rb1 = rb ∨ w.heap.size + 1 + 1 < rb1 := by have := hcur.size; rcases hfr1 with e | e <;> omega
        replace hcur := hcur.trans hch (by simp)
        clear hch hfr1 HA
        refine Ord.St.fl2 (T' := ?_) 7 [8, 9, 10, 11, 12, 13, 14] _ _ rfl (by kernel_rfl) rfl rfl rfl rfl (fun K w' hk => ?_) ?_
        rotate_left
        · go_step; exact hk
        refine Ord.St.fl2 (T' := ?_) 8 [9, 10, 11, 12, 13, 14] _ _ rfl (by kernel_rfl) rfl rfl rfl rfl (fun K w' hk => ?_) ?_
        rotate_left
        · go_step; exact hk
        refine Ord.St.fl2 (T' := ?_) 9 [10, 11, 12, 13, 14] _ _ rfl (by kernel_rfl) rfl rfl rfl rfl (fun K w' hk => ?_) ?_
        rotate_left
        · go_step; exact hk
        refine Ord.St.fl2 (T' := ?_) 10 [11, 12, 13, 14] _ _ rfl (by kernel_rfl) rfl rfl rfl rfl (fun K w' hk => ?_) ?_
        rotate_left
        · go_step; exact hk
        refine Ord.St.efC 11 [12, 13, 14] _ rfl (by kernel_rfl) (fun K hK => ?_)
        go_wp2_with fail
        refine ⟨rfl, hK _ _ ?_ ?_⟩
        · exact hcur.alloc _
        clear hK K
        refine Ord.St.alw ?_; intro Wn hWn
        have hb9 := alw_blk (xs := [.int .i64 0, .slice none 0 0]) hWn
        have hs9 := hcur.size
        try have hne := rg_ne hrg1
        try replace hrg1 := hrg1.ch (alw_ch hWn) (by simp)
        replace hcur := hcur.trans (alw_ch hWn) (by simp)
        clear hWn
        first | (have _t := hrg1; clear _t; generalize w5.heap.size = b9 at *) | generalize Wc.heap.size = b9 at *
        refine Ord.St.ef 12 [13, 14] _ rfl (by kernel_rfl) (fun K hK => ?_)
        have z0 := hb9.cell (i := 0) rfl
        have z1 := hb9.cell (i := 1) rfl
        have g0 := hb9.frozen (i := 0)
        have g1 := hb9.frozen (i := 1)
        have HRG1 := Lib.hid hrg1; clear hrg1
        have HB9 := Lib.hid hb9; clear hb9
        go_wp2_with fail
        refine ⟨rfl, hK _ _ ?_⟩; clear hK K
        refine Ord.St.fl2 (T' := ?_) 13 [14] _ _ rfl (by kernel_rfl) rfl rfl rfl rfl (fun K w' hk => ?_) ?_
        rotate_left
        · go_step; exact hk
        refine Ord.St.fl2 (T' := ?_) 14 [] _ _ rfl (by kernel_rfl) rfl rfl rfl rfl (fun K w' hk => ?_) ?_
        rotate_left
        · go_step; exact hk
        refine Ord.St.nil ?_
        go_upto_region 6 with fail
        refine wp_alw ?_
        intro W8 hW8
        have hbY : blk W8 b9 [.int .i64 X.1.most, .slice (some ⟨rb1, 0, none⟩) X.1.nodes.length cap1] := by rw [hW8]; exact (HB9.out.set (i := 0) _).set (i := 1) _
        have hc9 := set2_ch hW8
        have hc68 : Ch [] wr W8 := hcur.trans hc9 (fun k hk => .inr (by simp at hk; omega))
        have hrY := HRG1.out.ch hc9 (by simpa using hne)
        have b2 := B2.out.ch hc68 (by simp)
        have b4 := B4.out.ch hc68 (by simp)
        have b7 := B7.out.ch hc68 (by simp)
        have hc8 := HC.out.trans hc68 (by simp)
        have x0 := hbY.cell (i := 0) rfl
        have x1 := hbY.cell (i := 1) rfl
        have y0 := b2.cell (i := 0) rfl
        have y1 := b2.cell (i := 1) rfl
        have v0 := b4.cell (i := 0) rfl
        have v1 := b4.cell (i := 1) rfl
        have f0 := b4.frozen (i := 0)
        have f1 := b4.frozen (i := 1)
        have u0 := b7.cell (i := 0) rfl
        have u1 := b7.cell (i := 1) rfl
        have p0 := b7.frozen (i := 0)
        have p1 := b7.frozen (i := 1)
        have RY := Lib.hid hrY; clear hrY
        have HC8 := Lib.hid hc8; clear hc8
        have BB2 := Lib.hid b2; clear b2
        have BB4 := Lib.hid b4; clear b4
        have BB7 := Lib.hid b7; clear b7
        clear hW8 HRG1 HB9 hbY hc9 hc68 z0 z1 g0 g1 hcur B7 B2 B4 HRG
        rcases E1.out with he | he
        · have q : ((X.2.2 : Int) != 0) = false := by simp [he]
          have hro := HRO.out
          rw [if_neg (by simp [he])] at hro
          have HRO2 := Lib.hid hro; clear hro he HRO
          go_wp2_with fail
          have hcc := set2_ch (w := W8) (b := w.heap.size + 1 + 1) (u := .int .i64 X.1.most) (v := .slice (some ⟨rb1, 0, none⟩) X.1.nodes.length cap1) rfl
          have hb7' := (BB7.out.set (i := 0) (.int .i64 X.1.most)).set (i := 1) (.slice (some ⟨rb1, 0, none⟩) X.1.nodes.length cap1)
          go_roundw
          case rel => exact ⟨k + 1, X.1, X.2.1, rb1, cap1, by omega, by go_num, rfl, XO.out.lt, hext.trans XO.out.ext, HRO2.out, HC8.out.trans hcc (fun k hk => .inr (by simp at hk; omega)), RY.out.ch hcc (by simp; omega), hfr2, BB2.out.ch hcc (by simp; omega), BB4.out.ch hcc (by simp), hb7'⟩
          case measure => simp [intOf]; omega
        · have q : ((X.2.2 : Int) != 0) = true := by simp [he]
          have hro := HRO.out
          rw [if_pos (by simp [he])] at hro
          have HRO2 := Lib.hid hro; clear hro he HRO
          go_wp2_with fail
          have hcc := set2_ch (w := W8) (b := w.heap.size + 1) (u := .int .i64 G.most) (v := .slice (some ⟨rb, 0, none⟩) G.nodes.length cap) rfl
          refine bodyPost_ret (v := .tuple #[.agg #[.int .i64 G.most, .slice (some ⟨rb, 0, none⟩) G.nodes.length cap], .int .i64 0, .int .i64 X.2.2]) (by simp [results, Try.results80, go_sem, v0, v1]) rfl ?_
          rw [HRO2.out]
          exact RTo.self H.out (HC8.out.trans hcc (fun k hk => .inr (by simp at hk; omega))) 0 X.2.2
      · go_wp2_with fail
        refine ⟨rfl, hK _ _ ?_ ?_⟩
        · exact hcur.alloc _
        clear hK K
        refine Ord.St.alw ?_; intro Wn hWn
        have hb9 := alw_blk (xs := [.int .i64 0, .slice none 0 0]) hWn
        have hs9 := hcur.size
        try have hne := rg_ne hrg1
        try replace hrg1 := hrg1.ch (alw_ch hWn) (by simp)
        replace hcur := hcur.trans (alw_ch hWn) (by simp)
        clear hWn
        first | (have _t := hrg1; clear _t; generalize w5.heap.size = b9 at *) | generalize Wc.heap.size = b9 at *
        refine Ord.St.ef 6 [7, 8, 9, 10, 12, 13, 14] _ rfl (by kernel_rfl) (fun K hK => ?_)
        have HA := Lib.hid (HA1.out _ hcur)
        go_wp2_with fail
        refine HA.out.mono ?_
        rintro e w5 ⟨rb1, cap1, rfl, hrg1, hch, hfr1⟩
        go_wp2_with fail
        refine ⟨rfl, hK _ _ ?_⟩; clear hK K
        try have hne := rto_ne hb9 (by have := hs9; omega) hfr1
        try replace hb9 := hb9.ch hch (by simp)
        have hfr2 : rb1 = rb ∨ w.heap.size + 1 + 1 < rb1 := by have := hcur.size; rcases hfr1 with e | e <;> omega
        replace hcur := hcur.trans hch (by simp)
        clear hch hfr1 HA
        refine Ord.St.fl2 (T' := ?_) 7 [8, 9, 10, 12, 13, 14] _ _ rfl (by kernel_rfl) rfl rfl rfl rfl (fun K w' hk => ?_) ?_
        rotate_left
        · go_step; exact hk
        refine Ord.St.fl2 (T' := ?_) 8 [9, 10, 12, 13, 14] _ _ rfl (by kernel_rfl) rfl rfl rfl rfl (fun K w' hk => ?_) ?_
        rotate_left
        · go_step; exact hk
        refine Ord.St.fl2 (T' := ?_) 9 [10, 12, 13, 14] _ _ rfl (by kernel_rfl) rfl rfl rfl rfl (fun K w' hk => ?_) ?_
        rotate_left
        · go_step; exact hk
        refine Ord.St.fl2 (T' := ?_) 10 [12, 13, 14] _ _ rfl (by kernel_rfl) rfl rfl rfl rfl (fun K w' hk => ?_) ?_
        rotate_left
        · go_step; exact hk
        refine Ord.St.ef 12 [13, 14] _ rfl (by kernel_rfl) (fun K hK => ?_)
        have z0 := hb9.cell (i := 0) rfl
        have z1 := hb9.cell (i := 1) rfl
        have g0 := hb9.frozen (i := 0)
        have g1 := hb9.frozen (i := 1)
        have HRG1 := Lib.hid hrg1; clear hrg1
        have HB9 := Lib.hid hb9; clear hb9
        go_wp2_with fail
        refine ⟨rfl, hK _ _ ?_⟩; clear hK K
        refine Ord.St.fl2 (T' := ?_) 13 [14] _ _ rfl (by kernel_rfl) rfl rfl rfl rfl (fun K w' hk => ?_) ?_
        rotate_left
        · go_step; exact hk
        refine Ord.St.fl2 (T' := ?_) 14 [] _ _ rfl (by kernel_rfl) rfl rfl rfl rfl (fun K w' hk => ?_) ?_
        rotate_left
        · go_step; exact hk
        refine Ord.St.nil ?_
        go_upto_region 6 with fail
        refine wp_alw ?_
        intro W8 hW8
        have hbY : blk W8 b9 [.int .i64 X.1.most, .slice (some ⟨rb1, 0, none⟩) X.1.nodes.length cap1] := by rw [hW8]; exact (HB9.out.set (i := 0) _).set (i := 1) _
        have hc9 := set2_ch hW8
        have hc68 : Ch [] wr W8 := hcur.trans hc9 (fun k hk => .inr (by simp at hk; omega))
        have hrY := HRG1.out.ch hc9 (by simpa using hne)
        have b2 := B2.out.ch hc68 (by simp)
        have b4 := B4.out.ch hc68 (by simp)
        have b7 := B7.out.ch hc68 (by simp)
        have hc8 := HC.out.trans hc68 (by simp)
        have x0 := hbY.cell (i := 0) rfl
        have x1 := hbY.cell (i := 1) rfl
        have y0 := b2.cell (i := 0) rfl
        have y1 := b2.cell (i := 1) rfl
        have v0 := b4.cell (i := 0) rfl
        have v1 := b4.cell (i := 1) rfl
        have f0 := b4.frozen (i := 0)
        have f1 := b4.frozen (i := 1)
        have u0 := b7.cell (i := 0) rfl
        have u1 := b7.cell (i := 1) rfl
        have p0 := b7.frozen (i := 0)
        have p1 := b7.frozen (i := 1)
        have RY := Lib.hid hrY; clear hrY
        have HC8 := Lib.hid hc8; clear hc8
        have BB2 := Lib.hid b2; clear b2
        have BB4 := Lib.hid b4; clear b4
        have BB7 := Lib.hid b7; clear b7
        clear hW8 HRG1 HB9 hbY hc9 hc68 z0 z1 g0 g1 hcur B7 B2 B4 HRG
        rcases E1.out with he | he
        · have q : ((X.2.2 : Int) != 0) = false := by simp [he]
          have hro := HRO.out
          rw [if_neg (by simp [he])] at hro
          have HRO2 := Lib.hid hro; clear hro he HRO
          go_wp2_with fail
          have hcc := set2_ch (w := W8) (b := w.heap.size + 1 + 1) (u := .int .i64 X.1.most) (v := .slice (some ⟨rb1, 0, none⟩) X.1.nodes.length cap1) rfl
          have hb7' := (BB7.out.set (i := 0) (.int .i64 X.1.most)).set (i := 1) (.slice (some ⟨rb1, 0, none⟩) X.1.nodes.length cap1)
          go_roundw
          case rel => exact ⟨k + 1, X.1, X.2.1, rb1, cap1, by omega, by go_num, rfl, XO.out.lt, hext.trans XO.out.ext, HRO2.out, HC8.out.trans hcc (fun k hk => .inr (by simp at hk; omega)), RY.out.ch hcc (by simp; omega), hfr2, BB2.out.ch hcc (by simp; omega), BB4.out.ch hcc (by simp), hb7'⟩
          case measure => simp [intOf]; omega
        · have q : ((X.2.2 : Int) != 0) = true := by simp [he]
          have hro := HRO.out
          rw [if_pos (by simp [he])] at hro
          have HRO2 := Lib.hid hro; clear hro he HRO
          go_wp2_with fail
          have hcc := set2_ch (w := W8) (b := w.heap.size + 1) (u := .int .i64 G.most) (v := .slice (some ⟨rb, 0, none⟩) G.nodes.length cap) rfl
          refine bodyPost_ret (v := .tuple #[.agg #[.int .i64 G.most, .slice (some ⟨rb, 0, none⟩) G.nodes.length cap], .int .i64 0, .int .i64 X.2.2]) (by simp [results, Try.results80, go_sem, v0, v1]) rfl ?_
          rw [HRO2.out]
          exact RTo.self H.out (HC8.out.trans hcc (fun k hk => .inr (by simp at hk; omega))) 0 X.2.2
    · have hkn : k = l.length := by omega
      rw [List.drop_eq_nil_of_le (by omega)] at hro
      have x0 := b7.cell (i := 0) rfl
      have x1 := b7.cell (i := 1) rfl
      have v0 := b4.cell (i := 0) rfl
      have v1 := b4.cell (i := 1) rfl
      have f0 := b4.frozen (i := 0)
      have f1 := b4.frozen (i := 1)
      have HRO := Lib.hid hro
      have HRG := Lib.hid hrg
      have HC := Lib.hid hc
      clear hkn hro hrg hc b2 b4 b7
      go_wp2_with fail
      have hcc := set2_ch (w := wr) (b := w.heap.size + 1) (u := .int .i64 now.most) (v := .slice (some ⟨rbk, 0, none⟩) now.nodes.length capk) rfl
      refine bodyPost_ret (v := .tuple #[.agg #[.int .i64 now.most, .slice (some ⟨rbk, 0, none⟩) now.nodes.length capk], .int .i64 out, .int .i64 0]) (by simp [results, Try.results80, go_sem, v0, v1]) rfl ?_
      rw [HRO.out]
      exact ⟨rbk, capk, rfl, HRG.out.ch hcc (by simp; omega), HC.out.trans hcc (fun k hk => .inr (by simp at hk; omega)), by omega⟩
end
end Go.Proofs.Ytnajonchjlplmaa
