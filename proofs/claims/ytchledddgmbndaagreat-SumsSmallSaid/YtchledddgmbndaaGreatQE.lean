/-
  Walks over the reference's functions of states that make words and references: Lt, Input. Conditions: a graph that can be read, words of its references.
  Walks over the reference's functions of states that make words and references: Sum. Conditions: a graph that can be read, words of its references.
  Walks over the reference's Not, Check and Input of chapter 23. Conditions: a graph that can be read, words that can be read.
  Walks over the reference's Add, Sub, Neg, Ne, Eq, Le of chapter 23. Conditions: a graph that can be read, words of its references.
  What the acts of sums are, by the program and by the reference; walk over the laws' program. Conditions: a graph in memory, words of any integers.
  Walk over the laws' reference of chapter 23: what it makes, act by act. Conditions: a graph that can be read, words of its references.
  Walks over Same and Begin of chapter 23's laws: two graphs that are the same, and such ones that are made. Conditions: none beyond the hypotheses.
-/
import Derived.Test.YtchledddgmbndaaGreatQD
import Derived.Deep.DeepCutAuto
import Derived.Deep.CutBlock
import Derived.Test.YtchledddgmbndaaGreatQC
import Derived.Test.YtchledddgmbndaaGreatQB
namespace Go.Proofs.YtchledddgmbndaaGreat
open Go.RowKit Go.Mem Go.Aig
section
variable {w : World}
theorem ltF_pre {G : Gra} (hG : Ok G) {Z : List (Nat × Nat)} (hZ : ∀ p ∈ Z, p.1 < 2 * G.nodes.length ∧ p.2 < 2 * G.nodes.length) (z : List (Nat × Nat)) (hz : ∀ p ∈ z, p ∈ Z) : VOk G (ltF (G, 0) z) := ltF_vok hG z (fun p hp => hZ p (hz p hp))
set_option maxRecDepth 100000 in
set_option maxHeartbeats 8000000 in
theorem r23Lt_is {rb cap : Nat} {G : Gra} (h : RG w rb cap G) {xa ya : Option Addr} {X Y : List Nat} (n xc yc : Nat) (hX : Sl w xa (natInts X)) (hY : Sl w ya (natInts Y)) (hn : X.length = n) (hm : Y.length = n) (hn0 : n ≤ 1000) (hxr : ∀ r ∈ X, r < 2 * G.nodes.length) (hyr : ∀ r ∈ Y, r < 2 * G.nodes.length) :
    Calls Tryz.prog 129 #[.agg #[.int .i64 G.most, .slice (some ⟨rb, 0, none⟩) G.nodes.length cap, .int .i64 0], .slice xa n xc, .slice ya n yc] w (STo w rb (ltF (G, 0) (X.zip Y))) := by
  have hok := h.ok
  obtain ⟨Z, hZ⟩ : ∃ Z, Z = X.zip Y := ⟨_, rfl⟩
  have hZl : Z.length = n := by rw [hZ, List.length_zip, hn, hm]; omega
  have hZlt : ∀ p ∈ Z, p.1 < 2 * G.nodes.length ∧ p.2 < 2 * G.nodes.length := by rw [hZ]; exact fun p hp => ⟨hxr _ (List.of_mem_zip hp).1, hyr _ (List.of_mem_zip hp).2⟩
  have hZG : ∀ (j a b : Nat), Z[j]? = some (a, b) → X[j]? = some a ∧ Y[j]? = some b := fun j a b h => by rw [hZ] at h; exact List.getElem?_zip_eq_some.1 h
  rw [← hZ]
  have hElok := fun z (hz : ∀ p ∈ z, p ∈ Z) => ltF_pre hok hZlt z hz
  have hEsn := fun z a b => ltF_snoc (G, 0) z (a, b)
  have hE0 : ltF (G, 0) [] = ((G, 0), 0) := rfl
  obtain ⟨E, hE⟩ : ∃ E : List (Nat × Nat) → Mk × Nat, E = ltF (G, 0) := ⟨_, rfl⟩
  rw [← hE] at hElok hEsn hE0 ⊢
  clear hE hZ hxr hyr
  have HX := Lib.hid hX; clear hX
  have HY := Lib.hid hY; clear hY
  have HN := Lib.hid hn; clear hn
  have HMM := Lib.hid hm; clear hm
  have H := Lib.hid h; clear h
  have HELOK := Lib.hid hElok; clear hElok
  have HESN := Lib.hid hEsn; clear hEsn
  have HZL := Lib.hid hZl; clear hZl
  have HZG := Lib.hid hZG; clear hZG
  have HZLT := Lib.hid hZlt; clear hZlt hok
  have HE0 := Lib.hid hE0; clear hE0
  go_enter Tryz.func129, Tryz.ntmps129
  go_wp2_with fail
  refine wp_alw ?_
  intro W0 hW0
  have hst := RSt.start H.out hW0 rfl
  clear hW0
  have HST := Lib.hid hst; clear hst
  go_loopw [8, 9] (fun o i wr => ∃ (j rbk capk : Nat), j ≤ n ∧ i = .int .i64 j ∧ o = .int .i64 (E (Z.take j)).2 ∧ RSt w wr rb rbk capk (E (Z.take j)).1 (.slice none 0 0) []) (fun _ i _ => n - (intOf i).toNat)
  case atStart => exact ⟨0, rb, cap, by omega, rfl, by rw [List.take_zero, HE0.out]; rfl, by rw [List.take_zero, HE0.out]; exact HST.out⟩
  case round =>
    clear HST
    obtain ⟨j, rbk, capk, hj, rfl, ho, hst⟩ := hrel
    by_cases hjn : j < n
    · obtain ⟨⟨a, b⟩, hab⟩ : ∃ p, Z[j]? = some p := ⟨_, List.getElem?_eq_getElem (by rw [HZL.out]; exact hjn)⟩
      obtain ⟨hla, hlb⟩ := HZG.out j a b hab
      obtain ⟨hav, hbv⟩ := HZLT.out _ (List.mem_of_getElem? hab)
      have hsn : Z.take (j + 1) = Z.take j ++ [(a, b)] := by rw [List.take_add_one, hab]; rfl
      have hEs := HESN.out (Z.take j) a b
      rw [← hsn] at hEs
      have hlk := HELOK.out (Z.take j) (fun p hp => List.mem_of_mem_take hp)
      generalize hEE : E (Z.take (j + 1)) = EN at hEs
      generalize E (Z.take j) = ES at hEs hlk hst ho
      obtain ⟨⟨G2, q2⟩, c⟩ := ES
      simp only at hst ho
      subst ho
      have hsl := hlk.s
      have hcl := hlk.lt
      simp only at hsl hcl
      obtain ⟨h1, h2, h3⟩ := rstep_sok hsl (Y := rXor G2 a b) (fun _ => rXor_full hsl.ok (hsl.ext.lt hav) (hsl.ext.lt hbv))
      have ha2 : a < 2 * G2.nodes.length := hsl.ext.lt hav
      have hb2 : b < 2 * G2.nodes.length := hsl.ext.lt hbv
      have hM1 := fun (W : World) (hW : Ch [] wr W) => r23Xor_is (q := q2) (hst.rg.ch hW (by simp)) ha2 hb2
      have hM2 := fun (W : World) (rb3 cap3 : Nat) (hr : RG W rb3 cap3 (rstep (G2, q2) (rXor G2 a b)).1.1) (W' : World) (hW : Ch [] W W') => r23Mux_is (q := (rstep (G2, q2) (rXor G2 a b)).1.2) (hr.ch hW (by simp)) h2 (h1.ext.lt hbv) (h3.lt hcl)
      unfold ltS sXor sMux at hEs
      simp only at hEs
      obtain ⟨⟨⟨G3, q3⟩, p3⟩, hR1⟩ : ∃ R : Mk × Nat, R = rstep (G2, q2) (rXor G2 a b) := ⟨_, rfl⟩
      simp only [← hR1] at hEs hM1 hM2
      obtain ⟨⟨⟨G4, q4⟩, p4⟩, hR2⟩ : ∃ R : Mk × Nat, R = rstep (G3, q3) (rMux G3 p3 b c) := ⟨_, rfl⟩
      simp only [← hR2] at hEs hM2
      subst hEs
      clear hR1 hR2 hlk hsn hab hav hbv ha2 hb2 h1 h2 h3 hsl hcl
      have HEN := Lib.hid hEE; clear hEE
      have HM := Lib.hid hM1; clear hM1
      have HM2 := Lib.hid hM2; clear hM2
      have HST := Lib.hid hst; clear hst
      obtain ⟨ab, ao, ae, ac⟩ := HX.out.cells j (a : Int) (by simp [natInts, hla])
      have a0 : wr.cell? ⟨ab, ao + j, none⟩ = some (.int .i64 a) := (HST.out.ch.cell (cell_lt ac) (by simp)).trans ac
      subst ae
      clear ac
      obtain ⟨bb, bo, be, bc⟩ := HY.out.cells j (b : Int) (by simp [natInts, hlb])
      have b0 : wr.cell? ⟨bb, bo + j, none⟩ = some (.int .i64 b) := (HST.out.ch.cell (cell_lt bc) (by simp)).trans bc
      subst be
      clear bc
      clear hla hlb
      have HA0 := Lib.hid a0; clear a0
      have HB0 := Lib.hid b0; clear b0
      have hrlk := HST.out.rg.lt
      go_upto_region 5 with fail
      go_cut [10, 11] (fun p q wd => TS wr wd rbk ((G3, q3), p3) p q)
      case first =>
        refine Ord.St.door (fun w' => Ch [] wr w') [.ho, .fl, .fl, .fl, .ho, .fl, .fl, .fl, .ho, .ef, .fl, .fl, .fl, .ef, .ef, .fl] [0, 0, 0, 6, 14, 0, 0, 96, 224, 511, 1023, 2047, 2047, 0, 12287, 32767] [0, 1, 2, 3, 4, 5, 6, 7, 8, 9, 10, 11, 12, 13, 14, 15] mixed (by kernel_rfl) rfl ?_
        obtain ⟨Wc, hWc⟩ : ∃ Wc, Wc = wr.drew := ⟨_, rfl⟩
        rw [← hWc]
        have hcur : Ch [] wr Wc := by rw [hWc]; exact (Ch.refl _ _).drew
        clear hWc
        refine Ord.St.ho2 (T' := ?_) 0 [1, 2, 3, 4, 5, 6, 7, 8, 9, 10, 11, 12, 13, 14, 15] _ _ rfl (by kernel_rfl) rfl rfl rfl rfl ?_ (fun K w' hw' hk => ?_) ?_
        rotate_left
        · trivial
        · have hb4 := (HST.out.same hw').b4; have y0 := hb4.cell (i := 0) rfl; have y1 := hb4.cell (i := 1) rfl; have y2 := hb4.cell (i := 2) rfl; have a0 := (hw'.cell (cell_lt HA0.out) (by simp)).trans HA0.out; have b0 := (hw'.cell (cell_lt HB0.out) (by simp)).trans HB0.out; go_step; exact hk
        refine Ord.St.fl2 (T' := ?_) 1 [2, 3, 4, 5, 6, 7, 8, 9, 10, 11, 12, 13, 14, 15] _ _ rfl (by kernel_rfl) rfl rfl rfl rfl (fun K w' hk => ?_) ?_
        rotate_left
        · go_step; exact hk
        refine Ord.St.fl2 (T' := ?_) 2 [3, 4, 5, 6, 7, 8, 9, 10, 11, 12, 13, 14, 15] _ _ rfl (by kernel_rfl) rfl rfl rfl rfl (fun K w' hk => ?_) ?_
        rotate_left
        · go_step; exact hk
        refine Ord.St.fl2 (T' := ?_) 3 [4, 5, 6, 7, 8, 9, 10, 11, 12, 13, 14, 15] _ _ rfl (by kernel_rfl) rfl rfl rfl rfl (fun K w' hk => ?_) ?_
        rotate_left
        · go_step; exact hk
        refine Ord.St.ho2 (T' := ?_) 4 [5, 6, 7, 8, 9, 10, 11, 12, 13, 14, 15] _ _ rfl (by kernel_rfl) rfl rfl rfl rfl ?_ (fun K w' hw' hk => ?_) ?_
        rotate_left
        · trivial
        · have hb4 := (HST.out.same hw').b4; have y0 := hb4.cell (i := 0) rfl; have y1 := hb4.cell (i := 1) rfl; have y2 := hb4.cell (i := 2) rfl; have a0 := (hw'.cell (cell_lt HA0.out) (by simp)).trans HA0.out; have b0 := (hw'.cell (cell_lt HB0.out) (by simp)).trans HB0.out; go_step; exact hk
        refine Ord.St.fl2 (T' := ?_) 5 [6, 7, 8, 9, 10, 11, 12, 13, 14, 15] _ _ rfl (by kernel_rfl) rfl rfl rfl rfl (fun K w' hk => ?_) ?_
        rotate_left
        · go_step; exact hk
        refine Ord.St.fl2 (T' := ?_) 6 [7, 8, 9, 10, 11, 12, 13, 14, 15] _ _ rfl (by kernel_rfl) rfl rfl rfl rfl (fun K w' hk => ?_) ?_
        rotate_left
        · go_step; exact hk
        refine Ord.St.fl2 (T' := ?_) 7 [8, 9, 10, 11, 12, 13, 14, 15] _ _ rfl (by kernel_rfl) rfl rfl rfl rfl (fun K w' hk => ?_) ?_
        rotate_left
        · go_step; exact hk
        refine Ord.St.ho2 (T' := ?_) 8 [9, 10, 11, 12, 13, 14, 15] _ _ rfl (by kernel_rfl) rfl rfl rfl rfl ?_ (fun K w' hw' hk => ?_) ?_
        rotate_left
        · trivial
        · have hb4 := (HST.out.same hw').b4; have y0 := hb4.cell (i := 0) rfl; have y1 := hb4.cell (i := 1) rfl; have y2 := hb4.cell (i := 2) rfl; have a0 := (hw'.cell (cell_lt HA0.out) (by simp)).trans HA0.out; have b0 := (hw'.cell (cell_lt HB0.out) (by simp)).trans HB0.out; go_step; exact hk
        refine Ord.St.two 9 13 [10, 11, 12, 13, 14, 15] [9, 10, 11, 12, 14, 15] _ _ (by kernel_rfl) rfl rfl (by kernel_rfl) (by kernel_rfl) (fun K hK => ?_) (fun K hK => ?_)
        · have HA := Lib.hid (HM.out _ hcur)
          go_wp2_with fail
          refine HA.out.mono ?_
          rintro e w7 ⟨rb2, cap2, rfl, hrg2, hch, hfr3⟩
          go_wp2_with fail
          refine ⟨rfl, hK _ _ ?_ ?_⟩
          · exact hcur.trans hch (by simp)
          clear hK K
          try have hne := rto_ne hb9 (by omega) hfr3
          try replace hb9 := hb9.ch hch (by simp)
          have hfr5 : rb2 = rbk ∨ wr.heap.size ≤ rb2 := by have := hcur.size; rcases hfr3 with e | e <;> omega
          replace hcur := hcur.trans hch (by simp)
          clear hch hfr3 HA
          refine Ord.St.fl2 (T' := ?_) 10 [11, 12, 13, 14, 15] _ _ rfl (by kernel_rfl) rfl rfl rfl rfl (fun K w' hk => ?_) ?_
          rotate_left
          · go_step; exact hk
          refine Ord.St.fl2 (T' := ?_) 11 [12, 13, 14, 15] _ _ rfl (by kernel_rfl) rfl rfl rfl rfl (fun K w' hk => ?_) ?_
          rotate_left
          · go_step; exact hk
          refine Ord.St.fl2 (T' := ?_) 12 [13, 14, 15] _ _ rfl (by kernel_rfl) rfl rfl rfl rfl (fun K w' hk => ?_) ?_
          rotate_left
          · go_step; exact hk
          refine Ord.St.efC 13 [14, 15] _ rfl (by kernel_rfl) (fun K hK => ?_)
          go_wp2_with fail
          refine ⟨rfl, hK _ _ ?_ ?_⟩
          · exact hcur.alloc _
          clear hK K
          refine Ord.St.alw ?_; intro Wn hWn
          have hb9 := alw_blk (xs := [.int .i64 0, .slice none 0 0, .int .i64 0]) hWn
          have hs9 := hcur.size
          try have hne := rg_ne hrg2
          try replace hrg2 := hrg2.ch (alw_ch hWn) (by simp)
          replace hcur := hcur.trans (alw_ch hWn) (by simp)
          clear hWn
          first | (have _t := hrg2; clear _t; generalize w7.heap.size = b9 at *) | generalize Wc.heap.size = b9 at *
          refine Ord.St.ef 14 [15] _ rfl (by kernel_rfl) (fun K hK => ?_)
          have z0 := hb9.cell (i := 0) rfl
          have z1 := hb9.cell (i := 1) rfl
          have z2 := hb9.cell (i := 2) rfl
          have g0 := hb9.frozen (i := 0)
          have g1 := hb9.frozen (i := 1)
          have g2 := hb9.frozen (i := 2)
          have HRG2 := Lib.hid hrg2; clear hrg2
          have HB9 := Lib.hid hb9; clear hb9
          have HCUR := Lib.hid hcur; clear hcur
          go_wp2_with fail
          refine ⟨rfl, hK _ _ ?_⟩; clear hK K
          refine Ord.St.fl2 (T' := ?_) 15 [] _ _ rfl (by kernel_rfl) rfl rfl rfl rfl (fun K w' hk => ?_) ?_
          rotate_left
          · go_step; exact hk
          refine Ord.St.nil ?_
          go_wp2_with fail
          go_meet
          case rel => exact TS.mk HCUR.out HRG2.out hfr5 HB9.out hs9 hne rfl
        · go_wp2_with fail
          refine ⟨rfl, hK _ _ ?_ ?_⟩
          · exact hcur.alloc _
          clear hK K
          refine Ord.St.alw ?_; intro Wn hWn
          have hb9 := alw_blk (xs := [.int .i64 0, .slice none 0 0, .int .i64 0]) hWn
          have hs9 := hcur.size
          try have hne := rg_ne hrg2
          try replace hrg2 := hrg2.ch (alw_ch hWn) (by simp)
          replace hcur := hcur.trans (alw_ch hWn) (by simp)
          clear hWn
          first | (have _t := hrg2; clear _t; generalize w7.heap.size = b9 at *) | generalize Wc.heap.size = b9 at *
          refine Ord.St.ef 9 [10, 11, 12, 14, 15] _ rfl (by kernel_rfl) (fun K hK => ?_)
          have HA := Lib.hid (HM.out _ hcur)
          go_wp2_with fail
          refine HA.out.mono ?_
          rintro e w7 ⟨rb2, cap2, rfl, hrg2, hch, hfr3⟩
          go_wp2_with fail
          refine ⟨rfl, hK _ _ ?_⟩; clear hK K
          try have hne := rto_ne hb9 (by omega) hfr3
          try replace hb9 := hb9.ch hch (by simp)
          have hfr5 : rb2 = rbk ∨ wr.heap.size ≤ rb2 := by have := hcur.size; rcases hfr3 with e | e <;> omega
          replace hcur := hcur.trans hch (by simp)
          clear hch hfr3 HA
          refine Ord.St.fl2 (T' := ?_) 10 [11, 12, 14, 15] _ _ rfl (by kernel_rfl) rfl rfl rfl rfl (fun K w' hk => ?_) ?_
          rotate_left
          · go_step; exact hk
          refine Ord.St.fl2 (T' := ?_) 11 [12, 14, 15] _ _ rfl (by kernel_rfl) rfl rfl rfl rfl (fun K w' hk => ?_) ?_
          rotate_left
          · go_step; exact hk
          refine Ord.St.fl2 (T' := ?_) 12 [14, 15] _ _ rfl (by kernel_rfl) rfl rfl rfl rfl (fun K w' hk => ?_) ?_
          rotate_left
          · go_step; exact hk
          refine Ord.St.ef 14 [15] _ rfl (by kernel_rfl) (fun K hK => ?_)
          have z0 := hb9.cell (i := 0) rfl
          have z1 := hb9.cell (i := 1) rfl
          have z2 := hb9.cell (i := 2) rfl
          have g0 := hb9.frozen (i := 0)
          have g1 := hb9.frozen (i := 1)
          have g2 := hb9.frozen (i := 2)
          have HRG2 := Lib.hid hrg2; clear hrg2
          have HB9 := Lib.hid hb9; clear hb9
          have HCUR := Lib.hid hcur; clear hcur
          go_wp2_with fail
          refine ⟨rfl, hK _ _ ?_⟩; clear hK K
          refine Ord.St.fl2 (T' := ?_) 15 [] _ _ rfl (by kernel_rfl) rfl rfl rfl rfl (fun K w' hk => ?_) ?_
          rotate_left
          · go_step; exact hk
          refine Ord.St.nil ?_
          go_wp2_with fail
          go_meet
          case rel => exact TS.mk HCUR.out HRG2.out hfr5 HB9.out hs9 hne rfl
      case rest =>
        obtain ⟨rb3, cap3, b3, rfl, rfl, hc3, hrg3, hfr3, hb3, hlo3⟩ := hcut
        have hM := fun (W : World) (hW : Ch [] wc W) => HM2.out wc rb3 cap3 hrg3 W hW
        have HM3 := Lib.hid hM; clear hM HM2
        have hb0 := (hc3.cell (cell_lt HB0.out) (by simp)).trans HB0.out
        have HBY := Lib.hid hb0; clear hb0
        have hrl3 := hrg3.lt
        have HB3 := Lib.hid hb3; clear hb3
        have HRG3 := Lib.hid hrg3; clear hrg3
        have HC3 := Lib.hid hc3; clear hc3
        go_upto_region 6 with fail
        go_cut [12, 13] (fun p q wd => TS wc wd rb3 ((G4, q4), p4) p q)
        case first =>
          refine Ord.St.door (fun w' => Ch [] wc w') [.ho, .fl, .fl, .fl, .fl, .ho, .fl, .ef, .fl, .fl, .fl, .ef, .ef, .fl] [0, 0, 0, 0, 12, 28, 0, 127, 255, 511, 511, 0, 3071, 8191] [0, 1, 2, 3, 4, 5, 6, 7, 8, 9, 10, 11, 12, 13] mixed (by kernel_rfl) rfl ?_
          obtain ⟨Wc, hWc⟩ : ∃ Wc, Wc = wc.drew := ⟨_, rfl⟩
          rw [← hWc]
          have hcur : Ch [] wc Wc := by rw [hWc]; exact (Ch.refl _ _).drew
          clear hWc
          refine Ord.St.ho2 (T' := ?_) 0 [1, 2, 3, 4, 5, 6, 7, 8, 9, 10, 11, 12, 13] _ _ rfl (by kernel_rfl) rfl rfl rfl rfl ?_ (fun K w' hw' hk => ?_) ?_
          rotate_left
          · trivial
          · have y0 := (HB3.out.ch hw' (by simp)).cell (i := 0) rfl; have y1 := (HB3.out.ch hw' (by simp)).cell (i := 1) rfl; have y2 := (HB3.out.ch hw' (by simp)).cell (i := 2) rfl; have b0 := (hw'.cell (cell_lt HBY.out) (by simp)).trans HBY.out; go_step; exact hk
          refine Ord.St.fl2 (T' := ?_) 1 [2, 3, 4, 5, 6, 7, 8, 9, 10, 11, 12, 13] _ _ rfl (by kernel_rfl) rfl rfl rfl rfl (fun K w' hk => ?_) ?_
          rotate_left
          · go_step; exact hk
          refine Ord.St.fl2 (T' := ?_) 2 [3, 4, 5, 6, 7, 8, 9, 10, 11, 12, 13] _ _ rfl (by kernel_rfl) rfl rfl rfl rfl (fun K w' hk => ?_) ?_
          rotate_left
          · go_step; exact hk
          refine Ord.St.fl2 (T' := ?_) 3 [4, 5, 6, 7, 8, 9, 10, 11, 12, 13] _ _ rfl (by kernel_rfl) rfl rfl rfl rfl (fun K w' hk => ?_) ?_
          rotate_left
          · go_step; exact hk
          refine Ord.St.fl2 (T' := ?_) 4 [5, 6, 7, 8, 9, 10, 11, 12, 13] _ _ rfl (by kernel_rfl) rfl rfl rfl rfl (fun K w' hk => ?_) ?_
          rotate_left
          · go_step; exact hk
          refine Ord.St.ho2 (T' := ?_) 5 [6, 7, 8, 9, 10, 11, 12, 13] _ _ rfl (by kernel_rfl) rfl rfl rfl rfl ?_ (fun K w' hw' hk => ?_) ?_
          rotate_left
          · trivial
          · have y0 := (HB3.out.ch hw' (by simp)).cell (i := 0) rfl; have y1 := (HB3.out.ch hw' (by simp)).cell (i := 1) rfl; have y2 := (HB3.out.ch hw' (by simp)).cell (i := 2) rfl; have b0 := (hw'.cell (cell_lt HBY.out) (by simp)).trans HBY.out; go_step; exact hk
          refine Ord.St.fl2 (T' := ?_) 6 [7, 8, 9, 10, 11, 12, 13] _ _ rfl (by kernel_rfl) rfl rfl rfl rfl (fun K w' hk => ?_) ?_
          rotate_left
          · go_step; exact hk
          refine Ord.St.two 7 11 [8, 9, 10, 11, 12, 13] [7, 8, 9, 10, 12, 13] _ _ (by kernel_rfl) rfl rfl (by kernel_rfl) (by kernel_rfl) (fun K hK => ?_) (fun K hK => ?_)
          · have HA := Lib.hid (HM3.out _ hcur)
            go_wp2_with fail
            refine HA.out.mono ?_
            rintro e w7 ⟨rb2, cap2, rfl, hrg2, hch, hfr3⟩
            go_wp2_with fail
            refine ⟨rfl, hK _ _ ?_ ?_⟩
            · exact hcur.trans hch (by simp)
            clear hK K
            try have hne := rto_ne hb9 (by omega) hfr3
            try replace hb9 := hb9.ch hch (by simp)
            have hfr5 : rb2 = rb3 ∨ wc.heap.size ≤ rb2 := by have := hcur.size; rcases hfr3 with e | e <;> omega
            replace hcur := hcur.trans hch (by simp)
            clear hch hfr3 HA
            refine Ord.St.fl2 (T' := ?_) 8 [9, 10, 11, 12, 13] _ _ rfl (by kernel_rfl) rfl rfl rfl rfl (fun K w' hk => ?_) ?_
            rotate_left
            · go_step; exact hk
            refine Ord.St.fl2 (T' := ?_) 9 [10, 11, 12, 13] _ _ rfl (by kernel_rfl) rfl rfl rfl rfl (fun K w' hk => ?_) ?_
            rotate_left
            · go_step; exact hk
            refine Ord.St.fl2 (T' := ?_) 10 [11, 12, 13] _ _ rfl (by kernel_rfl) rfl rfl rfl rfl (fun K w' hk => ?_) ?_
            rotate_left
            · go_step; exact hk
            refine Ord.St.efC 11 [12, 13] _ rfl (by kernel_rfl) (fun K hK => ?_)
            go_wp2_with fail
            refine ⟨rfl, hK _ _ ?_ ?_⟩
            · exact hcur.alloc _
            clear hK K
            refine Ord.St.alw ?_; intro Wn hWn
            have hb9 := alw_blk (xs := [.int .i64 0, .slice none 0 0, .int .i64 0]) hWn
            have hs9 := hcur.size
            try have hne := rg_ne hrg2
            try replace hrg2 := hrg2.ch (alw_ch hWn) (by simp)
            replace hcur := hcur.trans (alw_ch hWn) (by simp)
            clear hWn
            first | (have _t := hrg2; clear _t; generalize w7.heap.size = b9 at *) | generalize Wc.heap.size = b9 at *
            refine Ord.St.ef 12 [13] _ rfl (by kernel_rfl) (fun K hK => ?_)
            have z0 := hb9.cell (i := 0) rfl
            have z1 := hb9.cell (i := 1) rfl
            have z2 := hb9.cell (i := 2) rfl
            have g0 := hb9.frozen (i := 0)
            have g1 := hb9.frozen (i := 1)
            have g2 := hb9.frozen (i := 2)
            have HRG2 := Lib.hid hrg2; clear hrg2
            have HB9 := Lib.hid hb9; clear hb9
            have HCUR := Lib.hid hcur; clear hcur
            go_wp2_with fail
            refine ⟨rfl, hK _ _ ?_⟩; clear hK K
            refine Ord.St.fl2 (T' := ?_) 13 [] _ _ rfl (by kernel_rfl) rfl rfl rfl rfl (fun K w' hk => ?_) ?_
            rotate_left
            · go_step; exact hk
            refine Ord.St.nil ?_
            go_wp2_with fail
            go_meet
            case rel => exact TS.mk HCUR.out HRG2.out hfr5 HB9.out hs9 hne rfl
          · go_wp2_with fail
            refine ⟨rfl, hK _ _ ?_ ?_⟩
            · exact hcur.alloc _
            clear hK K
            refine Ord.St.alw ?_; intro Wn hWn
            have hb9 := alw_blk (xs := [.int .i64 0, .slice none 0 0, .int .i64 0]) hWn
            have hs9 := hcur.size
            try have hne := rg_ne hrg2
            try replace hrg2 := hrg2.ch (alw_ch hWn) (by simp)
            replace hcur := hcur.trans (alw_ch hWn) (by simp)
            clear hWn
            first | (have _t := hrg2; clear _t; generalize w7.heap.size = b9 at *) | generalize Wc.heap.size = b9 at *
            refine Ord.St.ef 7 [8, 9, 10, 12, 13] _ rfl (by kernel_rfl) (fun K hK => ?_)
            have HA := Lib.hid (HM3.out _ hcur)
            go_wp2_with fail
            refine HA.out.mono ?_
            rintro e w7 ⟨rb2, cap2, rfl, hrg2, hch, hfr3⟩
            go_wp2_with fail
            refine ⟨rfl, hK _ _ ?_⟩; clear hK K
            try have hne := rto_ne hb9 (by omega) hfr3
            try replace hb9 := hb9.ch hch (by simp)
            have hfr5 : rb2 = rb3 ∨ wc.heap.size ≤ rb2 := by have := hcur.size; rcases hfr3 with e | e <;> omega
            replace hcur := hcur.trans hch (by simp)
            clear hch hfr3 HA
            refine Ord.St.fl2 (T' := ?_) 8 [9, 10, 12, 13] _ _ rfl (by kernel_rfl) rfl rfl rfl rfl (fun K w' hk => ?_) ?_
            rotate_left
            · go_step; exact hk
            refine Ord.St.fl2 (T' := ?_) 9 [10, 12, 13] _ _ rfl (by kernel_rfl) rfl rfl rfl rfl (fun K w' hk => ?_) ?_
            rotate_left
            · go_step; exact hk
            refine Ord.St.fl2 (T' := ?_) 10 [12, 13] _ _ rfl (by kernel_rfl) rfl rfl rfl rfl (fun K w' hk => ?_) ?_
            rotate_left
            · go_step; exact hk
            refine Ord.St.ef 12 [13] _ rfl (by kernel_rfl) (fun K hK => ?_)
            have z0 := hb9.cell (i := 0) rfl
            have z1 := hb9.cell (i := 1) rfl
            have z2 := hb9.cell (i := 2) rfl
            have g0 := hb9.frozen (i := 0)
            have g1 := hb9.frozen (i := 1)
            have g2 := hb9.frozen (i := 2)
            have HRG2 := Lib.hid hrg2; clear hrg2
            have HB9 := Lib.hid hb9; clear hb9
            have HCUR := Lib.hid hcur; clear hcur
            go_wp2_with fail
            refine ⟨rfl, hK _ _ ?_⟩; clear hK K
            refine Ord.St.fl2 (T' := ?_) 13 [] _ _ rfl (by kernel_rfl) rfl rfl rfl rfl (fun K w' hk => ?_) ?_
            rotate_left
            · go_step; exact hk
            refine Ord.St.nil ?_
            go_wp2_with fail
            go_meet
            case rel => exact TS.mk HCUR.out HRG2.out hfr5 HB9.out hs9 hne rfl
        case rest =>
          obtain ⟨rb4, cap4, b4, rfl, rfl, hc4, hrg4, hfr4, hb4, hlo4⟩ := hcut
          have hz3 := HC3.out.size
          have hc := HC3.out.trans hc4 (by simp)
          have hfr : rb4 = rbk ∨ wr.heap.size ≤ rb4 := by rcases hfr4 with e | e; (rcases hfr3 with e2 | e2; left; omega; right; omega); (right; omega)
          clear hc4 hfr4
          have x0 := hb4.cell (i := 0) rfl
          have x1 := hb4.cell (i := 1) rfl
          have x2 := hb4.cell (i := 2) rfl
          have hbp := (HST.out.same hc).b4
          have f0 := hbp.frozen (i := 0)
          have f1 := hbp.frozen (i := 1)
          have f2 := hbp.frozen (i := 2)
          have y0 := hbp.cell (i := 0) rfl
          have y1 := hbp.cell (i := 1) rfl
          have y2 := hbp.cell (i := 2) rfl
          clear hbp
          have HCX := Lib.hid hc; clear hc
          have HRX := Lib.hid hrg4; clear hrg4
          have HBX := Lib.hid hb4; clear hb4
          go_upto_region 4 with fail
          refine wp_alw ?_
          intro W9 hW9
          have hst := HST.out.put HCX.out HRX.out hfr hW9
          clear hW9 x0 x1 x2 y0 y1 y2 f0 f1 f2 HRX HBX
          have HS9 := Lib.hid hst; clear hst
          go_wp2_with fail
          go_roundw
          case rel => exact ⟨j + 1, rb4, cap4, by omega, by go_num, by rw [HEN.out], by rw [HEN.out]; exact HS9.out⟩
          case measure => simp [intOf]; omega
    · have hall : Z.take j = Z := List.take_of_length_le (by rw [HZL.out]; omega)
      rw [hall] at hst ho
      obtain ⟨⟨⟨G2, q2⟩, c⟩, hES⟩ : ∃ ES, ES = E Z := ⟨_, rfl⟩
      rw [← hES] at hst ho
      simp only at hst ho
      subst ho
      have HES := Lib.hid hES; clear hES
      have y0 := hst.b4.cell (i := 0) rfl
      have y1 := hst.b4.cell (i := 1) rfl
      have y2 := hst.b4.cell (i := 2) rfl
      have v0 := hst.b8.cell (i := 0) rfl
      have v1 := hst.b8.cell (i := 1) rfl
      have v2 := hst.b8.cell (i := 2) rfl
      have g0 := hst.b8.frozen (i := 0)
      have g1 := hst.b8.frozen (i := 1)
      have g2 := hst.b8.frozen (i := 2)
      have hl8 := hst.b8.lt
      have HST := Lib.hid hst; clear hst
      go_wp2_with fail
      refine bodyPost_ret (v := .tuple #[.agg #[.int .i64 G2.most, .slice (some ⟨rbk, 0, none⟩) G2.nodes.length capk, .int .i64 q2], .int .i64 c]) (by simp [results, Tryz.results129, go_sem, v0, v1, v2]) rfl ?_
      show STo w rb (E Z) _ _
      rw [← HES.out]
      exact HST.out.finS rfl
end
end Go.Proofs.YtchledddgmbndaaGreat
namespace Go.Proofs.YtchledddgmbndaaGreat
open Go.RowKit Go.Mem Go.Aig
section
variable {w : World}
set_option maxRecDepth 100000 in
set_option maxHeartbeats 8000000 in
theorem r23Sum_is {rb cap : Nat} {G : Gra} (h : RG w rb cap G) {xa ya : Option Addr} {X Y : List Nat} (n xc yc : Nat) (hX : Sl w xa (natInts X)) (hY : Sl w ya (natInts Y)) (hn : X.length = n) (hm : Y.length = n) (hn0 : n ≤ 1000) (hxr : ∀ r ∈ X, r < 2 * G.nodes.length) (hyr : ∀ r ∈ Y, r < 2 * G.nodes.length) {c0 : Nat} (hc0 : c0 < 2 * G.nodes.length) :
    Calls Tryz.prog 145 #[.agg #[.int .i64 G.most, .slice (some ⟨rb, 0, none⟩) G.nodes.length cap, .int .i64 0], .slice xa n xc, .slice ya n yc, .int .i64 c0] w (LTo w rb (sumW n (G, 0) (X.zip Y) c0)) := by
  have hok := h.ok
  obtain ⟨Z, hZ⟩ : ∃ Z, Z = X.zip Y := ⟨_, rfl⟩
  have hZl : Z.length = n := by rw [hZ, List.length_zip, hn, hm]; omega
  have hZlt : ∀ p ∈ Z, p.1 < 2 * G.nodes.length ∧ p.2 < 2 * G.nodes.length := by rw [hZ]; exact fun p hp => ⟨hxr _ (List.of_mem_zip hp).1, hyr _ (List.of_mem_zip hp).2⟩
  have hZG : ∀ (j a b : Nat), Z[j]? = some (a, b) → X[j]? = some a ∧ Y[j]? = some b := fun j a b h => by rw [hZ] at h; exact List.getElem?_zip_eq_some.1 h
  rw [← hZ]
  have hElok := fun z (hz : ∀ p ∈ z, p ∈ Z) => sumF_cok hok n hc0 z (fun p hp => hZlt p (hz p hp))
  have hEsn := fun z a b => sumF_snoc n (G, 0) z c0 (a, b)
  have hElen := fun z => sumF_len n (G, 0) c0 z
  have hE0 : sumF n (G, 0) [] c0 = ((G, 0), [], c0) := rfl
  unfold sumW
  obtain ⟨E, hE⟩ : ∃ E : List (Nat × Nat) → Mk × List Nat × Nat, E = fun z => sumF n (G, 0) z c0 := ⟨_, rfl⟩
  have hEz : ∀ z, sumF n (G, 0) z c0 = E z := fun z => by rw [hE]
  simp only [hEz] at hElok hEsn hElen hE0 ⊢
  clear hE hZ hxr hyr hEz
  have HX := Lib.hid hX; clear hX
  have HY := Lib.hid hY; clear hY
  have HN := Lib.hid hn; clear hn
  have HMM := Lib.hid hm; clear hm
  have H := Lib.hid h; clear h
  have HELOK := Lib.hid hElok; clear hElok
  have HESN := Lib.hid hEsn; clear hEsn
  have HZL := Lib.hid hZl; clear hZl
  have HZG := Lib.hid hZG; clear hZG
  have HZLT := Lib.hid hZlt; clear hZlt hok
  have HE0 := Lib.hid hE0; clear hE0
  have HELEN := Lib.hid hElen; clear hElen
  go_enter Tryz.func145, Tryz.ntmps145
  go_wp2_with fail
  refine wp_alw ?_
  intro W0 hW0
  have hst := RSt.start H.out hW0 rfl
  clear hW0
  have HST := Lib.hid hst; clear hst
  go_loopw [3, 10, 11] (fun o nx i wr => ∃ (j rbk capk : Nat), j ≤ n ∧ i = .int .i64 j ∧ o = .int .i64 (E (Z.take j)).2.2 ∧ RSt w wr rb rbk capk (E (Z.take j)).1 nx (E (Z.take j)).2.1) (fun _ _ i _ => n - (intOf i).toNat)
  case atStart => exact ⟨0, rb, cap, by omega, rfl, by rw [List.take_zero, HE0.out], by rw [List.take_zero, HE0.out]; exact HST.out⟩
  case round =>
    clear HST hc0
    obtain ⟨j, rbk, capk, hj, rfl, ho, hst⟩ := hrel
    by_cases hjn : j < n
    · obtain ⟨⟨a, b⟩, hab⟩ : ∃ p, Z[j]? = some p := ⟨_, List.getElem?_eq_getElem (by rw [HZL.out]; exact hjn)⟩
      obtain ⟨hla, hlb⟩ := HZG.out j a b hab
      obtain ⟨hav, hbv⟩ := HZLT.out _ (List.mem_of_getElem? hab)
      have hsn : Z.take (j + 1) = Z.take j ++ [(a, b)] := by rw [List.take_add_one, hab]; rfl
      have hEs := HESN.out (Z.take j) a b
      rw [← hsn] at hEs
      have hlk := HELOK.out (Z.take j) (fun p hp => List.mem_of_mem_take hp)
      have hlen := HELEN.out (Z.take j)
      rw [List.length_take, HZL.out, Nat.min_eq_left hj] at hlen
      generalize hEE : E (Z.take (j + 1)) = EN at hEs
      generalize E (Z.take j) = ES at hEs hlk hst ho hlen
      obtain ⟨⟨G2, q2⟩, l2, c⟩ := ES
      simp only at hst ho hlen
      subst ho
      obtain ⟨hsl, hcl⟩ := hlk
      simp only at hsl hcl
      obtain ⟨R1, h1⟩ : ∃ R1 : Mk × Nat, R1 = rstep (G2, q2) (rXor G2 a b) := ⟨_, rfl⟩
      obtain ⟨R2, h2⟩ : ∃ R2 : Mk × Nat, R2 = rstep R1.1 (rXor R1.1.1 R1.2 c) := ⟨_, rfl⟩
      obtain ⟨R3, h3⟩ : ∃ R3 : Mk × Nat, R3 = rstep R2.1 (and R2.1.1 a b) := ⟨_, rfl⟩
      obtain ⟨R4, h4⟩ : ∃ R4 : Mk × Nat, R4 = rstep R3.1 (and R3.1.1 R1.2 c) := ⟨_, rfl⟩
      obtain ⟨R5, h5⟩ : ∃ R5 : Mk × Nat, R5 = rstep R4.1 (rOr R4.1.1 R3.2 R4.2) := ⟨_, rfl⟩
      obtain ⟨⟨k1, k2⟩, ⟨k3, k4⟩, ⟨_, _, k5, k6⟩, ⟨k7, k8⟩, ⟨k9, k10⟩, _⟩ := sum_chain hsl hav hbv hcl h1 h2 h3 h4 h5
      have hM1 : ∀ (W : World), Ch [] wr W → Calls Tryz.prog 144 #[.agg #[.int .i64 G2.most, .slice (some ⟨rbk, 0, none⟩) G2.nodes.length capk, .int .i64 q2], .int .i64 a, .int .i64 b] W (STo W rbk R1) := fun W hW => by
        rw [h1]; exact r23Xor_is (hst.rg.ch hW (by simp)) k1 k2
      have hM2 : ∀ (W : World) (rb3 cap3 : Nat), RG W rb3 cap3 R1.1.1 → ∀ W', Ch [] W W' → Calls Tryz.prog 144 #[.agg #[.int .i64 R1.1.1.most, .slice (some ⟨rb3, 0, none⟩) R1.1.1.nodes.length cap3, .int .i64 R1.1.2], .int .i64 R1.2, .int .i64 c] W' (STo W' rb3 R2) := fun W rb3 cap3 hr W' hW => by
        rw [h2]; exact r23Xor_is (hr.ch hW (by simp)) k3 k4
      have hM3 : ∀ (W : World) (rb3 cap3 : Nat), RG W rb3 cap3 R2.1.1 → ∀ W', Ch [] W W' → Calls Tryz.prog 142 #[.agg #[.int .i64 R2.1.1.most, .slice (some ⟨rb3, 0, none⟩) R2.1.1.nodes.length cap3, .int .i64 R2.1.2], .int .i64 a, .int .i64 b] W' (STo W' rb3 R3) := fun W rb3 cap3 hr W' hW => by
        rw [h3]; exact r23And_is (hr.ch hW (by simp)) k5 k6
      have hM4 : ∀ (W : World) (rb3 cap3 : Nat), RG W rb3 cap3 R3.1.1 → ∀ W', Ch [] W W' → Calls Tryz.prog 142 #[.agg #[.int .i64 R3.1.1.most, .slice (some ⟨rb3, 0, none⟩) R3.1.1.nodes.length cap3, .int .i64 R3.1.2], .int .i64 R1.2, .int .i64 c] W' (STo W' rb3 R4) := fun W rb3 cap3 hr W' hW => by
        rw [h4]; exact r23And_is (hr.ch hW (by simp)) k7 k8
      have hM5 : ∀ (W : World) (rb3 cap3 : Nat), RG W rb3 cap3 R4.1.1 → ∀ W', Ch [] W W' → Calls Tryz.prog 143 #[.agg #[.int .i64 R4.1.1.most, .slice (some ⟨rb3, 0, none⟩) R4.1.1.nodes.length cap3, .int .i64 R4.1.2], .int .i64 R3.2, .int .i64 R4.2] W' (STo W' rb3 R5) := fun W rb3 cap3 hr W' hW => by
        rw [h5]; exact r23Or_is (hr.ch hW (by simp)) k9 k10
      have hEs2 : EN = if j + 1 < n then (R5.1, l2 ++ [R2.2], R5.2) else (R2.1, l2 ++ [R2.2], c) := by
        rw [hEs, h5, h4, h3, h2, h1, ← hlen]; rfl
      clear hEs h1 h2 h3 h4 h5 k1 k2 k3 k4 k5 k6 k7 k8 k9 k10 hsl hcl hsn hab hav hbv
      obtain ⟨⟨G3, q3⟩, p3⟩ := R1
      obtain ⟨⟨G4, q4⟩, p4⟩ := R2
      obtain ⟨⟨G5, q5⟩, p5⟩ := R3
      obtain ⟨⟨G6, q6⟩, p6⟩ := R4
      obtain ⟨⟨G7, q7⟩, p7⟩ := R5
      simp only at hM1 hM2 hM3 hM4 hM5 hEs2
      rw [← hEE] at hEs2
      clear hEE
      have HEN := Lib.hid hEs2; clear hEs2
      have HM1 := Lib.hid hM1; clear hM1
      have HM2 := Lib.hid hM2; clear hM2
      have HM3 := Lib.hid hM3; clear hM3
      have HM4 := Lib.hid hM4; clear hM4
      have HM5 := Lib.hid hM5; clear hM5
      have HLEN := Lib.hid hlen; clear hlen
      have HST := Lib.hid hst; clear hst
      obtain ⟨ab, ao, ae, ac⟩ := HX.out.cells j (a : Int) (by simp [natInts, hla])
      have a0 : wr.cell? ⟨ab, ao + j, none⟩ = some (.int .i64 a) := (HST.out.ch.cell (cell_lt ac) (by simp)).trans ac
      subst ae
      have HXA := Lib.hid ac; clear ac
      obtain ⟨bb, bo, be, bc⟩ := HY.out.cells j (b : Int) (by simp [natInts, hlb])
      have b0 : wr.cell? ⟨bb, bo + j, none⟩ = some (.int .i64 b) := (HST.out.ch.cell (cell_lt bc) (by simp)).trans bc
      subst be
      have HXB := Lib.hid bc; clear bc
      clear hla hlb
      have HA0 := Lib.hid a0; clear a0
      have HB0 := Lib.hid b0; clear b0
      have hrlk := HST.out.rg.lt
      go_upto_region 5 with fail
      go_cut [12, 13] (fun p q wd => TS wr wd rbk ((G3, q3), p3) p q)
      case first =>
        refine Ord.St.door (fun w' => Ch [] wr w') [.ho, .fl, .fl, .fl, .ho, .fl, .fl, .fl, .ho, .ef, .fl, .fl, .fl, .ef, .ef, .fl] [0, 0, 0, 6, 14, 0, 0, 96, 224, 511, 1023, 2047, 2047, 0, 12287, 32767] [0, 1, 2, 3, 4, 5, 6, 7, 8, 9, 10, 11, 12, 13, 14, 15] mixed (by kernel_rfl) rfl ?_
        obtain ⟨Wc, hWc⟩ : ∃ Wc, Wc = wr.drew := ⟨_, rfl⟩
        rw [← hWc]
        have hcur : Ch [] wr Wc := by rw [hWc]; exact (Ch.refl _ _).drew
        clear hWc
        refine Ord.St.ho2 (T' := ?_) 0 [1, 2, 3, 4, 5, 6, 7, 8, 9, 10, 11, 12, 13, 14, 15] _ _ rfl (by kernel_rfl) rfl rfl rfl rfl ?_ (fun K w' hw' hk => ?_) ?_
        rotate_left
        · trivial
        · have hb4 := (HST.out.same hw').b4; have y0 := hb4.cell (i := 0) rfl; have y1 := hb4.cell (i := 1) rfl; have y2 := hb4.cell (i := 2) rfl; have a0 := (hw'.cell (cell_lt HA0.out) (by simp)).trans HA0.out; have b0 := (hw'.cell (cell_lt HB0.out) (by simp)).trans HB0.out; go_step; exact hk
        refine Ord.St.fl2 (T' := ?_) 1 [2, 3, 4, 5, 6, 7, 8, 9, 10, 11, 12, 13, 14, 15] _ _ rfl (by kernel_rfl) rfl rfl rfl rfl (fun K w' hk => ?_) ?_
        rotate_left
        · go_step; exact hk
        refine Ord.St.fl2 (T' := ?_) 2 [3, 4, 5, 6, 7, 8, 9, 10, 11, 12, 13, 14, 15] _ _ rfl (by kernel_rfl) rfl rfl rfl rfl (fun K w' hk => ?_) ?_
        rotate_left
        · go_step; exact hk
        refine Ord.St.fl2 (T' := ?_) 3 [4, 5, 6, 7, 8, 9, 10, 11, 12, 13, 14, 15] _ _ rfl (by kernel_rfl) rfl rfl rfl rfl (fun K w' hk => ?_) ?_
        rotate_left
        · go_step; exact hk
        refine Ord.St.ho2 (T' := ?_) 4 [5, 6, 7, 8, 9, 10, 11, 12, 13, 14, 15] _ _ rfl (by kernel_rfl) rfl rfl rfl rfl ?_ (fun K w' hw' hk => ?_) ?_
        rotate_left
        · trivial
        · have hb4 := (HST.out.same hw').b4; have y0 := hb4.cell (i := 0) rfl; have y1 := hb4.cell (i := 1) rfl; have y2 := hb4.cell (i := 2) rfl; have a0 := (hw'.cell (cell_lt HA0.out) (by simp)).trans HA0.out; have b0 := (hw'.cell (cell_lt HB0.out) (by simp)).trans HB0.out; go_step; exact hk
        refine Ord.St.fl2 (T' := ?_) 5 [6, 7, 8, 9, 10, 11, 12, 13, 14, 15] _ _ rfl (by kernel_rfl) rfl rfl rfl rfl (fun K w' hk => ?_) ?_
        rotate_left
        · go_step; exact hk
        refine Ord.St.fl2 (T' := ?_) 6 [7, 8, 9, 10, 11, 12, 13, 14, 15] _ _ rfl (by kernel_rfl) rfl rfl rfl rfl (fun K w' hk => ?_) ?_
        rotate_left
        · go_step; exact hk
        refine Ord.St.fl2 (T' := ?_) 7 [8, 9, 10, 11, 12, 13, 14, 15] _ _ rfl (by kernel_rfl) rfl rfl rfl rfl (fun K w' hk => ?_) ?_
        rotate_left
        · go_step; exact hk
        refine Ord.St.ho2 (T' := ?_) 8 [9, 10, 11, 12, 13, 14, 15] _ _ rfl (by kernel_rfl) rfl rfl rfl rfl ?_ (fun K w' hw' hk => ?_) ?_
        rotate_left
        · trivial
        · have hb4 := (HST.out.same hw').b4; have y0 := hb4.cell (i := 0) rfl; have y1 := hb4.cell (i := 1) rfl; have y2 := hb4.cell (i := 2) rfl; have a0 := (hw'.cell (cell_lt HA0.out) (by simp)).trans HA0.out; have b0 := (hw'.cell (cell_lt HB0.out) (by simp)).trans HB0.out; go_step; exact hk
        refine Ord.St.two 9 13 [10, 11, 12, 13, 14, 15] [9, 10, 11, 12, 14, 15] _ _ (by kernel_rfl) rfl rfl (by kernel_rfl) (by kernel_rfl) (fun K hK => ?_) (fun K hK => ?_)
        · have HA := Lib.hid (HM1.out _ hcur)
          go_wp2_with fail
          refine HA.out.mono ?_
          rintro e w7 ⟨rb2, cap2, rfl, hrg2, hch, hfr3⟩
          go_wp2_with fail
          refine ⟨rfl, hK _ _ ?_ ?_⟩
          · exact hcur.trans hch (by simp)
          clear hK K
          try have hne := rto_ne hb9 (by omega) hfr3
          try replace hb9 := hb9.ch hch (by simp)
          have hfr5 : rb2 = rbk ∨ wr.heap.size ≤ rb2 := by have := hcur.size; rcases hfr3 with e | e <;> omega
          replace hcur := hcur.trans hch (by simp)
          clear hch hfr3 HA
          refine Ord.St.fl2 (T' := ?_) 10 [11, 12, 13, 14, 15] _ _ rfl (by kernel_rfl) rfl rfl rfl rfl (fun K w' hk => ?_) ?_
          rotate_left
          · go_step; exact hk
          refine Ord.St.fl2 (T' := ?_) 11 [12, 13, 14, 15] _ _ rfl (by kernel_rfl) rfl rfl rfl rfl (fun K w' hk => ?_) ?_
          rotate_left
          · go_step; exact hk
          refine Ord.St.fl2 (T' := ?_) 12 [13, 14, 15] _ _ rfl (by kernel_rfl) rfl rfl rfl rfl (fun K w' hk => ?_) ?_
          rotate_left
          · go_step; exact hk
          refine Ord.St.efC 13 [14, 15] _ rfl (by kernel_rfl) (fun K hK => ?_)
          go_wp2_with fail
          refine ⟨rfl, hK _ _ ?_ ?_⟩
          · exact hcur.alloc _
          clear hK K
          refine Ord.St.alw ?_; intro Wn hWn
          have hb9 := alw_blk (xs := [.int .i64 0, .slice none 0 0, .int .i64 0]) hWn
          have hs9 := hcur.size
          try have hne := rg_ne hrg2
          try replace hrg2 := hrg2.ch (alw_ch hWn) (by simp)
          replace hcur := hcur.trans (alw_ch hWn) (by simp)
          clear hWn
          first | (have _t := hrg2; clear _t; generalize w7.heap.size = b9 at *) | generalize Wc.heap.size = b9 at *
          refine Ord.St.ef 14 [15] _ rfl (by kernel_rfl) (fun K hK => ?_)
          have z0 := hb9.cell (i := 0) rfl
          have z1 := hb9.cell (i := 1) rfl
          have z2 := hb9.cell (i := 2) rfl
          have g0 := hb9.frozen (i := 0)
          have g1 := hb9.frozen (i := 1)
          have g2 := hb9.frozen (i := 2)
          have HRG2 := Lib.hid hrg2; clear hrg2
          have HB9 := Lib.hid hb9; clear hb9
          have HCUR := Lib.hid hcur; clear hcur
          go_wp2_with fail
          refine ⟨rfl, hK _ _ ?_⟩; clear hK K
          refine Ord.St.fl2 (T' := ?_) 15 [] _ _ rfl (by kernel_rfl) rfl rfl rfl rfl (fun K w' hk => ?_) ?_
          rotate_left
          · go_step; exact hk
          refine Ord.St.nil ?_
          go_wp2_with fail
          go_meet
          case rel => exact TS.mk HCUR.out HRG2.out hfr5 HB9.out hs9 hne rfl
        · go_wp2_with fail
          refine ⟨rfl, hK _ _ ?_ ?_⟩
          · exact hcur.alloc _
          clear hK K
          refine Ord.St.alw ?_; intro Wn hWn
          have hb9 := alw_blk (xs := [.int .i64 0, .slice none 0 0, .int .i64 0]) hWn
          have hs9 := hcur.size
          try have hne := rg_ne hrg2
          try replace hrg2 := hrg2.ch (alw_ch hWn) (by simp)
          replace hcur := hcur.trans (alw_ch hWn) (by simp)
          clear hWn
          first | (have _t := hrg2; clear _t; generalize w7.heap.size = b9 at *) | generalize Wc.heap.size = b9 at *
          refine Ord.St.ef 9 [10, 11, 12, 14, 15] _ rfl (by kernel_rfl) (fun K hK => ?_)
          have HA := Lib.hid (HM1.out _ hcur)
          go_wp2_with fail
          refine HA.out.mono ?_
          rintro e w7 ⟨rb2, cap2, rfl, hrg2, hch, hfr3⟩
          go_wp2_with fail
          refine ⟨rfl, hK _ _ ?_⟩; clear hK K
          try have hne := rto_ne hb9 (by omega) hfr3
          try replace hb9 := hb9.ch hch (by simp)
          have hfr5 : rb2 = rbk ∨ wr.heap.size ≤ rb2 := by have := hcur.size; rcases hfr3 with e | e <;> omega
          replace hcur := hcur.trans hch (by simp)
          clear hch hfr3 HA
          refine Ord.St.fl2 (T' := ?_) 10 [11, 12, 14, 15] _ _ rfl (by kernel_rfl) rfl rfl rfl rfl (fun K w' hk => ?_) ?_
          rotate_left
          · go_step; exact hk
          refine Ord.St.fl2 (T' := ?_) 11 [12, 14, 15] _ _ rfl (by kernel_rfl) rfl rfl rfl rfl (fun K w' hk => ?_) ?_
          rotate_left
          · go_step; exact hk
          refine Ord.St.fl2 (T' := ?_) 12 [14, 15] _ _ rfl (by kernel_rfl) rfl rfl rfl rfl (fun K w' hk => ?_) ?_
          rotate_left
          · go_step; exact hk
          refine Ord.St.ef 14 [15] _ rfl (by kernel_rfl) (fun K hK => ?_)
          have z0 := hb9.cell (i := 0) rfl
          have z1 := hb9.cell (i := 1) rfl
          have z2 := hb9.cell (i := 2) rfl
          have g0 := hb9.frozen (i := 0)
          have g1 := hb9.frozen (i := 1)
          have g2 := hb9.frozen (i := 2)
          have HRG2 := Lib.hid hrg2; clear hrg2
          have HB9 := Lib.hid hb9; clear hb9
          have HCUR := Lib.hid hcur; clear hcur
          go_wp2_with fail
          refine ⟨rfl, hK _ _ ?_⟩; clear hK K
          refine Ord.St.fl2 (T' := ?_) 15 [] _ _ rfl (by kernel_rfl) rfl rfl rfl rfl (fun K w' hk => ?_) ?_
          rotate_left
          · go_step; exact hk
          refine Ord.St.nil ?_
          go_wp2_with fail
          go_meet
          case rel => exact TS.mk HCUR.out HRG2.out hfr5 HB9.out hs9 hne rfl
      case rest =>
        obtain ⟨rb3, cap3, b3, rfl, rfl, hc3, hrg3, hfr3, hb3, hlo3⟩ := hcut
        have hM := fun (W : World) (hW : Ch [] wc W) => HM2.out wc rb3 cap3 hrg3 W hW
        have HMM2 := Lib.hid hM; clear hM HM2
        have HB3 := Lib.hid hb3; clear hb3
        have hrl3 := hrg3.lt
        clear hrg3
        have HC3 := Lib.hid hc3; clear hc3
        go_upto_region 6 with fail
        go_cut [14, 15] (fun p q wd => TS wc wd rb3 ((G4, q4), p4) p q)
        case first =>
          have y0 := HB3.out.cell (i := 0) rfl
          have y1 := HB3.out.cell (i := 1) rfl
          have y2 := HB3.out.cell (i := 2) rfl
          go_wp2_with fail
          refine (HMM2.out _ (Ch.refl _ _)).mono ?_
          rintro e w7 ⟨rb2, cap2, rfl, hrg2, hch, hfr3⟩
          have HRG2 := Lib.hid hrg2; clear hrg2
          have HCH := Lib.hid hch; clear hch
          go_wp2_with fail
          go_meet
          case rel => exact TS.new HCH.out HRG2.out hfr3 rfl
        case rest =>
          obtain ⟨rb4, cap4, b4, rfl, rfl, hc4, hrg4, hfr4, hb4, hlo4⟩ := hcut
          have hz3 := HC3.out.size
          have hc := HC3.out.trans hc4 (by simp)
          have hfr : rb4 = rbk ∨ wr.heap.size ≤ rb4 := by rcases hfr4 with e | e; (rcases hfr3 with e2 | e2; left; omega; right; omega); (right; omega)
          clear hc4 hfr4 HB3
          have x0 := hb4.cell (i := 0) rfl
          have x1 := hb4.cell (i := 1) rfl
          have x2 := hb4.cell (i := 2) rfl
          have hbp := (HST.out.same hc).b4
          have f0 := hbp.frozen (i := 0)
          have f1 := hbp.frozen (i := 1)
          have f2 := hbp.frozen (i := 2)
          have y0 := hbp.cell (i := 0) rfl
          have y1 := hbp.cell (i := 1) rfl
          have y2 := hbp.cell (i := 2) rfl
          clear hbp
          have HCX := Lib.hid hc; clear hc
          have HRX := Lib.hid hrg4; clear hrg4
          have HBX := Lib.hid hb4; clear hb4
          go_upto_region 8 with fail
          refine wp_alw ?_
          intro W9 hW9
          have hst := HST.out.put HCX.out HRX.out hfr hW9
          clear hW9 x0 x1 x2 y0 y1 y2 f0 f1 f2 HRX HBX
          obtain ⟨na, nc, rfl⟩ := row.shape hst.rw
          have hlen9 : l2.length = j := HLEN
          have hrA := (hst.same (W' := W9.alloc (.cells #[.int .i64 p4] 3)) ((Ch.refl _ _).alloc _)).rw
          have hbA : blk (W9.alloc (.cells #[.int .i64 p4] 3)) W9.heap.size [.int .i64 p4] := blk.new' _ _ rfl
          rw [hlen9] at hrA
          have HRA := Lib.hid hrA; clear hrA
          have HBA := Lib.hid hbA; clear hbA
          have HS9 := Lib.hid hst; clear hst
          go_upto_region 9 with (at_builtin; go_loud (refine wpList_append_row slInts rfl _ _ rfl (v := .slice na l2.length nc) (n := l2.length) (xs := intCells (natInts l2)) rfl (by rw [HLEN.out]; exact HRA.out) (ad := ⟨W9.heap.size, 0, none⟩) (m := 1) (c := 1) (news := [.int .i64 p4]) rfl rfl (news_blk HBA.out) (by simp [Value.oneCell']) (by omega) (by omega) ?_; intro v' wz hown4 hC4 hf4; have HO4 := Lib.hid hown4; clear hown4; have HC4 := Lib.hid hC4; clear hC4; have HF4 := Lib.hid hf4; clear hf4))
          have hst := HS9.out.app HO4.out HC4.out HF4.out
          have hw9 := HS9.out.ch
          clear HRA HBA HO4 HC4 HF4 HS9
          have HS := Lib.hid hst; clear hst
          by_cases hjl : j + 1 < n
          · have ha1 : wz.cell? ⟨ab, ao + j, none⟩ = some (.int .i64 a) := (HS.out.ch.cell (cell_lt HXA.out) (by simp)).trans HXA.out
            have hb1 : wz.cell? ⟨bb, bo + j, none⟩ = some (.int .i64 b) := (HS.out.ch.cell (cell_lt HXB.out) (by simp)).trans HXB.out
            have HA1 := Lib.hid ha1; clear ha1
            have HB1 := Lib.hid hb1; clear hb1
            have HEN2 := Lib.hid (HEN.out.trans (if_pos hjl))
            have hj1 : (j : Int) < (n : Int) - 1 := by omega
            have hrl4 := HS.out.rg.lt
            have hM := fun (W : World) (hW : Ch [] wz W) => HM3.out wz rb4 cap4 HS.out.rg W hW
            have HMM3 := Lib.hid hM; clear hM HM3
            go_upto_region 10 with fail
            go_cut [16, 17] (fun p q wd => TS wz wd rb4 ((G5, q5), p5) p q)
            case first =>
              refine Ord.St.door (fun w' => Ch [] wz w') [.ho, .fl, .fl, .fl, .ho, .fl, .fl, .fl, .ho, .ef, .fl, .fl, .fl, .ef, .ef, .fl] [0, 0, 0, 6, 14, 0, 0, 96, 224, 511, 1023, 2047, 2047, 0, 12287, 32767] [0, 1, 2, 3, 4, 5, 6, 7, 8, 9, 10, 11, 12, 13, 14, 15] mixed (by kernel_rfl) rfl ?_
              obtain ⟨Wc, hWc⟩ : ∃ Wc, Wc = wz.drew := ⟨_, rfl⟩
              rw [← hWc]
              have hcur : Ch [] wz Wc := by rw [hWc]; exact (Ch.refl _ _).drew
              clear hWc
              refine Ord.St.ho2 (T' := ?_) 0 [1, 2, 3, 4, 5, 6, 7, 8, 9, 10, 11, 12, 13, 14, 15] _ _ rfl (by kernel_rfl) rfl rfl rfl rfl ?_ (fun K w' hw' hk => ?_) ?_
              rotate_left
              · trivial
              · have hb4 := (HS.out.same hw').b4; have y0 := hb4.cell (i := 0) rfl; have y1 := hb4.cell (i := 1) rfl; have y2 := hb4.cell (i := 2) rfl; have a0 := (hw'.cell (cell_lt HA1.out) (by simp)).trans HA1.out; have b0 := (hw'.cell (cell_lt HB1.out) (by simp)).trans HB1.out; go_step; exact hk
              refine Ord.St.fl2 (T' := ?_) 1 [2, 3, 4, 5, 6, 7, 8, 9, 10, 11, 12, 13, 14, 15] _ _ rfl (by kernel_rfl) rfl rfl rfl rfl (fun K w' hk => ?_) ?_
              rotate_left
              · go_step; exact hk
              refine Ord.St.fl2 (T' := ?_) 2 [3, 4, 5, 6, 7, 8, 9, 10, 11, 12, 13, 14, 15] _ _ rfl (by kernel_rfl) rfl rfl rfl rfl (fun K w' hk => ?_) ?_
              rotate_left
              · go_step; exact hk
              refine Ord.St.fl2 (T' := ?_) 3 [4, 5, 6, 7, 8, 9, 10, 11, 12, 13, 14, 15] _ _ rfl (by kernel_rfl) rfl rfl rfl rfl (fun K w' hk => ?_) ?_
              rotate_left
              · go_step; exact hk
              refine Ord.St.ho2 (T' := ?_) 4 [5, 6, 7, 8, 9, 10, 11, 12, 13, 14, 15] _ _ rfl (by kernel_rfl) rfl rfl rfl rfl ?_ (fun K w' hw' hk => ?_) ?_
              rotate_left
              · trivial
              · have hb4 := (HS.out.same hw').b4; have y0 := hb4.cell (i := 0) rfl; have y1 := hb4.cell (i := 1) rfl; have y2 := hb4.cell (i := 2) rfl; have a0 := (hw'.cell (cell_lt HA1.out) (by simp)).trans HA1.out; have b0 := (hw'.cell (cell_lt HB1.out) (by simp)).trans HB1.out; go_step; exact hk
              refine Ord.St.fl2 (T' := ?_) 5 [6, 7, 8, 9, 10, 11, 12, 13, 14, 15] _ _ rfl (by kernel_rfl) rfl rfl rfl rfl (fun K w' hk => ?_) ?_
              rotate_left
              · go_step; exact hk
              refine Ord.St.fl2 (T' := ?_) 6 [7, 8, 9, 10, 11, 12, 13, 14, 15] _ _ rfl (by kernel_rfl) rfl rfl rfl rfl (fun K w' hk => ?_) ?_
              rotate_left
              · go_step; exact hk
              refine Ord.St.fl2 (T' := ?_) 7 [8, 9, 10, 11, 12, 13, 14, 15] _ _ rfl (by kernel_rfl) rfl rfl rfl rfl (fun K w' hk => ?_) ?_
              rotate_left
              · go_step; exact hk
              refine Ord.St.ho2 (T' := ?_) 8 [9, 10, 11, 12, 13, 14, 15] _ _ rfl (by kernel_rfl) rfl rfl rfl rfl ?_ (fun K w' hw' hk => ?_) ?_
              rotate_left
              · trivial
              · have hb4 := (HS.out.same hw').b4; have y0 := hb4.cell (i := 0) rfl; have y1 := hb4.cell (i := 1) rfl; have y2 := hb4.cell (i := 2) rfl; have a0 := (hw'.cell (cell_lt HA1.out) (by simp)).trans HA1.out; have b0 := (hw'.cell (cell_lt HB1.out) (by simp)).trans HB1.out; go_step; exact hk
              refine Ord.St.two 9 13 [10, 11, 12, 13, 14, 15] [9, 10, 11, 12, 14, 15] _ _ (by kernel_rfl) rfl rfl (by kernel_rfl) (by kernel_rfl) (fun K hK => ?_) (fun K hK => ?_)
              · have HA := Lib.hid (HMM3.out _ hcur)
                go_wp2_with fail
                refine HA.out.mono ?_
                rintro e w7 ⟨rb2, cap2, rfl, hrg2, hch, hfr3⟩
                go_wp2_with fail
                refine ⟨rfl, hK _ _ ?_ ?_⟩
                · exact hcur.trans hch (by simp)
                clear hK K
                try have hne := rto_ne hb9 (by omega) hfr3
                try replace hb9 := hb9.ch hch (by simp)
                have hfr5 : rb2 = rb4 ∨ wz.heap.size ≤ rb2 := by have := hcur.size; rcases hfr3 with e | e <;> omega
                replace hcur := hcur.trans hch (by simp)
                clear hch hfr3 HA
                refine Ord.St.fl2 (T' := ?_) 10 [11, 12, 13, 14, 15] _ _ rfl (by kernel_rfl) rfl rfl rfl rfl (fun K w' hk => ?_) ?_
                rotate_left
                · go_step; exact hk
                refine Ord.St.fl2 (T' := ?_) 11 [12, 13, 14, 15] _ _ rfl (by kernel_rfl) rfl rfl rfl rfl (fun K w' hk => ?_) ?_
                rotate_left
                · go_step; exact hk
                refine Ord.St.fl2 (T' := ?_) 12 [13, 14, 15] _ _ rfl (by kernel_rfl) rfl rfl rfl rfl (fun K w' hk => ?_) ?_
                rotate_left
                · go_step; exact hk
                refine Ord.St.efC 13 [14, 15] _ rfl (by kernel_rfl) (fun K hK => ?_)
                go_wp2_with fail
                refine ⟨rfl, hK _ _ ?_ ?_⟩
                · exact hcur.alloc _
                clear hK K
                refine Ord.St.alw ?_; intro Wn hWn
                have hb9 := alw_blk (xs := [.int .i64 0, .slice none 0 0, .int .i64 0]) hWn
                have hs9 := hcur.size
                try have hne := rg_ne hrg2
                try replace hrg2 := hrg2.ch (alw_ch hWn) (by simp)
                replace hcur := hcur.trans (alw_ch hWn) (by simp)
                clear hWn
                first | (have _t := hrg2; clear _t; generalize w7.heap.size = b9 at *) | generalize Wc.heap.size = b9 at *
                refine Ord.St.ef 14 [15] _ rfl (by kernel_rfl) (fun K hK => ?_)
                have z0 := hb9.cell (i := 0) rfl
                have z1 := hb9.cell (i := 1) rfl
                have z2 := hb9.cell (i := 2) rfl
                have g0 := hb9.frozen (i := 0)
                have g1 := hb9.frozen (i := 1)
                have g2 := hb9.frozen (i := 2)
                have HRG2 := Lib.hid hrg2; clear hrg2
                have HB9 := Lib.hid hb9; clear hb9
                have HCUR := Lib.hid hcur; clear hcur
                go_wp2_with fail
                refine ⟨rfl, hK _ _ ?_⟩; clear hK K
                refine Ord.St.fl2 (T' := ?_) 15 [] _ _ rfl (by kernel_rfl) rfl rfl rfl rfl (fun K w' hk => ?_) ?_
                rotate_left
                · go_step; exact hk
                refine Ord.St.nil ?_
                go_wp2_with fail
                go_meet
                case rel => exact TS.mk HCUR.out HRG2.out hfr5 HB9.out hs9 hne rfl
              · go_wp2_with fail
                refine ⟨rfl, hK _ _ ?_ ?_⟩
                · exact hcur.alloc _
                clear hK K
                refine Ord.St.alw ?_; intro Wn hWn
                have hb9 := alw_blk (xs := [.int .i64 0, .slice none 0 0, .int .i64 0]) hWn
                have hs9 := hcur.size
                try have hne := rg_ne hrg2
                try replace hrg2 := hrg2.ch (alw_ch hWn) (by simp)
                replace hcur := hcur.trans (alw_ch hWn) (by simp)
                clear hWn
                first | (have _t := hrg2; clear _t; generalize w7.heap.size = b9 at *) | generalize Wc.heap.size = b9 at *
                refine Ord.St.ef 9 [10, 11, 12, 14, 15] _ rfl (by kernel_rfl) (fun K hK => ?_)
                have HA := Lib.hid (HMM3.out _ hcur)
                go_wp2_with fail
                refine HA.out.mono ?_
                rintro e w7 ⟨rb2, cap2, rfl, hrg2, hch, hfr3⟩
                go_wp2_with fail
                refine ⟨rfl, hK _ _ ?_⟩; clear hK K
                try have hne := rto_ne hb9 (by omega) hfr3
                try replace hb9 := hb9.ch hch (by simp)
                have hfr5 : rb2 = rb4 ∨ wz.heap.size ≤ rb2 := by have := hcur.size; rcases hfr3 with e | e <;> omega
                replace hcur := hcur.trans hch (by simp)
                clear hch hfr3 HA
                refine Ord.St.fl2 (T' := ?_) 10 [11, 12, 14, 15] _ _ rfl (by kernel_rfl) rfl rfl rfl rfl (fun K w' hk => ?_) ?_
                rotate_left
                · go_step; exact hk
                refine Ord.St.fl2 (T' := ?_) 11 [12, 14, 15] _ _ rfl (by kernel_rfl) rfl rfl rfl rfl (fun K w' hk => ?_) ?_
                rotate_left
                · go_step; exact hk
                refine Ord.St.fl2 (T' := ?_) 12 [14, 15] _ _ rfl (by kernel_rfl) rfl rfl rfl rfl (fun K w' hk => ?_) ?_
                rotate_left
                · go_step; exact hk
                refine Ord.St.ef 14 [15] _ rfl (by kernel_rfl) (fun K hK => ?_)
                have z0 := hb9.cell (i := 0) rfl
                have z1 := hb9.cell (i := 1) rfl
                have z2 := hb9.cell (i := 2) rfl
                have g0 := hb9.frozen (i := 0)
                have g1 := hb9.frozen (i := 1)
                have g2 := hb9.frozen (i := 2)
                have HRG2 := Lib.hid hrg2; clear hrg2
                have HB9 := Lib.hid hb9; clear hb9
                have HCUR := Lib.hid hcur; clear hcur
                go_wp2_with fail
                refine ⟨rfl, hK _ _ ?_⟩; clear hK K
                refine Ord.St.fl2 (T' := ?_) 15 [] _ _ rfl (by kernel_rfl) rfl rfl rfl rfl (fun K w' hk => ?_) ?_
                rotate_left
                · go_step; exact hk
                refine Ord.St.nil ?_
                go_wp2_with fail
                go_meet
                case rel => exact TS.mk HCUR.out HRG2.out hfr5 HB9.out hs9 hne rfl
            case rest =>
              obtain ⟨rb5, cap5, b5, rfl, rfl, hc5, hrg5, hfr5, hb5, hlo5⟩ := hcut
              have hM := fun (W : World) (hW : Ch [] wc W) => HM4.out wc rb5 cap5 hrg5 W hW
              have HMM4 := Lib.hid hM; clear hM HM4
              have HB5 := Lib.hid hb5; clear hb5
              have hrl5 := hrg5.lt
              clear hrg5
              have HC5 := Lib.hid hc5; clear hc5
              go_upto_region 11 with fail
              go_cut [18, 19] (fun p q wd => TS wc wd rb5 ((G6, q6), p6) p q)
              case first =>
                have y0 := HB5.out.cell (i := 0) rfl
                have y1 := HB5.out.cell (i := 1) rfl
                have y2 := HB5.out.cell (i := 2) rfl
                go_wp2_with fail
                refine (HMM4.out _ (Ch.refl _ _)).mono ?_
                rintro e w7 ⟨rb2, cap2, rfl, hrg2, hch, hfr3⟩
                have HRG2 := Lib.hid hrg2; clear hrg2
                have HCH := Lib.hid hch; clear hch
                go_wp2_with fail
                go_meet
                case rel => exact TS.new HCH.out HRG2.out hfr3 rfl
              case rest =>
                obtain ⟨rb6, cap6, b6, rfl, rfl, hc6, hrg6, hfr6, hb6, hlo6⟩ := hcut
                have hM := fun (W : World) (hW : Ch [] wc W) => HM5.out wc rb6 cap6 hrg6 W hW
                have HMM5 := Lib.hid hM; clear hM HM5
                have HB6 := Lib.hid hb6; clear hb6
                have hrl6 := hrg6.lt
                clear hrg6
                have hz5 := HC5.out.size
                have hfr65 : rb6 = rb4 ∨ wz.heap.size ≤ rb6 := by rcases hfr6 with e | e; (rcases hfr5 with e2 | e2; left; omega; right; omega); (right; omega)
                have HC6 := Lib.hid (HC5.out.trans hc6 (by simp)); clear hc6 HC5 HB5
                go_upto_region 12 with fail
                go_cut [20, 21] (fun p q wd => TS wc wd rb6 ((G7, q7), p7) p q)
                case first =>
                  have y0 := HB6.out.cell (i := 0) rfl
                  have y1 := HB6.out.cell (i := 1) rfl
                  have y2 := HB6.out.cell (i := 2) rfl
                  go_wp2_with fail
                  refine (HMM5.out _ (Ch.refl _ _)).mono ?_
                  rintro e w7 ⟨rb2, cap2, rfl, hrg2, hch, hfr3⟩
                  have HRG2 := Lib.hid hrg2; clear hrg2
                  have HCH := Lib.hid hch; clear hch
                  go_wp2_with fail
                  go_meet
                  case rel => exact TS.new HCH.out HRG2.out hfr3 rfl
                case rest =>
                  obtain ⟨rb7, cap7, b7, rfl, rfl, hc7, hrg7, hfr7, hb7, hlo7⟩ := hcut
                  have hz6 := HC6.out.size
                  have hc := HC6.out.trans hc7 (by simp)
                  have hfr : rb7 = rb4 ∨ wz.heap.size ≤ rb7 := by rcases hfr7 with e | e; (rcases hfr65 with e2 | e2; left; omega; right; omega); (right; omega)
                  clear hc7 hfr7 HB6 HC6
                  have x0 := hb7.cell (i := 0) rfl
                  have x1 := hb7.cell (i := 1) rfl
                  have x2 := hb7.cell (i := 2) rfl
                  have hbp := (HS.out.same hc).b4
                  have f0 := hbp.frozen (i := 0)
                  have f1 := hbp.frozen (i := 1)
                  have f2 := hbp.frozen (i := 2)
                  have y0 := hbp.cell (i := 0) rfl
                  have y1 := hbp.cell (i := 1) rfl
                  have y2 := hbp.cell (i := 2) rfl
                  clear hbp
                  have HCX := Lib.hid hc; clear hc
                  have HRX := Lib.hid hrg7; clear hrg7
                  have HBX := Lib.hid hb7; clear hb7
                  go_upto_region 4 with fail
                  refine wp_alw ?_
                  intro W12 hW9
                  have hst := HS.out.put HCX.out HRX.out hfr hW9
                  clear hW9 x0 x1 x2 y0 y1 y2 f0 f1 f2 HRX HBX
                  have HS12 := Lib.hid hst; clear hst
                  go_wp2_with fail
                  go_roundw
                  case rel => exact ⟨j + 1, rb7, cap7, by omega, by go_num, by rw [HEN2.out], by rw [HEN2.out]; exact HS12.out⟩
                  case measure => simp [intOf]; omega
          · have HEN2 := Lib.hid (HEN.out.trans (if_neg hjl))
            have hj1 : ¬ (j : Int) < (n : Int) - 1 := by omega
            go_wp2_with fail
            go_roundw
            case rel => exact ⟨j + 1, rb4, cap4, by omega, by go_num, by rw [HEN2.out], by rw [HEN2.out]; exact HS.out⟩
            case measure => simp [intOf]; omega
    · have hall : Z.take j = Z := List.take_of_length_le (by rw [HZL.out]; omega)
      rw [hall] at hst ho
      obtain ⟨⟨⟨G2, q2⟩, l2, c⟩, hES⟩ : ∃ ES, ES = E Z := ⟨_, rfl⟩
      rw [← hES] at hst ho
      simp only at hst ho
      subst ho
      have HES := Lib.hid hES; clear hES
      obtain ⟨na, nc, rfl⟩ := row.shape hst.rw
      have y0 := hst.b4.cell (i := 0) rfl
      have y1 := hst.b4.cell (i := 1) rfl
      have y2 := hst.b4.cell (i := 2) rfl
      have v0 := hst.b8.cell (i := 0) rfl
      have v1 := hst.b8.cell (i := 1) rfl
      have v2 := hst.b8.cell (i := 2) rfl
      have g0 := hst.b8.frozen (i := 0)
      have g1 := hst.b8.frozen (i := 1)
      have g2 := hst.b8.frozen (i := 2)
      have hl8 := hst.b8.lt
      have HST := Lib.hid hst; clear hst
      go_wp2_with fail
      refine bodyPost_ret (v := .tuple #[.agg #[.int .i64 G2.most, .slice (some ⟨rbk, 0, none⟩) G2.nodes.length capk, .int .i64 q2], .slice na l2.length nc]) (by simp [results, Tryz.results145, go_sem, v0, v1, v2]) rfl ?_
      show LTo w rb ((E Z).1, (E Z).2.1) _ _
      rw [← HES.out]
      exact HST.out.fin rfl
end
end Go.Proofs.YtchledddgmbndaaGreat
namespace Go.Aig
theorem inF_len' (s : Mk) : ∀ n, (inF s n).2.length = n
  | 0 => rfl
  | n + 1 => by
    show ((inF s n).2 ++ [_]).length = n + 1
    rw [List.length_append, inF_len' s n]; rfl
end Go.Aig
namespace Go.Proofs.YtchledddgmbndaaGreat
open Go.RowKit Go.Mem Go.Aig
section
variable {w : World}
set_option maxRecDepth 100000 in
set_option maxHeartbeats 2000000 in
theorem r23Not_is {a : Option Addr} {l : List Nat} (n cap : Nat) (hn : l.length = n) (hm : n ≤ 1000000) (h : Sl w a (natInts l)) (hs : ∀ r ∈ l, r ≤ 1000000) : Calls Tryz.prog 122 #[.slice a n cap] w fun e w' => ∃ v, e = .returned v ∧ row w' 3 1 v n (intCells (natInts (l.map neg))) ∧ (∀ q ∈ v.ownBlock.toList, w.heap.size ≤ q) ∧ Ch [] w w' := by
  subst hn
  have H := Lib.hid h; clear h
  go_enter Tryz.func122, Tryz.ntmps122
  go_wp2_with fail
  go_loopw [3, 4] (fun o i wr => ∃ k : Nat, k ≤ l.length ∧ i = .int .i64 k ∧ Ch [] w wr ∧ row wr 3 1 o k (intCells (natInts ((l.take k).map neg))) ∧ ∀ q ∈ o.ownBlock.toList, w.heap.size ≤ q) (fun _ i _ => l.length - (intOf i).toNat)
  case atStart => exact ⟨0, by omega, rfl, Ch.refl _ _, ⟨rfl, .inl ⟨rfl, rfl⟩⟩, by simp⟩
  case round =>
    obtain ⟨k, hk, rfl, hc, hrow, hlo⟩ := hrel
    obtain ⟨oa, oc, rfl⟩ := row.shape hrow
    by_cases hlt : k < l.length
    · obtain ⟨x, hx⟩ : ∃ x, l[k]? = some x := ⟨_, List.getElem?_eq_getElem hlt⟩
      have hsu : intCells (natInts ((l.take (k + 1)).map neg)) = intCells (natInts ((l.take k).map neg)) ++ [.int .i64 (neg x)] := by rw [List.take_add_one, hx]; simp [intCells, natInts]
      obtain ⟨xb, xo, rfl, hcl⟩ := H.out.cells k x (by simp [natInts, hx])
      have c0 := (hc.cell (cell_lt hcl) (by simp)).trans hcl
      have HN := rNot_is wr x (by have := hs x (List.mem_of_getElem? hx); omega)
      have HSU := Lib.hid hsu; clear hsu hx hcl
      have hcA : Ch [] wr (wr.alloc (.cells #[.int .i64 (neg x)] 3)) := (Ch.refl _ _).alloc _
      have hrA := hrow.ch hcA (by simp)
      have hbA : blk (wr.alloc (.cells #[.int .i64 (neg x)] 3)) wr.heap.size [.int .i64 (neg x)] := blk.new' _ _ rfl
      have HRA := Lib.hid hrA; clear hrA hrow
      have HBA := Lib.hid hbA; clear hbA
      have HCA := Lib.hid hcA; clear hcA
      have HC := Lib.hid hc; clear hc
      have HLO := Lib.hid hlo; clear hlo
      go_wp2_with fail
      refine HN.mono ?_
      rintro e w2 ⟨rfl, rfl⟩
      go_wp2_with (at_builtin; go_loud (refine wpList_append_row slInts rfl _ _ rfl (v := .slice oa k oc) (n := k) (xs := intCells (natInts ((l.take k).map neg))) rfl HRA.out (ad := ⟨wr.heap.size, 0, none⟩) (m := 1) (c := 1) (news := [.int .i64 (neg x)]) rfl rfl (news_blk HBA.out) (by simp [Value.oneCell']) (by omega) (by omega) ?_; intro v' w4 hown4 hC4 hf4; have HO4 := Lib.hid hown4; clear hown4; have HC4 := Lib.hid hC4; clear hC4; have HF4 := Lib.hid hf4; clear hf4))
      go_roundw
      case rel =>
        obtain ⟨q1, q2⟩ := app_step HC.out HCA.out HLO.out HC4.out HF4.out
        refine ⟨k + 1, by omega, by go_num, q1, ?_, q2⟩
        rw [HSU.out]; exact HO4.out
      case measure => simp [intOf]; omega
    · have hkn : k = l.length := by omega
      rw [hkn, List.take_of_length_le (Nat.le_refl _)] at hrow
      rw [hkn] at hlo
      rw [hkn]
      have HROW := Lib.hid hrow; clear hrow
      have HLO := Lib.hid hlo; clear hlo
      have HC := Lib.hid hc; clear hc hkn
      go_wp2_with fail
      go_ret
      exact ⟨.slice oa l.length oc, rfl, HROW.out, HLO.out, HC.out⟩
set_option maxRecDepth 100000 in
set_option maxHeartbeats 8000000 in
theorem r23Input_is {rb cap : Nat} {G : Gra} (h : RG w rb cap G) (n : Nat) (hn : n ≤ 1000) :
    Calls Tryz.prog 132 #[.agg #[.int .i64 G.most, .slice (some ⟨rb, 0, none⟩) G.nodes.length cap, .int .i64 0], .int .i64 n] w (LTo w rb (inF (G, 0) n)) := by
  have hok := h.ok
  have hElok := fun k => inF_lok hok k
  have hElen := fun k => inF_len' (G, 0) k
  have hEsn := fun k => inF_succ (G, 0) k
  have hE0 : inF (G, 0) 0 = ((G, 0), []) := rfl
  obtain ⟨E, hE⟩ : ∃ E : Nat → Mk × List Nat, E = inF (G, 0) := ⟨_, rfl⟩
  rw [← hE] at hElok hElen hEsn hE0 ⊢
  clear hE hok
  have H := Lib.hid h; clear h
  have HELOK := Lib.hid hElok; clear hElok
  have HESN := Lib.hid hEsn; clear hEsn
  have HE0 := Lib.hid hE0; clear hE0
  have HELEN := Lib.hid hElen; clear hElen
  go_enter Tryz.func132, Tryz.ntmps132
  go_wp2_with fail
  refine wp_alw ?_
  intro W0 hW0
  have hst := RSt.start H.out hW0 rfl
  clear hW0
  have HST := Lib.hid hst; clear hst
  go_loopw [6, 7] (fun nx i wr => ∃ (j rbk capk : Nat), j ≤ n ∧ i = .int .i64 j ∧ RSt w wr rb rbk capk (E j).1 nx (E j).2) (fun _ i _ => n - (intOf i).toNat)
  case atStart => exact ⟨0, rb, cap, by omega, rfl, by rw [HE0.out]; exact HST.out⟩
  case round =>
    clear HST
    obtain ⟨j, rbk, capk, hj, rfl, hst⟩ := hrel
    by_cases hjn : j < n
    · have hEs := HESN.out j
      have hlk := HELOK.out j
      have hlen := HELEN.out j
      generalize hEE : E (j + 1) = EN at hEs
      generalize E j = ES at hEs hlk hst hlen
      obtain ⟨⟨G2, q2⟩, l2⟩ := ES
      simp only at hst hlen
      have hok2 : Ok G2 := hlk.s.ok
      have hP := rPut_is (G := G2) hst.rg ⟨2, 0, 0, 0⟩ (fun hm => ⟨hok2.wf.input, by simp; omega, hok2.most⟩)
      unfold inS sPut at hEs
      simp only at hEs hP
      generalize put G2 ⟨2, 0, 0, 0⟩ = X at hEs hP
      obtain ⟨G3, p3, e3⟩ := X
      obtain ⟨⟨⟨G4, q4⟩, p4⟩, hR⟩ : ∃ R : Mk × Nat, R = rstep (G2, q2) (G3, p3, e3) := ⟨_, rfl⟩
      have hM := fun (W : World) (rb3 cap3 : Nat) (hr : RG W rb3 cap3 G3) (hr2 : RG W rbk capk G2) => r23step_is (q := q2) hr2 hr p3 e3
      simp only [← hR] at hEs hM
      subst hEs
      clear hR hlk hok2
      have HEN := Lib.hid hEE; clear hEE
      have HP := Lib.hid hP; clear hP
      have HM := Lib.hid hM; clear hM
      have HLEN := Lib.hid hlen; clear hlen
      have hrl := hst.rg.lt
      have y0 := hst.b4.cell (i := 0) rfl
      have y1 := hst.b4.cell (i := 1) rfl
      have y2 := hst.b4.cell (i := 2) rfl
      have HST := Lib.hid hst; clear hst
      go_wp2_with fail
      refine HP.out.mono ?_
      rintro e w7 ⟨rb2, cap2, rfl, hrg2, hch, hfr3⟩
      have hfr3 : rb2 = rbk ∨ wr.heap.size ≤ rb2 := hfr3
      have HRG2 := Lib.hid hrg2; clear hrg2
      have HCH := Lib.hid hch; clear hch y0 y1 y2
      go_upto_region 6 with fail
      refine wp_alw ?_
      intro W8 hW8
      have hb8 : blk W8 w7.heap.size [.int .i64 G3.most, .slice (some ⟨rb2, 0, none⟩) G3.nodes.length cap2] := by rw [hW8]; exact blk.new' _ _ rfl
      have hcA : Ch [] w7 W8 := by rw [hW8]; exact (Ch.refl _ _).alloc _
      have hc8 : Ch [] wr W8 := HCH.out.trans hcA (by simp)
      have hrg8 := HRG2.out.ch hcA (by simp)
      clear hW8 HRG2
      have hst8 := HST.out.same hc8
      have hMM := HM.out W8 rb2 cap2 hrg8 hst8.rg
      have y0 := hst8.b4.cell (i := 0) rfl
      have y1 := hst8.b4.cell (i := 1) rfl
      have y2 := hst8.b4.cell (i := 2) rfl
      have x0 := hb8.cell (i := 0) rfl
      have x1 := hb8.cell (i := 1) rfl
      have HMM := Lib.hid hMM; clear hMM HM
      have HS8 := Lib.hid hst8; clear hst8
      have HC8 := Lib.hid hc8; clear hc8 hcA HCH hrg8 hb8
      go_wp2_with fail
      refine HMM.out.mono ?_
      rintro e w9 ⟨rb4, cap4, rfl, hrg4, hch4, hfr4⟩
      have hfr : rb4 = rbk ∨ wr.heap.size ≤ rb4 := by have := HC8.out.size; rcases hfr4 with e | e; (left; exact e); (rcases hfr3 with e3 | e3; left; omega; right; omega)
      have hc9 := HC8.out.trans hch4 (by simp)
      have HRG4 := Lib.hid hrg4; clear hrg4 hfr4 hch4
      have HC9 := Lib.hid hc9; clear hc9 y0 y1 y2 x0 x1
      go_upto_region 7 with fail
      refine wp_alw ?_
      intro W10 hW10
      have hb10 : blk W10 w9.heap.size [.int .i64 G4.most, .slice (some ⟨rb4, 0, none⟩) G4.nodes.length cap4, .int .i64 q4] := by rw [hW10]; exact blk.new' _ _ rfl
      have hcA : Ch [] w9 W10 := by rw [hW10]; exact (Ch.refl _ _).alloc _
      have hc10 : Ch [] wr W10 := HC9.out.trans hcA (by simp)
      have hrg10 := HRG4.out.ch hcA (by simp)
      clear hW10 HRG4 hcA
      have x0 := hb10.cell (i := 0) rfl
      have x1 := hb10.cell (i := 1) rfl
      have x2 := hb10.cell (i := 2) rfl
      have hbp := (HST.out.same hc10).b4
      have f0 := hbp.frozen (i := 0)
      have f1 := hbp.frozen (i := 1)
      have f2 := hbp.frozen (i := 2)
      have y0 := hbp.cell (i := 0) rfl
      have y1 := hbp.cell (i := 1) rfl
      have y2 := hbp.cell (i := 2) rfl
      clear hbp
      have HCX := Lib.hid hc10; clear hc10
      have HRX := Lib.hid hrg10; clear hrg10
      have HBX := Lib.hid hb10; clear hb10
      go_upto_region 8 with fail
      refine wp_alw ?_
      intro W9 hW9
      have hst := HST.out.put HCX.out HRX.out hfr hW9
      clear hW9 x0 x1 x2 y0 y1 y2 f0 f1 f2 HRX HBX
      obtain ⟨na, nc, rfl⟩ := row.shape hst.rw
      have hlen9 : l2.length ≤ 1000 := by rw [HLEN.out]; omega
      have hrA := (hst.same (W' := W9.alloc (.cells #[.int .i64 p4] 3)) ((Ch.refl _ _).alloc _)).rw
      have hbA : blk (W9.alloc (.cells #[.int .i64 p4] 3)) W9.heap.size [.int .i64 p4] := blk.new' _ _ rfl
      have HRA := Lib.hid hrA; clear hrA
      have HBA := Lib.hid hbA; clear hbA
      have HS9 := Lib.hid hst; clear hst
      go_wp2_with (at_builtin; go_loud (refine wpList_append_row slInts rfl _ _ rfl (v := .slice na l2.length nc) (n := l2.length) (xs := intCells (natInts l2)) rfl HRA.out (ad := ⟨W9.heap.size, 0, none⟩) (m := 1) (c := 1) (news := [.int .i64 p4]) rfl rfl (news_blk HBA.out) (by simp [Value.oneCell']) (by omega) (by omega) ?_; intro v' wz hown4 hC4 hf4; have HO4 := Lib.hid hown4; clear hown4; have HC4 := Lib.hid hC4; clear hC4; have HF4 := Lib.hid hf4; clear hf4))
      go_roundw
      case rel => exact ⟨j + 1, rb4, cap4, by omega, by go_num, by rw [HEN.out]; exact HS9.out.app HO4.out HC4.out HF4.out⟩
      case measure => simp [intOf]; omega
    · have hall : j = n := by omega
      rw [hall] at hst
      obtain ⟨⟨⟨G2, q2⟩, l2⟩, hES⟩ : ∃ ES, ES = E n := ⟨_, rfl⟩
      rw [← hES] at hst
      simp only at hst
      have HES := Lib.hid hES; clear hES
      obtain ⟨na, nc, rfl⟩ := row.shape hst.rw
      have y0 := hst.b4.cell (i := 0) rfl
      have y1 := hst.b4.cell (i := 1) rfl
      have y2 := hst.b4.cell (i := 2) rfl
      have v0 := hst.b8.cell (i := 0) rfl
      have v1 := hst.b8.cell (i := 1) rfl
      have v2 := hst.b8.cell (i := 2) rfl
      have g0 := hst.b8.frozen (i := 0)
      have g1 := hst.b8.frozen (i := 1)
      have g2 := hst.b8.frozen (i := 2)
      have hl8 := hst.b8.lt
      have HST := Lib.hid hst; clear hst
      go_wp2_with fail
      refine bodyPost_ret (v := .tuple #[.agg #[.int .i64 G2.most, .slice (some ⟨rbk, 0, none⟩) G2.nodes.length capk, .int .i64 q2], .slice na l2.length nc]) (by simp [results, Tryz.results132, go_sem, v0, v1, v2]) rfl ?_
      show LTo w rb (E n) _ _
      rw [← HES.out]
      exact HST.out.fin rfl
set_option maxRecDepth 100000 in
set_option maxHeartbeats 4000000 in
theorem r23Check_is {rb rcap : Nat} {G : Gra} (hr : RG w rb rcap G) {b n cap : Nat} {ws : List WV} (hn : ws.length = n) (hn1 : 1 ≤ n) (hn2 : n ≤ 1000) (hb : ∀ (i : Nat) x, ws[i]? = some x → w.cell? ⟨b, i, none⟩ = some x.val) (hsl : ∀ x ∈ ws, Sl w x.a x.l) (hsz : ∀ x ∈ ws, x.l.length ≤ 1000000) :
    Calls Tryz.prog 83 #[.agg #[.int .i64 G.most, .slice (some ⟨rb, 0, none⟩) G.nodes.length rcap], .slice (some ⟨b, 0, none⟩) n cap] w fun e w' => e = .returned (.int .i64 (chk G (ws.map WV.l))) ∧ Ch [] w w' := by
  obtain ⟨y, hy⟩ : ∃ y, ws[0]? = some y := ⟨_, List.getElem?_eq_getElem (by omega)⟩
  have hhd : ((ws.map WV.l).headD []).length = y.l.length := by
    cases ws with
    | nil => simp at hy
    | cons z zs => simp at hy; subst hy; rfl
  have hcy := hb 0 y hy
  obtain ⟨ya, yl, yc⟩ := y
  simp only [WV.val] at hcy hhd
  obtain ⟨m0, hm0⟩ : ∃ m0, m0 = yl.length := ⟨_, rfl⟩
  rw [← hm0] at hcy hhd
  obtain ⟨RES, hRES⟩ : ∃ RES, RES = chk G (ws.map WV.l) := ⟨_, rfl⟩
  rw [← hRES]
  unfold chk at hRES
  rw [hhd] at hRES
  clear hhd hm0 hy
  have HRES := Lib.hid hRES; clear hRES
  have HB := Lib.hid hb; clear hb
  have HSL := Lib.hid hsl; clear hsl
  have HSZ := Lib.hid hsz; clear hsz
  have HN := Lib.hid hn; clear hn
  have HR := Lib.hid hr; clear hr
  have HCY := Lib.hid hcy; clear hcy
  go_enter Tryz.func83, Tryz.ntmps83
  go_wp2_with fail
  refine wp_alw ?_
  intro W0 hW0
  have b2 := alw_blk (xs := [.int .i64 G.most, .slice (some ⟨rb, 0, none⟩) G.nodes.length rcap]) hW0
  have hc0 := alw_ch hW0
  clear hW0
  have B2 := Lib.hid b2; clear b2
  have HC0 := Lib.hid hc0; clear hc0
  go_loopw [5] (fun i wr => ∃ k : Nat, k ≤ n ∧ i = .int .i64 k ∧ Ch [] W0 wr ∧ ∀ x ∈ ws.take k, badAs m0 x.l = false) (fun i _ => n - (intOf i).toNat)
  case atStart => exact ⟨0, by omega, rfl, Ch.refl _ _, by simp⟩
  case round =>
    obtain ⟨k, hk, rfl, hc, hall⟩ := hrel
    by_cases hlt : k < n
    · obtain ⟨x, hx⟩ : ∃ x, ws[k]? = some x := ⟨_, List.getElem?_eq_getElem (by rw [HN.out]; exact hlt)⟩
      have hcx := HB.out k x hx
      have hsz := HSZ.out x (List.mem_of_getElem? hx)
      have hcw := HC0.out.trans hc (by simp)
      have d0 := (hcw.cell (cell_lt hcx) (by simp)).trans hcx
      have d1 := (hcw.cell (cell_lt HCY.out) (by simp)).trans HCY.out
      have hsn : ws.take (k + 1) = ws.take k ++ [x] := by rw [List.take_add_one, hx]; rfl
      have hbad : badAs m0 x.l = true → (ws.map WV.l).any (badAs m0) = true := fun e => List.any_eq_true.2 ⟨x.l, List.mem_map.2 ⟨x, List.mem_of_getElem? hx, rfl⟩, e⟩
      have hbe : badAs m0 x.l = (!rightW x.l.length || (x.l.length : Int) != m0) := rfl
      have hR := fun W => r23Right_is (w := W) x.l.length
      obtain ⟨xa, xl, xc⟩ := x
      simp only [WV.val] at d0
      obtain ⟨m, hm⟩ : ∃ m, m = xl.length := ⟨_, rfl⟩
      simp only [← hm] at d0 hbe hR hsz
      clear hm hcx hx
      have HC := Lib.hid hcw; clear hcw
      have HCW := Lib.hid hc; clear hc
      have HALL := Lib.hid hall; clear hall
      have HSN := Lib.hid hsn; clear hsn
      have HBAD := Lib.hid hbad; clear hbad
      have HBE := Lib.hid hbe; clear hbe
      cases hrw : rightW m
      · rw [hrw] at hR
        have HRW := Lib.hid hrw; clear hrw
        go_wp2_with fail
        refine Ord.St.door (fun _ => True) [.fl, .fl, .fl, .rd, .rd, .ef, .fl, .fl, .fl, .fl, .fl, .rd, .rd, .fl, .fl, .rd, .rd, .fl, .fl] [0, 0, 3, 7, 15, 31, 63, 127, 255, 255, 1023, 2047, 4095, 255, 8447, 24831, 57599, 131071, 262143] [0, 1, 2, 3, 4, 5, 6, 7, 8, 9, 10, 11, 12, 13, 14, 15, 16, 17, 18] mixed (by kernel_rfl) rfl ?_
        refine Ord.St.fl2 (T' := ?_) 0 [1, 2, 3, 4, 5, 6, 7, 8, 9, 10, 11, 12, 13, 14, 15, 16, 17, 18] _ _ rfl (by kernel_rfl) rfl rfl rfl rfl (fun K w' hk => ?_) ?_
        rotate_left
        · go_step; exact hk
        refine Ord.St.fl2 (T' := ?_) 1 [2, 3, 4, 5, 6, 7, 8, 9, 10, 11, 12, 13, 14, 15, 16, 17, 18] _ _ rfl (by kernel_rfl) rfl rfl rfl rfl (fun K w' hk => ?_) ?_
        rotate_left
        · go_step; exact hk
        refine Ord.St.fl2 (T' := ?_) 2 [3, 4, 5, 6, 7, 8, 9, 10, 11, 12, 13, 14, 15, 16, 17, 18] _ _ rfl (by kernel_rfl) rfl rfl rfl rfl (fun K w' hk => ?_) ?_
        rotate_left
        · go_step; exact hk
        refine Ord.St.rd2 (T' := ?_) 3 [4, 5, 6, 7, 8, 9, 10, 11, 12, 13, 14, 15, 16, 17, 18] _ _ rfl (by kernel_rfl) rfl rfl rfl rfl (fun K hk => ?_) ?_
        rotate_left
        · go_step; exact hk
        refine Ord.St.rd2 (T' := ?_) 4 [5, 6, 7, 8, 9, 10, 11, 12, 13, 14, 15, 16, 17, 18] _ _ rfl (by kernel_rfl) rfl rfl rfl rfl (fun K hk => ?_) ?_
        rotate_left
        · go_step; exact hk
        refine Ord.St.ef 5 [6, 7, 8, 9, 10, 11, 12, 13, 14, 15, 16, 17, 18] _ rfl (by kernel_rfl) (fun K hK => ?_)
        go_wp2_with fail
        refine (hR _).mono ?_
        rintro e w' ⟨rfl, rfl⟩
        go_wp2_with fail
        refine ⟨rfl, hK _ _ ?_⟩; clear hK K
        refine Ord.St.fl2 (T' := ?_) 6 [7, 8, 9, 10, 11, 12, 13, 14, 15, 16, 17, 18] _ _ rfl (by kernel_rfl) rfl rfl rfl rfl (fun K w' hk => ?_) ?_
        rotate_left
        · go_step; exact hk
        refine Ord.St.fl2 (T' := ?_) 7 [8, 9, 10, 11, 12, 13, 14, 15, 16, 17, 18] _ _ rfl (by kernel_rfl) rfl rfl rfl rfl (fun K w' hk => ?_) ?_
        rotate_left
        · go_step; exact hk
        first | (refine Ord.St.fl2 (T' := ?_) 8 [9, 10, 11, 12, 13, 14, 15, 16, 17, 18] _ _ rfl (by kernel_rfl) ?_ rfl rfl rfl (fun K w' hk => ?_) ?_; rotate_left; (first | rfl | (simp [Region.wanted, yielded, *]; done)); focus (go_step; exact hk)) | (refine Ord.St.skip 8 [9, 10, 11, 12, 13, 14, 15, 16, 17, 18] _ rfl (by kernel_rfl) ?_ (fun K hK => ?_); (first | rfl | (simp [Region.wanted, yielded, *]; done)); go_simp; refine hK _ ?_; clear hK K)
        first | (refine Ord.St.fl2 (T' := ?_) 9 [10, 11, 12, 13, 14, 15, 16, 17, 18] _ _ rfl (by kernel_rfl) ?_ rfl rfl rfl (fun K w' hk => ?_) ?_; rotate_left; (first | rfl | (simp [Region.wanted, yielded, *]; done)); focus (go_step; exact hk)) | (refine Ord.St.skip 9 [10, 11, 12, 13, 14, 15, 16, 17, 18] _ rfl (by kernel_rfl) ?_ (fun K hK => ?_); (first | rfl | (simp [Region.wanted, yielded, *]; done)); go_simp; refine hK _ ?_; clear hK K)
        first | (refine Ord.St.fl2 (T' := ?_) 10 [11, 12, 13, 14, 15, 16, 17, 18] _ _ rfl (by kernel_rfl) ?_ rfl rfl rfl (fun K w' hk => ?_) ?_; rotate_left; (first | rfl | (simp [Region.wanted, yielded, *]; done)); focus (go_step; exact hk)) | (refine Ord.St.skip 10 [11, 12, 13, 14, 15, 16, 17, 18] _ rfl (by kernel_rfl) ?_ (fun K hK => ?_); (first | rfl | (simp [Region.wanted, yielded, *]; done)); go_simp; refine hK _ ?_; clear hK K)
        first | (refine Ord.St.rd2 (T' := ?_) 11 [12, 13, 14, 15, 16, 17, 18] _ _ rfl (by kernel_rfl) ?_ rfl rfl rfl (fun K hk => ?_) ?_; rotate_left; (first | rfl | (simp [Region.wanted, yielded, *]; done)); focus (go_step; exact hk)) | (refine Ord.St.skipr 11 [12, 13, 14, 15, 16, 17, 18] _ rfl (by kernel_rfl) ?_ (fun K hK => ?_); (first | rfl | (simp [Region.wanted, yielded, *]; done)); go_simp; refine hK _ ?_; clear hK K)
        first | (refine Ord.St.rd2 (T' := ?_) 12 [13, 14, 15, 16, 17, 18] _ _ rfl (by kernel_rfl) ?_ rfl rfl rfl (fun K hk => ?_) ?_; rotate_left; (first | rfl | (simp [Region.wanted, yielded, *]; done)); focus (go_step; exact hk)) | (refine Ord.St.skipr 12 [13, 14, 15, 16, 17, 18] _ rfl (by kernel_rfl) ?_ (fun K hK => ?_); (first | rfl | (simp [Region.wanted, yielded, *]; done)); go_simp; refine hK _ ?_; clear hK K)
        first | (refine Ord.St.fl2 (T' := ?_) 13 [14, 15, 16, 17, 18] _ _ rfl (by kernel_rfl) ?_ rfl rfl rfl (fun K w' hk => ?_) ?_; rotate_left; (first | rfl | (simp [Region.wanted, yielded, *]; done)); focus (go_step; exact hk)) | (refine Ord.St.skip 13 [14, 15, 16, 17, 18] _ rfl (by kernel_rfl) ?_ (fun K hK => ?_); (first | rfl | (simp [Region.wanted, yielded, *]; done)); go_simp; refine hK _ ?_; clear hK K)
        first | (refine Ord.St.fl2 (T' := ?_) 14 [15, 16, 17, 18] _ _ rfl (by kernel_rfl) ?_ rfl rfl rfl (fun K w' hk => ?_) ?_; rotate_left; (first | rfl | (simp [Region.wanted, yielded, *]; done)); focus (go_step; exact hk)) | (refine Ord.St.skip 14 [15, 16, 17, 18] _ rfl (by kernel_rfl) ?_ (fun K hK => ?_); (first | rfl | (simp [Region.wanted, yielded, *]; done)); go_simp; refine hK _ ?_; clear hK K)
        first | (refine Ord.St.rd2 (T' := ?_) 15 [16, 17, 18] _ _ rfl (by kernel_rfl) ?_ rfl rfl rfl (fun K hk => ?_) ?_; rotate_left; (first | rfl | (simp [Region.wanted, yielded, *]; done)); focus (go_step; exact hk)) | (refine Ord.St.skipr 15 [16, 17, 18] _ rfl (by kernel_rfl) ?_ (fun K hK => ?_); (first | rfl | (simp [Region.wanted, yielded, *]; done)); go_simp; refine hK _ ?_; clear hK K)
        first | (refine Ord.St.rd2 (T' := ?_) 16 [17, 18] _ _ rfl (by kernel_rfl) ?_ rfl rfl rfl (fun K hk => ?_) ?_; rotate_left; (first | rfl | (simp [Region.wanted, yielded, *]; done)); focus (go_step; exact hk)) | (refine Ord.St.skipr 16 [17, 18] _ rfl (by kernel_rfl) ?_ (fun K hK => ?_); (first | rfl | (simp [Region.wanted, yielded, *]; done)); go_simp; refine hK _ ?_; clear hK K)
        first | (refine Ord.St.fl2 (T' := ?_) 17 [18] _ _ rfl (by kernel_rfl) ?_ rfl rfl rfl (fun K w' hk => ?_) ?_; rotate_left; (first | rfl | (simp [Region.wanted, yielded, *]; done)); focus (go_step; exact hk)) | (refine Ord.St.skip 17 [18] _ rfl (by kernel_rfl) ?_ (fun K hK => ?_); (first | rfl | (simp [Region.wanted, yielded, *]; done)); go_simp; refine hK _ ?_; clear hK K)
        refine Ord.St.fl2 (T' := ?_) 18 [] _ _ rfl (by kernel_rfl) rfl rfl rfl rfl (fun K w' hk => ?_) ?_
        rotate_left
        · go_step; exact hk
        refine Ord.St.nil ?_
        go_wp2_with fail
        go_ret
        exact ⟨by rw [HRES.out, HBAD.out (by rw [HBE.out, HRW.out]; rfl)]; rfl, HC.out.drew⟩
      · rw [hrw] at hR
        have HRW := Lib.hid hrw; clear hrw
        cases hne : ((m : Int) != m0)
        · go_wp2_with fail
          refine Ord.St.door (fun _ => True) [.fl, .fl, .fl, .rd, .rd, .ef, .fl, .fl, .fl, .fl, .fl, .rd, .rd, .fl, .fl, .rd, .rd, .fl, .fl] [0, 0, 3, 7, 15, 31, 63, 127, 255, 255, 1023, 2047, 4095, 255, 8447, 24831, 57599, 131071, 262143] [0, 1, 2, 3, 4, 5, 6, 7, 8, 9, 10, 11, 12, 13, 14, 15, 16, 17, 18] mixed (by kernel_rfl) rfl ?_
          refine Ord.St.fl2 (T' := ?_) 0 [1, 2, 3, 4, 5, 6, 7, 8, 9, 10, 11, 12, 13, 14, 15, 16, 17, 18] _ _ rfl (by kernel_rfl) rfl rfl rfl rfl (fun K w' hk => ?_) ?_
          rotate_left
          · go_step; exact hk
          refine Ord.St.fl2 (T' := ?_) 1 [2, 3, 4, 5, 6, 7, 8, 9, 10, 11, 12, 13, 14, 15, 16, 17, 18] _ _ rfl (by kernel_rfl) rfl rfl rfl rfl (fun K w' hk => ?_) ?_
          rotate_left
          · go_step; exact hk
          refine Ord.St.fl2 (T' := ?_) 2 [3, 4, 5, 6, 7, 8, 9, 10, 11, 12, 13, 14, 15, 16, 17, 18] _ _ rfl (by kernel_rfl) rfl rfl rfl rfl (fun K w' hk => ?_) ?_
          rotate_left
          · go_step; exact hk
          refine Ord.St.rd2 (T' := ?_) 3 [4, 5, 6, 7, 8, 9, 10, 11, 12, 13, 14, 15, 16, 17, 18] _ _ rfl (by kernel_rfl) rfl rfl rfl rfl (fun K hk => ?_) ?_
          rotate_left
          · go_step; exact hk
          refine Ord.St.rd2 (T' := ?_) 4 [5, 6, 7, 8, 9, 10, 11, 12, 13, 14, 15, 16, 17, 18] _ _ rfl (by kernel_rfl) rfl rfl rfl rfl (fun K hk => ?_) ?_
          rotate_left
          · go_step; exact hk
          refine Ord.St.ef 5 [6, 7, 8, 9, 10, 11, 12, 13, 14, 15, 16, 17, 18] _ rfl (by kernel_rfl) (fun K hK => ?_)
          go_wp2_with fail
          refine (hR _).mono ?_
          rintro e w' ⟨rfl, rfl⟩
          go_wp2_with fail
          refine ⟨rfl, hK _ _ ?_⟩; clear hK K
          refine Ord.St.fl2 (T' := ?_) 6 [7, 8, 9, 10, 11, 12, 13, 14, 15, 16, 17, 18] _ _ rfl (by kernel_rfl) rfl rfl rfl rfl (fun K w' hk => ?_) ?_
          rotate_left
          · go_step; exact hk
          refine Ord.St.fl2 (T' := ?_) 7 [8, 9, 10, 11, 12, 13, 14, 15, 16, 17, 18] _ _ rfl (by kernel_rfl) rfl rfl rfl rfl (fun K w' hk => ?_) ?_
          rotate_left
          · go_step; exact hk
          first | (refine Ord.St.fl2 (T' := ?_) 8 [9, 10, 11, 12, 13, 14, 15, 16, 17, 18] _ _ rfl (by kernel_rfl) ?_ rfl rfl rfl (fun K w' hk => ?_) ?_; rotate_left; (first | rfl | (simp [Region.wanted, yielded, *]; done)); focus (go_step; exact hk)) | (refine Ord.St.skip 8 [9, 10, 11, 12, 13, 14, 15, 16, 17, 18] _ rfl (by kernel_rfl) ?_ (fun K hK => ?_); (first | rfl | (simp [Region.wanted, yielded, *]; done)); go_simp; refine hK _ ?_; clear hK K)
          first | (refine Ord.St.fl2 (T' := ?_) 9 [10, 11, 12, 13, 14, 15, 16, 17, 18] _ _ rfl (by kernel_rfl) ?_ rfl rfl rfl (fun K w' hk => ?_) ?_; rotate_left; (first | rfl | (simp [Region.wanted, yielded, *]; done)); focus (go_step; exact hk)) | (refine Ord.St.skip 9 [10, 11, 12, 13, 14, 15, 16, 17, 18] _ rfl (by kernel_rfl) ?_ (fun K hK => ?_); (first | rfl | (simp [Region.wanted, yielded, *]; done)); go_simp; refine hK _ ?_; clear hK K)
          first | (refine Ord.St.fl2 (T' := ?_) 10 [11, 12, 13, 14, 15, 16, 17, 18] _ _ rfl (by kernel_rfl) ?_ rfl rfl rfl (fun K w' hk => ?_) ?_; rotate_left; (first | rfl | (simp [Region.wanted, yielded, *]; done)); focus (go_step; exact hk)) | (refine Ord.St.skip 10 [11, 12, 13, 14, 15, 16, 17, 18] _ rfl (by kernel_rfl) ?_ (fun K hK => ?_); (first | rfl | (simp [Region.wanted, yielded, *]; done)); go_simp; refine hK _ ?_; clear hK K)
          first | (refine Ord.St.rd2 (T' := ?_) 11 [12, 13, 14, 15, 16, 17, 18] _ _ rfl (by kernel_rfl) ?_ rfl rfl rfl (fun K hk => ?_) ?_; rotate_left; (first | rfl | (simp [Region.wanted, yielded, *]; done)); focus (go_step; exact hk)) | (refine Ord.St.skipr 11 [12, 13, 14, 15, 16, 17, 18] _ rfl (by kernel_rfl) ?_ (fun K hK => ?_); (first | rfl | (simp [Region.wanted, yielded, *]; done)); go_simp; refine hK _ ?_; clear hK K)
          first | (refine Ord.St.rd2 (T' := ?_) 12 [13, 14, 15, 16, 17, 18] _ _ rfl (by kernel_rfl) ?_ rfl rfl rfl (fun K hk => ?_) ?_; rotate_left; (first | rfl | (simp [Region.wanted, yielded, *]; done)); focus (go_step; exact hk)) | (refine Ord.St.skipr 12 [13, 14, 15, 16, 17, 18] _ rfl (by kernel_rfl) ?_ (fun K hK => ?_); (first | rfl | (simp [Region.wanted, yielded, *]; done)); go_simp; refine hK _ ?_; clear hK K)
          first | (refine Ord.St.fl2 (T' := ?_) 13 [14, 15, 16, 17, 18] _ _ rfl (by kernel_rfl) ?_ rfl rfl rfl (fun K w' hk => ?_) ?_; rotate_left; (first | rfl | (simp [Region.wanted, yielded, *]; done)); focus (go_step; exact hk)) | (refine Ord.St.skip 13 [14, 15, 16, 17, 18] _ rfl (by kernel_rfl) ?_ (fun K hK => ?_); (first | rfl | (simp [Region.wanted, yielded, *]; done)); go_simp; refine hK _ ?_; clear hK K)
          first | (refine Ord.St.fl2 (T' := ?_) 14 [15, 16, 17, 18] _ _ rfl (by kernel_rfl) ?_ rfl rfl rfl (fun K w' hk => ?_) ?_; rotate_left; (first | rfl | (simp [Region.wanted, yielded, *]; done)); focus (go_step; exact hk)) | (refine Ord.St.skip 14 [15, 16, 17, 18] _ rfl (by kernel_rfl) ?_ (fun K hK => ?_); (first | rfl | (simp [Region.wanted, yielded, *]; done)); go_simp; refine hK _ ?_; clear hK K)
          first | (refine Ord.St.rd2 (T' := ?_) 15 [16, 17, 18] _ _ rfl (by kernel_rfl) ?_ rfl rfl rfl (fun K hk => ?_) ?_; rotate_left; (first | rfl | (simp [Region.wanted, yielded, *]; done)); focus (go_step; exact hk)) | (refine Ord.St.skipr 15 [16, 17, 18] _ rfl (by kernel_rfl) ?_ (fun K hK => ?_); (first | rfl | (simp [Region.wanted, yielded, *]; done)); go_simp; refine hK _ ?_; clear hK K)
          first | (refine Ord.St.rd2 (T' := ?_) 16 [17, 18] _ _ rfl (by kernel_rfl) ?_ rfl rfl rfl (fun K hk => ?_) ?_; rotate_left; (first | rfl | (simp [Region.wanted, yielded, *]; done)); focus (go_step; exact hk)) | (refine Ord.St.skipr 16 [17, 18] _ rfl (by kernel_rfl) ?_ (fun K hK => ?_); (first | rfl | (simp [Region.wanted, yielded, *]; done)); go_simp; refine hK _ ?_; clear hK K)
          first | (refine Ord.St.fl2 (T' := ?_) 17 [18] _ _ rfl (by kernel_rfl) ?_ rfl rfl rfl (fun K w' hk => ?_) ?_; rotate_left; (first | rfl | (simp [Region.wanted, yielded, *]; done)); focus (go_step; exact hk)) | (refine Ord.St.skip 17 [18] _ rfl (by kernel_rfl) ?_ (fun K hK => ?_); (first | rfl | (simp [Region.wanted, yielded, *]; done)); go_simp; refine hK _ ?_; clear hK K)
          refine Ord.St.fl2 (T' := ?_) 18 [] _ _ rfl (by kernel_rfl) rfl rfl rfl rfl (fun K w' hk => ?_) ?_
          rotate_left
          · go_step; exact hk
          refine Ord.St.nil ?_
          go_wp2_with fail
          go_roundw
          case rel => exact ⟨k + 1, by omega, by go_num, HCW.out.drew, fun z hz => by
            rw [HSN.out] at hz
            rcases List.mem_append.1 hz with hz | hz
            · exact HALL.out z hz
            · rw [List.mem_singleton.1 hz]; show badAs m0 xl = false; rw [HBE.out, HRW.out, hne]; rfl⟩
          case measure => simp [intOf]; omega
        · go_wp2_with fail
          refine Ord.St.door (fun _ => True) [.fl, .fl, .fl, .rd, .rd, .ef, .fl, .fl, .fl, .fl, .fl, .rd, .rd, .fl, .fl, .rd, .rd, .fl, .fl] [0, 0, 3, 7, 15, 31, 63, 127, 255, 255, 1023, 2047, 4095, 255, 8447, 24831, 57599, 131071, 262143] [0, 1, 2, 3, 4, 5, 6, 7, 8, 9, 10, 11, 12, 13, 14, 15, 16, 17, 18] mixed (by kernel_rfl) rfl ?_
          refine Ord.St.fl2 (T' := ?_) 0 [1, 2, 3, 4, 5, 6, 7, 8, 9, 10, 11, 12, 13, 14, 15, 16, 17, 18] _ _ rfl (by kernel_rfl) rfl rfl rfl rfl (fun K w' hk => ?_) ?_
          rotate_left
          · go_step; exact hk
          refine Ord.St.fl2 (T' := ?_) 1 [2, 3, 4, 5, 6, 7, 8, 9, 10, 11, 12, 13, 14, 15, 16, 17, 18] _ _ rfl (by kernel_rfl) rfl rfl rfl rfl (fun K w' hk => ?_) ?_
          rotate_left
          · go_step; exact hk
          refine Ord.St.fl2 (T' := ?_) 2 [3, 4, 5, 6, 7, 8, 9, 10, 11, 12, 13, 14, 15, 16, 17, 18] _ _ rfl (by kernel_rfl) rfl rfl rfl rfl (fun K w' hk => ?_) ?_
          rotate_left
          · go_step; exact hk
          refine Ord.St.rd2 (T' := ?_) 3 [4, 5, 6, 7, 8, 9, 10, 11, 12, 13, 14, 15, 16, 17, 18] _ _ rfl (by kernel_rfl) rfl rfl rfl rfl (fun K hk => ?_) ?_
          rotate_left
          · go_step; exact hk
          refine Ord.St.rd2 (T' := ?_) 4 [5, 6, 7, 8, 9, 10, 11, 12, 13, 14, 15, 16, 17, 18] _ _ rfl (by kernel_rfl) rfl rfl rfl rfl (fun K hk => ?_) ?_
          rotate_left
          · go_step; exact hk
          refine Ord.St.ef 5 [6, 7, 8, 9, 10, 11, 12, 13, 14, 15, 16, 17, 18] _ rfl (by kernel_rfl) (fun K hK => ?_)
          go_wp2_with fail
          refine (hR _).mono ?_
          rintro e w' ⟨rfl, rfl⟩
          go_wp2_with fail
          refine ⟨rfl, hK _ _ ?_⟩; clear hK K
          refine Ord.St.fl2 (T' := ?_) 6 [7, 8, 9, 10, 11, 12, 13, 14, 15, 16, 17, 18] _ _ rfl (by kernel_rfl) rfl rfl rfl rfl (fun K w' hk => ?_) ?_
          rotate_left
          · go_step; exact hk
          refine Ord.St.fl2 (T' := ?_) 7 [8, 9, 10, 11, 12, 13, 14, 15, 16, 17, 18] _ _ rfl (by kernel_rfl) rfl rfl rfl rfl (fun K w' hk => ?_) ?_
          rotate_left
          · go_step; exact hk
          first | (refine Ord.St.fl2 (T' := ?_) 8 [9, 10, 11, 12, 13, 14, 15, 16, 17, 18] _ _ rfl (by kernel_rfl) ?_ rfl rfl rfl (fun K w' hk => ?_) ?_; rotate_left; (first | rfl | (simp [Region.wanted, yielded, *]; done)); focus (go_step; exact hk)) | (refine Ord.St.skip 8 [9, 10, 11, 12, 13, 14, 15, 16, 17, 18] _ rfl (by kernel_rfl) ?_ (fun K hK => ?_); (first | rfl | (simp [Region.wanted, yielded, *]; done)); go_simp; refine hK _ ?_; clear hK K)
          first | (refine Ord.St.fl2 (T' := ?_) 9 [10, 11, 12, 13, 14, 15, 16, 17, 18] _ _ rfl (by kernel_rfl) ?_ rfl rfl rfl (fun K w' hk => ?_) ?_; rotate_left; (first | rfl | (simp [Region.wanted, yielded, *]; done)); focus (go_step; exact hk)) | (refine Ord.St.skip 9 [10, 11, 12, 13, 14, 15, 16, 17, 18] _ rfl (by kernel_rfl) ?_ (fun K hK => ?_); (first | rfl | (simp [Region.wanted, yielded, *]; done)); go_simp; refine hK _ ?_; clear hK K)
          first | (refine Ord.St.fl2 (T' := ?_) 10 [11, 12, 13, 14, 15, 16, 17, 18] _ _ rfl (by kernel_rfl) ?_ rfl rfl rfl (fun K w' hk => ?_) ?_; rotate_left; (first | rfl | (simp [Region.wanted, yielded, *]; done)); focus (go_step; exact hk)) | (refine Ord.St.skip 10 [11, 12, 13, 14, 15, 16, 17, 18] _ rfl (by kernel_rfl) ?_ (fun K hK => ?_); (first | rfl | (simp [Region.wanted, yielded, *]; done)); go_simp; refine hK _ ?_; clear hK K)
          first | (refine Ord.St.rd2 (T' := ?_) 11 [12, 13, 14, 15, 16, 17, 18] _ _ rfl (by kernel_rfl) ?_ rfl rfl rfl (fun K hk => ?_) ?_; rotate_left; (first | rfl | (simp [Region.wanted, yielded, *]; done)); focus (go_step; exact hk)) | (refine Ord.St.skipr 11 [12, 13, 14, 15, 16, 17, 18] _ rfl (by kernel_rfl) ?_ (fun K hK => ?_); (first | rfl | (simp [Region.wanted, yielded, *]; done)); go_simp; refine hK _ ?_; clear hK K)
          first | (refine Ord.St.rd2 (T' := ?_) 12 [13, 14, 15, 16, 17, 18] _ _ rfl (by kernel_rfl) ?_ rfl rfl rfl (fun K hk => ?_) ?_; rotate_left; (first | rfl | (simp [Region.wanted, yielded, *]; done)); focus (go_step; exact hk)) | (refine Ord.St.skipr 12 [13, 14, 15, 16, 17, 18] _ rfl (by kernel_rfl) ?_ (fun K hK => ?_); (first | rfl | (simp [Region.wanted, yielded, *]; done)); go_simp; refine hK _ ?_; clear hK K)
          first | (refine Ord.St.fl2 (T' := ?_) 13 [14, 15, 16, 17, 18] _ _ rfl (by kernel_rfl) ?_ rfl rfl rfl (fun K w' hk => ?_) ?_; rotate_left; (first | rfl | (simp [Region.wanted, yielded, *]; done)); focus (go_step; exact hk)) | (refine Ord.St.skip 13 [14, 15, 16, 17, 18] _ rfl (by kernel_rfl) ?_ (fun K hK => ?_); (first | rfl | (simp [Region.wanted, yielded, *]; done)); go_simp; refine hK _ ?_; clear hK K)
          first | (refine Ord.St.fl2 (T' := ?_) 14 [15, 16, 17, 18] _ _ rfl (by kernel_rfl) ?_ rfl rfl rfl (fun K w' hk => ?_) ?_; rotate_left; (first | rfl | (simp [Region.wanted, yielded, *]; done)); focus (go_step; exact hk)) | (refine Ord.St.skip 14 [15, 16, 17, 18] _ rfl (by kernel_rfl) ?_ (fun K hK => ?_); (first | rfl | (simp [Region.wanted, yielded, *]; done)); go_simp; refine hK _ ?_; clear hK K)
          first | (refine Ord.St.rd2 (T' := ?_) 15 [16, 17, 18] _ _ rfl (by kernel_rfl) ?_ rfl rfl rfl (fun K hk => ?_) ?_; rotate_left; (first | rfl | (simp [Region.wanted, yielded, *]; done)); focus (go_step; exact hk)) | (refine Ord.St.skipr 15 [16, 17, 18] _ rfl (by kernel_rfl) ?_ (fun K hK => ?_); (first | rfl | (simp [Region.wanted, yielded, *]; done)); go_simp; refine hK _ ?_; clear hK K)
          first | (refine Ord.St.rd2 (T' := ?_) 16 [17, 18] _ _ rfl (by kernel_rfl) ?_ rfl rfl rfl (fun K hk => ?_) ?_; rotate_left; (first | rfl | (simp [Region.wanted, yielded, *]; done)); focus (go_step; exact hk)) | (refine Ord.St.skipr 16 [17, 18] _ rfl (by kernel_rfl) ?_ (fun K hK => ?_); (first | rfl | (simp [Region.wanted, yielded, *]; done)); go_simp; refine hK _ ?_; clear hK K)
          first | (refine Ord.St.fl2 (T' := ?_) 17 [18] _ _ rfl (by kernel_rfl) ?_ rfl rfl rfl (fun K w' hk => ?_) ?_; rotate_left; (first | rfl | (simp [Region.wanted, yielded, *]; done)); focus (go_step; exact hk)) | (refine Ord.St.skip 17 [18] _ rfl (by kernel_rfl) ?_ (fun K hK => ?_); (first | rfl | (simp [Region.wanted, yielded, *]; done)); go_simp; refine hK _ ?_; clear hK K)
          refine Ord.St.fl2 (T' := ?_) 18 [] _ _ rfl (by kernel_rfl) rfl rfl rfl rfl (fun K w' hk => ?_) ?_
          rotate_left
          · go_step; exact hk
          refine Ord.St.nil ?_
          go_wp2_with fail
          go_ret
          exact ⟨by rw [HRES.out, HBAD.out (by rw [HBE.out, hne]; simp)]; rfl, HC.out.drew⟩
    · have hno : (ws.map WV.l).any (badAs m0) = false := by
        rw [List.take_of_length_le (by rw [HN.out]; omega)] at hall
        rw [List.any_eq_false]
        intro l hl
        obtain ⟨x, hx, rfl⟩ := List.mem_map.1 hl
        rw [hall x hx]; simp
      have hres2 : RES = if (ws.map WV.l).any (badIn G) then 200 else 0 := by rw [HRES.out, hno]; rfl
      have HRES2 := Lib.hid hres2; clear hres2 hno hall
      have HC := Lib.hid hc; clear hc
      go_wp2_with fail
      go_loopw [6] (fun i wq => ∃ k : Nat, k ≤ n ∧ i = .int .i64 k ∧ Ch [] W0 wq ∧ ∀ x ∈ ws.take k, badIn G x.l = false) (fun i _ => n - (intOf i).toNat)
      case atStart => exact ⟨0, by omega, rfl, HC.out, by simp⟩
      case round =>
        obtain ⟨k2, hk2, rfl, hc, hall⟩ := hrel
        by_cases hlt2 : k2 < n
        · obtain ⟨x, hx⟩ : ∃ x, ws[k2]? = some x := ⟨_, List.getElem?_eq_getElem (by rw [HN.out]; exact hlt2)⟩
          have hcx := HB.out k2 x hx
          have hsz := HSZ.out x (List.mem_of_getElem? hx)
          have hslx := HSL.out x (List.mem_of_getElem? hx)
          have hsn : ws.take (k2 + 1) = ws.take k2 ++ [x] := by rw [List.take_add_one, hx]; rfl
          have hbad : badIn G x.l = true → (ws.map WV.l).any (badIn G) = true := fun e => List.any_eq_true.2 ⟨x.l, List.mem_map.2 ⟨x, List.mem_of_getElem? hx, rfl⟩, e⟩
          obtain ⟨xa, xl, xc⟩ := x
          simp only [WV.val] at hcx hsz hslx hbad
          obtain ⟨m, hm⟩ : ∃ m, xl.length = m := ⟨_, rfl⟩
          rw [hm] at hcx hsz
          have HM := Lib.hid hm; clear hm hx
          have HCX := Lib.hid hcx; clear hcx
          have HSLX := Lib.hid hslx; clear hslx
          have HALL := Lib.hid hall; clear hall
          have HSN := Lib.hid hsn; clear hsn
          have HBAD := Lib.hid hbad; clear hbad
          have HC := Lib.hid hc; clear hc
          go_wp2_with fail
          go_loopw [7] (fun i wq => ∃ j : Nat, j ≤ m ∧ i = .int .i64 j ∧ Ch [] W0 wq ∧ ∀ r ∈ xl.take j, right G.nodes r = true) (fun i _ => m - (intOf i).toNat)
          case atStart => exact ⟨0, by omega, rfl, HC.out, by simp⟩
          case round =>
            obtain ⟨j, hj, rfl, hc, hin⟩ := hrel
            have hcw := HC0.out.trans hc (by simp)
            have d0 := (hcw.cell (cell_lt HCX.out) (by simp)).trans HCX.out
            by_cases hjm : j < m
            · obtain ⟨r, hr⟩ : ∃ r, xl[j]? = some r := ⟨_, List.getElem?_eq_getElem (by rw [HM.out]; exact hjm)⟩
              obtain ⟨rb9, ro9, rfl, hcl⟩ := HSLX.out.cells j r hr
              have e0 := (hcw.cell (cell_lt hcl) (by simp)).trans hcl
              have hb2 := B2.out.ch hc (by simp)
              have y0 := hb2.cell (i := 0) rfl
              have y1 := hb2.cell (i := 1) rfl
              have hRr := rRight_is ((HR.out.ch hcw (by simp)).ch (Ch.refl [] wr).drew (by simp)) r
              have hsn2 : xl.take (j + 1) = xl.take j ++ [r] := by rw [List.take_add_one, hr]; rfl
              have hbr : right G.nodes r = false → badIn G xl = true := fun e => List.any_eq_true.2 ⟨r, List.mem_of_getElem? hr, by rw [e]; rfl⟩
              have HIN := Lib.hid hin; clear hin
              have HSN2 := Lib.hid hsn2; clear hsn2
              have HBR := Lib.hid hbr; clear hbr hr hcl hb2
              have HCC := Lib.hid hc; clear hc
              have HCW := Lib.hid hcw; clear hcw
              cases hrr : right G.nodes r
              · rw [hrr] at hRr
                have HRR := Lib.hid hRr; clear hRr
                have HQ := Lib.hid hrr; clear hrr
                go_wp2_with fail
                refine Ord.St.door (fun _ => True) [.rd, .fl, .fl, .fl, .rd, .fl, .fl, .rd, .ef, .fl] [0, 0, 0, 6, 14, 0, 62, 126, 255, 511] [0, 1, 2, 3, 4, 5, 6, 7, 8, 9] mixed (by kernel_rfl) rfl ?_
                refine Ord.St.rd2 (T' := ?_) 0 [1, 2, 3, 4, 5, 6, 7, 8, 9] _ _ rfl (by kernel_rfl) rfl rfl rfl rfl (fun K hk => ?_) ?_
                rotate_left
                · go_step; exact hk
                refine Ord.St.fl2 (T' := ?_) 1 [2, 3, 4, 5, 6, 7, 8, 9] _ _ rfl (by kernel_rfl) rfl rfl rfl rfl (fun K w' hk => ?_) ?_
                rotate_left
                · go_step; exact hk
                refine Ord.St.fl2 (T' := ?_) 2 [3, 4, 5, 6, 7, 8, 9] _ _ rfl (by kernel_rfl) rfl rfl rfl rfl (fun K w' hk => ?_) ?_
                rotate_left
                · go_step; exact hk
                refine Ord.St.fl2 (T' := ?_) 3 [4, 5, 6, 7, 8, 9] _ _ rfl (by kernel_rfl) rfl rfl rfl rfl (fun K w' hk => ?_) ?_
                rotate_left
                · go_step; exact hk
                refine Ord.St.rd2 (T' := ?_) 4 [5, 6, 7, 8, 9] _ _ rfl (by kernel_rfl) rfl rfl rfl rfl (fun K hk => ?_) ?_
                rotate_left
                · go_step; exact hk
                refine Ord.St.fl2 (T' := ?_) 5 [6, 7, 8, 9] _ _ rfl (by kernel_rfl) rfl rfl rfl rfl (fun K w' hk => ?_) ?_
                rotate_left
                · go_step; exact hk
                refine Ord.St.fl2 (T' := ?_) 6 [7, 8, 9] _ _ rfl (by kernel_rfl) rfl rfl rfl rfl (fun K w' hk => ?_) ?_
                rotate_left
                · go_step; exact hk
                refine Ord.St.rd2 (T' := ?_) 7 [8, 9] _ _ rfl (by kernel_rfl) rfl rfl rfl rfl (fun K hk => ?_) ?_
                rotate_left
                · go_step; exact hk
                refine Ord.St.ef 8 [9] _ rfl (by kernel_rfl) (fun K hK => ?_)
                go_wp2_with fail
                refine HRR.out.mono ?_
                rintro e w5 ⟨rfl, hc5⟩
                have HC5 := Lib.hid hc5; clear hc5
                go_wp2_with fail
                refine ⟨rfl, hK _ _ ?_⟩; clear hK K
                refine Ord.St.fl2 (T' := ?_) 9 [] _ _ rfl (by kernel_rfl) rfl rfl rfl rfl (fun K w' hk => ?_) ?_
                rotate_left
                · go_step; exact hk
                refine Ord.St.nil ?_
                go_wp2_with fail
                go_ret
                exact ⟨by rw [HRES2.out, HBAD.out (HBR.out HQ.out)]; rfl, HCW.out.trans ((Ch.refl [] wr).drew.trans HC5.out (by simp)) (by simp)⟩
              · rw [hrr] at hRr
                have HRR := Lib.hid hRr; clear hRr
                have HQ := Lib.hid hrr; clear hrr
                go_wp2_with fail
                refine Ord.St.door (fun _ => True) [.rd, .fl, .fl, .fl, .rd, .fl, .fl, .rd, .ef, .fl] [0, 0, 0, 6, 14, 0, 62, 126, 255, 511] [0, 1, 2, 3, 4, 5, 6, 7, 8, 9] mixed (by kernel_rfl) rfl ?_
                refine Ord.St.rd2 (T' := ?_) 0 [1, 2, 3, 4, 5, 6, 7, 8, 9] _ _ rfl (by kernel_rfl) rfl rfl rfl rfl (fun K hk => ?_) ?_
                rotate_left
                · go_step; exact hk
                refine Ord.St.fl2 (T' := ?_) 1 [2, 3, 4, 5, 6, 7, 8, 9] _ _ rfl (by kernel_rfl) rfl rfl rfl rfl (fun K w' hk => ?_) ?_
                rotate_left
                · go_step; exact hk
                refine Ord.St.fl2 (T' := ?_) 2 [3, 4, 5, 6, 7, 8, 9] _ _ rfl (by kernel_rfl) rfl rfl rfl rfl (fun K w' hk => ?_) ?_
                rotate_left
                · go_step; exact hk
                refine Ord.St.fl2 (T' := ?_) 3 [4, 5, 6, 7, 8, 9] _ _ rfl (by kernel_rfl) rfl rfl rfl rfl (fun K w' hk => ?_) ?_
                rotate_left
                · go_step; exact hk
                refine Ord.St.rd2 (T' := ?_) 4 [5, 6, 7, 8, 9] _ _ rfl (by kernel_rfl) rfl rfl rfl rfl (fun K hk => ?_) ?_
                rotate_left
                · go_step; exact hk
                refine Ord.St.fl2 (T' := ?_) 5 [6, 7, 8, 9] _ _ rfl (by kernel_rfl) rfl rfl rfl rfl (fun K w' hk => ?_) ?_
                rotate_left
                · go_step; exact hk
                refine Ord.St.fl2 (T' := ?_) 6 [7, 8, 9] _ _ rfl (by kernel_rfl) rfl rfl rfl rfl (fun K w' hk => ?_) ?_
                rotate_left
                · go_step; exact hk
                refine Ord.St.rd2 (T' := ?_) 7 [8, 9] _ _ rfl (by kernel_rfl) rfl rfl rfl rfl (fun K hk => ?_) ?_
                rotate_left
                · go_step; exact hk
                refine Ord.St.ef 8 [9] _ rfl (by kernel_rfl) (fun K hK => ?_)
                go_wp2_with fail
                refine HRR.out.mono ?_
                rintro e w5 ⟨rfl, hc5⟩
                have HC5 := Lib.hid hc5; clear hc5
                go_wp2_with fail
                refine ⟨rfl, hK _ _ ?_⟩; clear hK K
                refine Ord.St.fl2 (T' := ?_) 9 [] _ _ rfl (by kernel_rfl) rfl rfl rfl rfl (fun K w' hk => ?_) ?_
                rotate_left
                · go_step; exact hk
                refine Ord.St.nil ?_
                go_wp2_with fail
                go_roundw
                case rel => exact ⟨j + 1, by omega, by go_num, HCC.out.trans ((Ch.refl [] wr).drew.trans HC5.out (by simp)) (by simp), fun z hz => by
                  rw [HSN2.out] at hz
                  rcases List.mem_append.1 hz with hz | hz
                  · exact HIN.out z hz
                  · rw [List.mem_singleton.1 hz]; exact HQ.out⟩
                case measure => simp [intOf]; omega
            · have hno : badIn G xl = false := by
                rw [List.take_of_length_le (by rw [HM.out]; omega)] at hin
                unfold badIn
                rw [List.any_eq_false]
                intro r hr
                rw [hin r hr]; simp
              have HNO := Lib.hid hno; clear hno hin
              have HCC := Lib.hid hc; clear hc hcw
              go_wp2_with fail
              go_roundw
              case rel => exact ⟨k2 + 1, by omega, by go_num, HCC.out, fun z hz => by
                rw [HSN.out] at hz
                rcases List.mem_append.1 hz with hz | hz
                · exact HALL.out z hz
                · rw [List.mem_singleton.1 hz]; exact HNO.out⟩
              case measure => simp [intOf]; omega
        · have hno : (ws.map WV.l).any (badIn G) = false := by
            rw [List.take_of_length_le (by rw [HN.out]; omega)] at hall
            rw [List.any_eq_false]
            intro l hl
            obtain ⟨x, hx, rfl⟩ := List.mem_map.1 hl
            rw [hall x hx]; simp
          have HNO := Lib.hid hno; clear hno hall
          have HCC := Lib.hid hc; clear hc
          go_wp2_with fail
          go_ret
          exact ⟨by rw [HRES2.out, HNO.out]; rfl, HC0.out.trans HCC.out (by simp)⟩
end
end Go.Proofs.YtchledddgmbndaaGreat
namespace Go.Aig
/-- the other way round -/
def negS (R : Mk × Nat) : Mk × Nat := (R.1, neg R.2)
/-- the difference, of words that are right -/
def subW (n : Nat) (s : Mk) (x y : List Nat) : Mk × List Nat := sumW n s (x.zip (y.map neg)) 1
end Go.Aig
namespace Go.Proofs.YtchledddgmbndaaGreat
open Go.RowKit Go.Mem Go.Aig
section
variable {w W w1 W' : World} {rb0 rb cap : Nat} {s : Mk} {v : Value} {l : List Nat}
theorem RSt.outL (h : RSt w W rb0 rb cap s v l) {R : Mk × List Nat} {rb' cap' : Nat} {a : Option Addr} {c : Nat} (hr : RG w1 rb' cap' R.1.1) (hc : Ch [] W w1) (hf : rb' = rb ∨ W.heap.size ≤ rb') (hrow : row w1 3 1 (.slice a R.2.length c) R.2.length (intCells (natInts R.2))) (hown : ∀ q, (Value.slice a R.2.length c).ownBlock = some q → W.heap.size ≤ q ∧ q ≠ rb')
    (hW : W' = ((w1.setCell ⟨w.heap.size + 1, 0, none⟩ (.int .i64 R.1.1.most)).setCell ⟨w.heap.size + 1, 1, none⟩ (.slice (some ⟨rb', 0, none⟩) R.1.1.nodes.length cap')).setCell ⟨w.heap.size + 1, 2, none⟩ (.int .i64 R.1.2)) :
    LTo w rb0 R (.returned (.tuple #[.agg #[.int .i64 R.1.1.most, .slice (some ⟨rb', 0, none⟩) R.1.1.nodes.length cap', .int .i64 R.1.2], .slice a R.2.length c])) W' := by
  have hcs := set3_ch hW
  have hfr := h.fr
  have hl0 := h.low
  have hlt := h.lt
  refine ⟨rb', cap', a, c, rfl, hr.ch hcs (by simp; omega), (h.ch.trans hc (by simp)).trans hcs (fun k hk => .inr (by simp at hk; omega)), by omega, hrow.ch hcs (fun k hk => ?_), fun q hq => ?_⟩
  · have := (hown k hk).1; simp; omega
  · have := hown q hq; omega
theorem RSt.outS (h : RSt w W rb0 rb cap s v l) {R : Mk × Nat} {rb' cap' : Nat} (hr : RG w1 rb' cap' R.1.1) (hc : Ch [] W w1) (hf : rb' = rb ∨ W.heap.size ≤ rb')
    (hW : W' = ((w1.setCell ⟨w.heap.size + 1, 0, none⟩ (.int .i64 R.1.1.most)).setCell ⟨w.heap.size + 1, 1, none⟩ (.slice (some ⟨rb', 0, none⟩) R.1.1.nodes.length cap')).setCell ⟨w.heap.size + 1, 2, none⟩ (.int .i64 R.1.2)) :
    STo w rb0 R (.returned (.tuple #[.agg #[.int .i64 R.1.1.most, .slice (some ⟨rb', 0, none⟩) R.1.1.nodes.length cap', .int .i64 R.1.2], .int .i64 R.2])) W' := by
  have hcs := set3_ch hW
  have hfr := h.fr
  have hl0 := h.low
  have hlt := h.lt
  exact ⟨rb', cap', rfl, hr.ch hcs (by simp; omega), (h.ch.trans hc (by simp)).trans hcs (fun k hk => .inr (by simp at hk; omega)), by omega⟩
end
section
variable {w : World} {rb cap : Nat} {G : Gra}
set_option maxRecDepth 100000 in
set_option maxHeartbeats 4000000 in
theorem r23Add_is (h : RG w rb cap G) {xa ya : Option Addr} {X Y : List Nat} (n xc yc : Nat) (hX : Sl w xa (natInts X)) (hY : Sl w ya (natInts Y)) (hn : X.length = n) (hm : Y.length = n) (hn0 : n ≤ 1000) (hxr : ∀ r ∈ X, r < 2 * G.nodes.length) (hyr : ∀ r ∈ Y, r < 2 * G.nodes.length) :
    Calls Tryz.prog 125 #[.agg #[.int .i64 G.most, .slice (some ⟨rb, 0, none⟩) G.nodes.length cap, .int .i64 0], .slice xa n xc, .slice ya n yc] w (LTo w rb (sumW n (G, 0) (X.zip Y) 0)) := by
  have hpos := h.ok.wf.pos
  have hS := fun (W : World) (hW : Ch [] w W) => r23Sum_is (h.ch hW (by simp)) n xc yc (hX.ch hW (by simp)) (hY.ch hW (by simp)) hn hm hn0 hxr hyr (c0 := 0) (by omega)
  generalize sumW n (G, 0) (X.zip Y) 0 = R at *
  obtain ⟨⟨G1, q1⟩, l1⟩ := R
  have HS := Lib.hid hS; clear hS
  have H := Lib.hid h; clear h hX hY hn hm hxr hyr
  go_enter Tryz.func125, Tryz.ntmps125
  go_wp2_with fail
  refine calls_named fun W hW => ?_
  have hst := RSt.start H.out hW rfl
  clear hW
  refine (HS.out W hst.ch).mono ?_
  rintro e w1 ⟨rb', cap', a, c, rfl, hrg, hch, hfr, hrow, hown⟩
  have b8 := hst.b8.ch hch (by simp)
  have z0 := b8.cell (i := 0) rfl
  have z1 := b8.cell (i := 1) rfl
  have z2 := b8.cell (i := 2) rfl
  have f0 := b8.frozen (i := 0)
  have f1 := b8.frozen (i := 1)
  have f2 := b8.frozen (i := 2)
  have hl8 := b8.lt
  have HST := Lib.hid hst; clear hst b8
  have HRG := Lib.hid hrg; clear hrg
  have HCH := Lib.hid hch; clear hch
  have HROW := Lib.hid hrow; clear hrow
  have HOWN := Lib.hid hown; clear hown
  go_wp2_with fail
  refine bodyPost_ret (v := .tuple #[.agg #[.int .i64 G1.most, .slice (some ⟨rb', 0, none⟩) G1.nodes.length cap', .int .i64 q1], .slice a l1.length c]) (by simp [results, Tryz.results125, go_sem, z0, z1, z2]) rfl ?_
  exact HST.out.outL (R := ((G1, q1), l1)) HRG.out HCH.out hfr HROW.out HOWN.out rfl
set_option maxRecDepth 100000 in
set_option maxHeartbeats 4000000 in
theorem r23Sub_is (h : RG w rb cap G) {xa ya : Option Addr} {X Y : List Nat} (n xc yc : Nat) (hX : Sl w xa (natInts X)) (hY : Sl w ya (natInts Y)) (hn : X.length = n) (hm : Y.length = n) (hn0 : n ≤ 1000) (hxr : ∀ r ∈ X, r < 2 * G.nodes.length) (hyr : ∀ r ∈ Y, r < 2 * G.nodes.length) :
    Calls Tryz.prog 126 #[.agg #[.int .i64 G.most, .slice (some ⟨rb, 0, none⟩) G.nodes.length cap, .int .i64 0], .slice xa n xc, .slice ya n yc] w (LTo w rb (subW n (G, 0) X Y)) := by
  have hpos := h.ok.wf.pos
  have hsm := h.ok.small
  have hN := fun (W : World) (hW : Ch [] w W) => r23Not_is n yc hm (by omega) (hY.ch hW (by simp)) (fun r hr => by have := hyr r hr; omega)
  have hS := fun (W : World) (hW : Ch [] w W) (za : Option Addr) (zc : Nat) (hZ : Sl W za (natInts (Y.map neg))) => r23Sum_is (h.ch hW (by simp)) n xc zc (hX.ch hW (by simp)) hZ hn (by simp [hm]) hn0 hxr (fun r hr => by obtain ⟨z, hz, rfl⟩ := List.mem_map.1 hr; exact neg_lt (hyr z hz)) (c0 := 1) (by omega)
  unfold subW
  generalize sumW n (G, 0) (X.zip (Y.map neg)) 1 = R at *
  obtain ⟨⟨G1, q1⟩, l1⟩ := R
  have HN := Lib.hid hN; clear hN
  have HS := Lib.hid hS; clear hS
  have H := Lib.hid h; clear h hX hY hn hm hxr hyr
  go_enter Tryz.func126, Tryz.ntmps126
  go_upto_region 1 with fail
  refine wp_alw ?_
  intro W hW
  have hst := RSt.start H.out hW rfl
  clear hW
  have HST := Lib.hid hst; clear hst
  have hcur0 := (Ch.refl [] W).drew
  refine Ord.St.door (fun w' => Ch [] W w') [.ho, .fl, .fl, .ef, .ef, .fl, .fl, .ef, .fl] [0, 0, 0, 4, 15, 31, 31, 127, 255] [0, 1, 2, 3, 4, 5, 6, 7, 8] mixed (by kernel_rfl) rfl ?_
  refine Ord.St.ho2 (T' := ?_) 0 [1, 2, 3, 4, 5, 6, 7, 8] _ _ rfl (by kernel_rfl) rfl rfl rfl rfl ?_ (fun K w' hw' hk => ?_) ?_
  rotate_left
  · exact hcur0
  · have hb4 := (HST.out.same hw').b4; have y0 := hb4.cell (i := 0) rfl; have y1 := hb4.cell (i := 1) rfl; have y2 := hb4.cell (i := 2) rfl; go_step; exact hk
  refine Ord.St.fl2 (T' := ?_) 1 [2, 3, 4, 5, 6, 7, 8] _ _ rfl (by kernel_rfl) rfl rfl rfl rfl (fun K w' hk => ?_) ?_
  rotate_left
  · go_step; exact hk
  refine Ord.St.fl2 (T' := ?_) 2 [3, 4, 5, 6, 7, 8] _ _ rfl (by kernel_rfl) rfl rfl rfl rfl (fun K w' hk => ?_) ?_
  rotate_left
  · go_step; exact hk
  refine Ord.St.efC 3 [4, 5, 6, 7, 8] _ rfl (by kernel_rfl) (fun K hK => ?_)
  go_wp2_with fail
  refine (HN.out _ (HST.out.ch.trans hcur0 (by simp))).mono ?_
  rintro e w2 ⟨v, rfl, hro, hlo, hc2⟩
  have hcur : Ch [] W w2 := hcur0.trans hc2 (by simp)
  obtain ⟨na, nc, rfl⟩ := row.shape hro
  have hsl := Sl.of_ints hro (by omega)
  have HSL := Lib.hid hsl; clear hsl hro hlo hc2
  go_wp2_with fail
  refine ⟨rfl, hK _ _ ?_ ?_⟩
  · exact hcur
  clear hK K
  refine Ord.St.ef 4 [5, 6, 7, 8] _ rfl (by kernel_rfl) (fun K hK => ?_)
  go_wp2_with fail
  refine (HS.out _ (HST.out.ch.trans hcur (by simp)) na nc HSL.out).mono ?_
  rintro e w1 ⟨rb', cap', a, c, rfl, hrg, hch, hfr, hrow, hown⟩
  have b8 := (HST.out.b8.ch hcur (by simp)).ch hch (by simp)
  have z0 := b8.cell (i := 0) rfl
  have z1 := b8.cell (i := 1) rfl
  have z2 := b8.cell (i := 2) rfl
  have f0 := b8.frozen (i := 0)
  have f1 := b8.frozen (i := 1)
  have f2 := b8.frozen (i := 2)
  have hl8 := b8.lt
  have hzz := hcur.size
  have HRG := Lib.hid hrg; clear hrg b8
  have HCH := Lib.hid (hcur.trans hch (by simp)); clear hch
  have HROW := Lib.hid hrow; clear hrow
  have HOWN := Lib.hid hown; clear hown
  go_wp2_with fail
  refine ⟨rfl, hK _ _ ?_⟩; clear hK K
  refine Ord.St.fl2 (T' := ?_) 5 [6, 7, 8] _ _ rfl (by kernel_rfl) rfl rfl rfl rfl (fun K w' hk => ?_) ?_
  rotate_left
  · go_step; exact hk
  refine Ord.St.fl2 (T' := ?_) 6 [7, 8] _ _ rfl (by kernel_rfl) rfl rfl rfl rfl (fun K w' hk => ?_) ?_
  rotate_left
  · go_step; exact hk
  refine Ord.St.ef 7 [8] _ rfl (by kernel_rfl) (fun K hK => ?_)
  go_wp2_with fail
  refine ⟨rfl, hK _ _ ?_⟩; clear hK K
  refine Ord.St.fl2 (T' := ?_) 8 [] _ _ rfl (by kernel_rfl) rfl rfl rfl rfl (fun K w' hk => ?_) ?_
  rotate_left
  · go_step; exact hk
  refine Ord.St.nil ?_
  go_wp2_with fail
  refine bodyPost_ret (v := .tuple #[.agg #[.int .i64 G1.most, .slice (some ⟨rb', 0, none⟩) G1.nodes.length cap', .int .i64 q1], .slice a l1.length c]) (by simp [results, Tryz.results126, go_sem, z0, z1, z2]) rfl ?_
  exact HST.out.outL (R := ((G1, q1), l1)) HRG.out HCH.out (by omega) HROW.out (fun q hq => by have := HOWN.out q hq; omega) rfl
set_option maxRecDepth 100000 in
set_option maxHeartbeats 4000000 in
theorem r23Neg_is (h : RG w rb cap G) {ya : Option Addr} {Y : List Nat} (n yc : Nat) (hY : Sl w ya (natInts Y)) (hm : Y.length = n) (hn0 : n ≤ 17) (hyr : ∀ r ∈ Y, r < 2 * G.nodes.length) :
    Calls Tryz.prog 123 #[.agg #[.int .i64 G.most, .slice (some ⟨rb, 0, none⟩) G.nodes.length cap, .int .i64 0], .slice ya n yc] w (LTo w rb (subW n (G, 0) (List.replicate n 0) Y)) := by
  have hpos := h.ok.wf.pos
  have hK := fun (W : World) => r23Const_is (w := W) 0 (by omega) n hn0
  have hr0 : refsCells (rConstN 0 n) = intCells (natInts (List.replicate n 0)) := by
    rw [refs_natInts]
    congr 2
    rw [List.eq_replicate_iff]
    refine ⟨by simp [rConstN], fun b hb => ?_⟩
    unfold rConstN at hb
    obtain ⟨i, _, rfl⟩ := List.mem_map.1 hb
    simp
  rw [hr0] at hK
  have hS := fun (W : World) (hW : Ch [] w W) (za : Option Addr) (zc : Nat) (hZ : Sl W za (natInts (List.replicate n 0))) => r23Sub_is (h.ch hW (by simp)) n zc yc hZ (hY.ch hW (by simp)) (by simp) hm (by omega) (fun r hr => by rw [List.mem_replicate] at hr; omega) hyr
  generalize subW n (G, 0) (List.replicate n 0) Y = R at *
  obtain ⟨⟨G1, q1⟩, l1⟩ := R
  have HN := Lib.hid hK; clear hK
  have HS := Lib.hid hS; clear hS
  have H := Lib.hid h; clear h hY hm hyr hr0
  go_enter Tryz.func123, Tryz.ntmps123
  go_upto_region 1 with fail
  refine wp_alw ?_
  intro W hW
  have hst := RSt.start H.out hW rfl
  clear hW
  have HST := Lib.hid hst; clear hst
  have hcur0 := (Ch.refl [] W).drew
  refine Ord.St.door (fun w' => Ch [] W w') [.ho, .fl, .rd, .ef, .fl, .ef, .fl, .fl, .ef, .fl] [0, 0, 2, 6, 0, 31, 63, 63, 255, 511] [0, 1, 2, 3, 4, 5, 6, 7, 8, 9] mixed (by kernel_rfl) rfl ?_
  refine Ord.St.ho2 (T' := ?_) 0 [1, 2, 3, 4, 5, 6, 7, 8, 9] _ _ rfl (by kernel_rfl) rfl rfl rfl rfl ?_ (fun K w' hw' hk => ?_) ?_
  rotate_left
  · exact hcur0
  · have hb4 := (HST.out.same hw').b4; have y0 := hb4.cell (i := 0) rfl; have y1 := hb4.cell (i := 1) rfl; have y2 := hb4.cell (i := 2) rfl; go_step; exact hk
  refine Ord.St.fl2 (T' := ?_) 1 [2, 3, 4, 5, 6, 7, 8, 9] _ _ rfl (by kernel_rfl) rfl rfl rfl rfl (fun K w' hk => ?_) ?_
  rotate_left
  · go_step; exact hk
  refine Ord.St.rd2 (T' := ?_) 2 [3, 4, 5, 6, 7, 8, 9] _ _ rfl (by kernel_rfl) rfl rfl rfl rfl (fun K hk => ?_) ?_
  rotate_left
  · go_step; exact hk
  refine Ord.St.fl2 (T' := ?_) 4 [3, 5, 6, 7, 8, 9] _ _ rfl (by kernel_rfl) rfl rfl rfl rfl (fun K w' hk => ?_) ?_
  rotate_left
  · go_step; exact hk
  refine Ord.St.efC 3 [5, 6, 7, 8, 9] _ rfl (by kernel_rfl) (fun K hK => ?_)
  go_wp2_with fail
  refine (HN.out _).mono ?_
  rintro e w2 ⟨v, rfl, hro, hlo, hc2⟩
  have hcur : Ch [] W w2 := hcur0.trans hc2 (by simp)
  obtain ⟨na, nc, rfl⟩ := row.shape hro
  have hsl := Sl.of_ints hro (by omega)
  have HSL := Lib.hid hsl; clear hsl hro hlo hc2
  go_wp2_with fail
  refine ⟨rfl, hK _ _ ?_ ?_⟩
  · exact hcur
  clear hK K
  refine Ord.St.ef 5 [6, 7, 8, 9] _ rfl (by kernel_rfl) (fun K hK => ?_)
  go_wp2_with fail
  refine (HS.out _ (HST.out.ch.trans hcur (by simp)) na nc HSL.out).mono ?_
  rintro e w1 ⟨rb', cap', a, c, rfl, hrg, hch, hfr, hrow, hown⟩
  have b8 := (HST.out.b8.ch hcur (by simp)).ch hch (by simp)
  have z0 := b8.cell (i := 0) rfl
  have z1 := b8.cell (i := 1) rfl
  have z2 := b8.cell (i := 2) rfl
  have f0 := b8.frozen (i := 0)
  have f1 := b8.frozen (i := 1)
  have f2 := b8.frozen (i := 2)
  have hl8 := b8.lt
  have hzz := hcur.size
  have HRG := Lib.hid hrg; clear hrg b8
  have HCH := Lib.hid (hcur.trans hch (by simp)); clear hch
  have HROW := Lib.hid hrow; clear hrow
  have HOWN := Lib.hid hown; clear hown
  go_wp2_with fail
  refine ⟨rfl, hK _ _ ?_⟩; clear hK K
  refine Ord.St.fl2 (T' := ?_) 6 [7, 8, 9] _ _ rfl (by kernel_rfl) rfl rfl rfl rfl (fun K w' hk => ?_) ?_
  rotate_left
  · go_step; exact hk
  refine Ord.St.fl2 (T' := ?_) 7 [8, 9] _ _ rfl (by kernel_rfl) rfl rfl rfl rfl (fun K w' hk => ?_) ?_
  rotate_left
  · go_step; exact hk
  refine Ord.St.ef 8 [9] _ rfl (by kernel_rfl) (fun K hK => ?_)
  go_wp2_with fail
  refine ⟨rfl, hK _ _ ?_⟩; clear hK K
  refine Ord.St.fl2 (T' := ?_) 9 [] _ _ rfl (by kernel_rfl) rfl rfl rfl rfl (fun K w' hk => ?_) ?_
  rotate_left
  · go_step; exact hk
  refine Ord.St.nil ?_
  go_wp2_with fail
  refine bodyPost_ret (v := .tuple #[.agg #[.int .i64 G1.most, .slice (some ⟨rb', 0, none⟩) G1.nodes.length cap', .int .i64 q1], .slice a l1.length c]) (by simp [results, Tryz.results123, go_sem, z0, z1, z2]) rfl ?_
  exact HST.out.outL (R := ((G1, q1), l1)) HRG.out HCH.out (by omega) HROW.out (fun q hq => by have := HOWN.out q hq; omega) rfl
set_option maxRecDepth 100000 in
set_option maxHeartbeats 4000000 in
theorem r23Ne_is (h : RG w rb cap G) {xa ya : Option Addr} {X Y : List Nat} (n xc yc : Nat) (hX : Sl w xa (natInts X)) (hY : Sl w ya (natInts Y)) (hn : X.length = n) (hm : Y.length = n) (hn0 : n ≤ 1000) (hxr : ∀ r ∈ X, r < 2 * G.nodes.length) (hyr : ∀ r ∈ Y, r < 2 * G.nodes.length) :
    Calls Tryz.prog 128 #[.agg #[.int .i64 G.most, .slice (some ⟨rb, 0, none⟩) G.nodes.length cap, .int .i64 0], .slice xa n xc, .slice ya n yc] w (STo w rb (neF (G, 0) (X.zip Y))) := by
  have hS := fun (W : World) (hW : Ch [] w W) => r23Each10_is (h.ch hW (by simp)) n xc yc (hX.ch hW (by simp)) (hY.ch hW (by simp)) hn hm hn0 hxr hyr
  have hlk := eachF_lok h.ok full_xor (X.zip Y) (fun p hp => ⟨hxr _ (List.of_mem_zip hp).1, hyr _ (List.of_mem_zip hp).2⟩)
  have hll : (eachF (rop rXor) (G, 0) (X.zip Y)).2.length = n := by rw [eachF_len', List.length_zip, hn, hm]; omega
  have hne : neF (G, 0) (X.zip Y) = rstep (eachF (rop rXor) (G, 0) (X.zip Y)).1 (rAny (eachF (rop rXor) (G, 0) (X.zip Y)).1.1 (eachF (rop rXor) (G, 0) (X.zip Y)).2) := rfl
  rw [hne]
  clear hne
  generalize eachF (rop rXor) (G, 0) (X.zip Y) = R at *
  obtain ⟨⟨G1, q1⟩, l1⟩ := R
  have hA := fun (W : World) (rb1 cap1 : Nat) (hr : RG W rb1 cap1 G1) (a : Option Addr) (c : Nat) (hs : Sl W a (natInts l1)) => r23Any_is (q := q1) hr l1.length c rfl hs hlk.lt (by simp only at hll; omega)
  simp only
  generalize rstep (G1, q1) (rAny G1 l1) = R2 at *
  obtain ⟨⟨G2, q2⟩, p2⟩ := R2
  have HS := Lib.hid hS; clear hS
  have HA := Lib.hid hA; clear hA
  have H := Lib.hid h; clear h hX hY hn hm hxr hyr hlk
  have hl1 : l1.length ≤ 1000 := by simp only at hll; omega
  clear hll
  go_enter Tryz.func128, Tryz.ntmps128
  go_wp2_with fail
  refine calls_named fun W hW => ?_
  have hst := RSt.start H.out hW rfl
  clear hW
  refine (HS.out W hst.ch).mono ?_
  rintro e w1 ⟨rb', cap', a, c, rfl, hrg, hch, hfr, hrow, hown⟩
  simp only at hrow hown
  have hsl := Sl.of_ints hrow (by omega)
  have HST := Lib.hid hst; clear hst
  have HRG := Lib.hid hrg; clear hrg
  have HCH := Lib.hid hch; clear hch
  have HSL := Lib.hid hsl; clear hsl hrow hown
  go_upto_region 2 with fail
  refine wp_alw ?_
  intro W8 hW8
  have hb8 : blk W8 w1.heap.size [.int .i64 G1.most, .slice (some ⟨rb', 0, none⟩) G1.nodes.length cap', .int .i64 q1] := by rw [hW8]; exact blk.new' _ _ rfl
  have hcA : Ch [] w1 W8 := by rw [hW8]; exact (Ch.refl _ _).alloc _
  have hc8 : Ch [] W W8 := HCH.out.trans hcA (by simp)
  have hrg8 := HRG.out.ch hcA (by simp)
  have hA8 := HA.out W8 rb' cap' hrg8 a c (HSL.out.ch hcA (by simp))
  clear hW8 HRG hcA HA hrg8
  have x0 := hb8.cell (i := 0) rfl
  have x1 := hb8.cell (i := 1) rfl
  have x2 := hb8.cell (i := 2) rfl
  have HA8 := Lib.hid hA8; clear hA8 hb8
  have HC8 := Lib.hid hc8; clear hc8
  go_wp2_with fail
  refine HA8.out.mono ?_
  rintro e w9 ⟨rb2, cap2, rfl, hrg2, hch2, hfr2⟩
  have hfrr : rb2 = rb ∨ W.heap.size ≤ rb2 := by have := HC8.out.size; rcases hfr2 with e | e; (rcases hfr with e2 | e2; left; omega; right; omega); (right; omega)
  have hc9 := HC8.out.trans hch2 (by simp)
  have b8 := HST.out.b8.ch hc9 (by simp)
  have z0 := b8.cell (i := 0) rfl
  have z1 := b8.cell (i := 1) rfl
  have z2 := b8.cell (i := 2) rfl
  have f0 := b8.frozen (i := 0)
  have f1 := b8.frozen (i := 1)
  have f2 := b8.frozen (i := 2)
  have hl8 := b8.lt
  have HRG2 := Lib.hid hrg2; clear hrg2 b8
  have HC9 := Lib.hid hc9; clear hc9 hch2 x0 x1 x2
  go_wp2_with fail
  refine bodyPost_ret (v := .tuple #[.agg #[.int .i64 G2.most, .slice (some ⟨rb2, 0, none⟩) G2.nodes.length cap2, .int .i64 q2], .int .i64 p2]) (by simp [results, Tryz.results128, go_sem, z0, z1, z2]) rfl ?_
  exact HST.out.outS (R := ((G2, q2), p2)) HRG2.out HC9.out hfrr rfl
set_option maxRecDepth 100000 in
set_option maxHeartbeats 4000000 in
theorem r23Eq_is (h : RG w rb cap G) {xa ya : Option Addr} {X Y : List Nat} (n xc yc : Nat) (hX : Sl w xa (natInts X)) (hY : Sl w ya (natInts Y)) (hn : X.length = n) (hm : Y.length = n) (hn0 : n ≤ 1000) (hxr : ∀ r ∈ X, r < 2 * G.nodes.length) (hyr : ∀ r ∈ Y, r < 2 * G.nodes.length) (hp : (neF (G, 0) (X.zip Y)).2 ≤ 1000000) :
    Calls Tryz.prog 127 #[.agg #[.int .i64 G.most, .slice (some ⟨rb, 0, none⟩) G.nodes.length cap, .int .i64 0], .slice xa n xc, .slice ya n yc] w (STo w rb (negS (neF (G, 0) (X.zip Y)))) := by
  have hS := fun (W : World) (hW : Ch [] w W) => r23Ne_is (h.ch hW (by simp)) n xc yc (hX.ch hW (by simp)) (hY.ch hW (by simp)) hn hm hn0 hxr hyr
  unfold negS
  generalize neF (G, 0) (X.zip Y) = R at *
  obtain ⟨⟨G1, q1⟩, p1⟩ := R
  simp only at hp
  have hN := fun (W : World) => rNot_is W p1 (by omega)
  have HN := Lib.hid hN; clear hN
  have HS := Lib.hid hS; clear hS
  have H := Lib.hid h; clear h hX hY hn hm hxr hyr
  go_enter Tryz.func127, Tryz.ntmps127
  go_wp2_with fail
  refine calls_named fun W hW => ?_
  have hst := RSt.start H.out hW rfl
  clear hW
  refine (HS.out W hst.ch).mono ?_
  rintro e w1 ⟨rb', cap', rfl, hrg, hch, hfr⟩
  have HST := Lib.hid hst; clear hst
  have HRG := Lib.hid hrg; clear hrg
  have HCH := Lib.hid hch; clear hch
  go_upto_region 2 with fail
  refine wp_alw ?_
  intro W8 hW8
  have hb8 : blk W8 w1.heap.size [.int .i64 G1.most, .slice (some ⟨rb', 0, none⟩) G1.nodes.length cap', .int .i64 q1] := by rw [hW8]; exact blk.new' _ _ rfl
  have hcA : Ch [] w1 W8 := by rw [hW8]; exact (Ch.refl _ _).alloc _
  have hc8 : Ch [] W W8 := HCH.out.trans hcA (by simp)
  have hrg8 := HRG.out.ch hcA (by simp)
  clear hW8 HRG hcA
  have x0 := hb8.cell (i := 0) rfl
  have x1 := hb8.cell (i := 1) rfl
  have x2 := hb8.cell (i := 2) rfl
  have b8 := HST.out.b8.ch hc8 (by simp)
  have z0 := b8.cell (i := 0) rfl
  have z1 := b8.cell (i := 1) rfl
  have z2 := b8.cell (i := 2) rfl
  have f0 := b8.frozen (i := 0)
  have f1 := b8.frozen (i := 1)
  have f2 := b8.frozen (i := 2)
  have hl8 := b8.lt
  have HRG2 := Lib.hid hrg8; clear hrg8 b8 hb8
  have HC9 := Lib.hid hc8; clear hc8
  go_wp2_with fail
  refine Ord.St.door (fun _ => True) [.rd, .fl, .fl, .ef, .fl] [0, 0, 2, 7, 15] [0, 1, 2, 3, 4] mixed (by kernel_rfl) rfl ?_
  refine Ord.St.rd2 (T' := ?_) 0 [1, 2, 3, 4] _ _ rfl (by kernel_rfl) rfl rfl rfl rfl (fun K hk => ?_) ?_
  rotate_left
  · go_step; exact hk
  refine Ord.St.fl2 (T' := ?_) 1 [2, 3, 4] _ _ rfl (by kernel_rfl) rfl rfl rfl rfl (fun K w' hk => ?_) ?_
  rotate_left
  · go_step; exact hk
  refine Ord.St.fl2 (T' := ?_) 2 [3, 4] _ _ rfl (by kernel_rfl) rfl rfl rfl rfl (fun K w' hk => ?_) ?_
  rotate_left
  · go_step; refine (HN.out _).mono ?_; rintro e w'' ⟨rfl, rfl⟩; exact hk
  refine Ord.St.ef 3 [4] _ rfl (by kernel_rfl) (fun K hK => ?_)
  go_wp2_with fail
  refine ⟨rfl, hK _ _ ?_⟩; clear hK K
  refine Ord.St.fl2 (T' := ?_) 4 [] _ _ rfl (by kernel_rfl) rfl rfl rfl rfl (fun K w' hk => ?_) ?_
  rotate_left
  · go_step; exact hk
  refine Ord.St.nil ?_
  go_wp2_with fail
  refine bodyPost_ret (v := .tuple #[.agg #[.int .i64 G1.most, .slice (some ⟨rb', 0, none⟩) G1.nodes.length cap', .int .i64 q1], .int .i64 (neg p1 : Nat)]) (by simp [results, Tryz.results127, go_sem, z0, z1, z2]) rfl ?_
  exact HST.out.outS (R := ((G1, q1), neg p1)) (HRG2.out.ch (Ch.refl [] _).drew (by simp)) HC9.out.drew hfr rfl
set_option maxRecDepth 100000 in
set_option maxHeartbeats 4000000 in
theorem r23Le_is (h : RG w rb cap G) {xa ya : Option Addr} {X Y : List Nat} (n xc yc : Nat) (hX : Sl w xa (natInts X)) (hY : Sl w ya (natInts Y)) (hn : X.length = n) (hm : Y.length = n) (hn0 : n ≤ 1000) (hxr : ∀ r ∈ X, r < 2 * G.nodes.length) (hyr : ∀ r ∈ Y, r < 2 * G.nodes.length) (hp : (ltF (G, 0) (Y.zip X)).2 ≤ 1000000) :
    Calls Tryz.prog 130 #[.agg #[.int .i64 G.most, .slice (some ⟨rb, 0, none⟩) G.nodes.length cap, .int .i64 0], .slice xa n xc, .slice ya n yc] w (STo w rb (negS (ltF (G, 0) (Y.zip X)))) := by
  have hS := fun (W : World) (hW : Ch [] w W) => r23Lt_is (h.ch hW (by simp)) n yc xc (hY.ch hW (by simp)) (hX.ch hW (by simp)) hm hn hn0 hyr hxr
  unfold negS
  generalize ltF (G, 0) (Y.zip X) = R at *
  obtain ⟨⟨G1, q1⟩, p1⟩ := R
  simp only at hp
  have hN := fun (W : World) => rNot_is W p1 (by omega)
  have HN := Lib.hid hN; clear hN
  have HS := Lib.hid hS; clear hS
  have H := Lib.hid h; clear h hX hY hn hm hxr hyr
  go_enter Tryz.func130, Tryz.ntmps130
  go_wp2_with fail
  refine calls_named fun W hW => ?_
  have hst := RSt.start H.out hW rfl
  clear hW
  refine (HS.out W hst.ch).mono ?_
  rintro e w1 ⟨rb', cap', rfl, hrg, hch, hfr⟩
  have HST := Lib.hid hst; clear hst
  have HRG := Lib.hid hrg; clear hrg
  have HCH := Lib.hid hch; clear hch
  go_upto_region 2 with fail
  refine wp_alw ?_
  intro W8 hW8
  have hb8 : blk W8 w1.heap.size [.int .i64 G1.most, .slice (some ⟨rb', 0, none⟩) G1.nodes.length cap', .int .i64 q1] := by rw [hW8]; exact blk.new' _ _ rfl
  have hcA : Ch [] w1 W8 := by rw [hW8]; exact (Ch.refl _ _).alloc _
  have hc8 : Ch [] W W8 := HCH.out.trans hcA (by simp)
  have hrg8 := HRG.out.ch hcA (by simp)
  clear hW8 HRG hcA
  have x0 := hb8.cell (i := 0) rfl
  have x1 := hb8.cell (i := 1) rfl
  have x2 := hb8.cell (i := 2) rfl
  have b8 := HST.out.b8.ch hc8 (by simp)
  have z0 := b8.cell (i := 0) rfl
  have z1 := b8.cell (i := 1) rfl
  have z2 := b8.cell (i := 2) rfl
  have f0 := b8.frozen (i := 0)
  have f1 := b8.frozen (i := 1)
  have f2 := b8.frozen (i := 2)
  have hl8 := b8.lt
  have HRG2 := Lib.hid hrg8; clear hrg8 b8 hb8
  have HC9 := Lib.hid hc8; clear hc8
  go_wp2_with fail
  refine Ord.St.door (fun _ => True) [.rd, .fl, .fl, .ef, .fl] [0, 0, 2, 7, 15] [0, 1, 2, 3, 4] mixed (by kernel_rfl) rfl ?_
  refine Ord.St.rd2 (T' := ?_) 0 [1, 2, 3, 4] _ _ rfl (by kernel_rfl) rfl rfl rfl rfl (fun K hk => ?_) ?_
  rotate_left
  · go_step; exact hk
  refine Ord.St.fl2 (T' := ?_) 1 [2, 3, 4] _ _ rfl (by kernel_rfl) rfl rfl rfl rfl (fun K w' hk => ?_) ?_
  rotate_left
  · go_step; exact hk
  refine Ord.St.fl2 (T' := ?_) 2 [3, 4] _ _ rfl (by kernel_rfl) rfl rfl rfl rfl (fun K w' hk => ?_) ?_
  rotate_left
  · go_step; refine (HN.out _).mono ?_; rintro e w'' ⟨rfl, rfl⟩; exact hk
  refine Ord.St.ef 3 [4] _ rfl (by kernel_rfl) (fun K hK => ?_)
  go_wp2_with fail
  refine ⟨rfl, hK _ _ ?_⟩; clear hK K
  refine Ord.St.fl2 (T' := ?_) 4 [] _ _ rfl (by kernel_rfl) rfl rfl rfl rfl (fun K w' hk => ?_) ?_
  rotate_left
  · go_step; exact hk
  refine Ord.St.nil ?_
  go_wp2_with fail
  refine bodyPost_ret (v := .tuple #[.agg #[.int .i64 G1.most, .slice (some ⟨rb', 0, none⟩) G1.nodes.length cap', .int .i64 q1], .int .i64 (neg p1 : Nat)]) (by simp [results, Tryz.results130, go_sem, z0, z1, z2]) rfl ?_
  exact HST.out.outS (R := ((G1, q1), neg p1)) (HRG2.out.ch (Ch.refl [] _).drew (by simp)) HC9.out.drew hfr rfl
end
end Go.Proofs.YtchledddgmbndaaGreat
namespace Go.Aig
/-- what the reference makes, of words that are right: a state, a word, a reference -/
def RF (k : Nat) (G : Gra) (X Y : List Nat) (n : Nat) : Mk × List Nat × Nat :=
  match k with
  | 0 => ((G, 0), X.map neg, 0)
  | 1 => ((subW X.length (G, 0) (List.replicate X.length 0) X).1, (subW X.length (G, 0) (List.replicate X.length 0) X).2, 0)
  | 2 => ((eachF (rop and) (G, 0) (X.zip Y)).1, (eachF (rop and) (G, 0) (X.zip Y)).2, 0)
  | 3 => ((eachF (rop rOr) (G, 0) (X.zip Y)).1, (eachF (rop rOr) (G, 0) (X.zip Y)).2, 0)
  | 4 => ((eachF (rop rXor) (G, 0) (X.zip Y)).1, (eachF (rop rXor) (G, 0) (X.zip Y)).2, 0)
  | 5 => ((sumW X.length (G, 0) (X.zip Y) 0).1, (sumW X.length (G, 0) (X.zip Y) 0).2, 0)
  | 6 => ((subW X.length (G, 0) X Y).1, (subW X.length (G, 0) X Y).2, 0)
  | 7 => ((negS (neF (G, 0) (X.zip Y))).1, [], (negS (neF (G, 0) (X.zip Y))).2)
  | 8 => ((neF (G, 0) (X.zip Y)).1, [], (neF (G, 0) (X.zip Y)).2)
  | 9 => ((ltF (G, 0) (X.zip Y)).1, [], (ltF (G, 0) (X.zip Y)).2)
  | 10 => ((negS (ltF (G, 0) (Y.zip X))).1, [], (negS (ltF (G, 0) (Y.zip X))).2)
  | 11 => ((Go.Aig.sAny (G, 0) X).1, [], (Go.Aig.sAny (G, 0) X).2)
  | _ => ((inF (G, 0) n).1, (inF (G, 0) n).2, 0)
/-- what is wrong with an act -/
def f23 (k : Nat) (G : Gra) (X Y : List Int) (N : Int) : Nat := if k = 12 then (if rightW N then 0 else 230) else chk G (if k < 2 ∨ k = 11 then [X] else [X, Y])
def fin23 (G : Gra) (R : Mk × List Nat × Nat) : Gra × List Nat × Nat × Nat := if R.1.2 ≠ 0 then (G, [], 0, R.1.2) else (R.1.1, R.2.1, R.2.2, 0)
/-- what an act leaves: a graph, a word, a reference, an error -/
def P23 (k : Nat) (G : Gra) (X Y : List Int) (N : Int) : Gra × List Nat × Nat × Nat := if f23 k G X Y N ≠ 0 then (G, [], 0, f23 k G X Y N) else fin23 G (RF k G (nats X) (nats Y) N.toNat)
theorem word_fin (G : Gra) (ws : List (List Int)) (R : Mk × List Nat) : (if chk G ws ≠ 0 then (G, [], 0, chk G ws) else fin23 G (R.1, R.2, 0)) = ((wordG G ws R).1, (wordG G ws R).2.1, 0, (wordG G ws R).2.2) := by
  unfold wordG fin23 wres
  split
  · rfl
  · split <;> rfl
theorem ref_fin (G : Gra) (ws : List (List Int)) (R : Mk × Nat) : (if chk G ws ≠ 0 then (G, [], 0, chk G ws) else fin23 G (R.1, [], R.2)) = ((refG G ws R).1, [], (refG G ws R).2.1, (refG G ws R).2.2) := by
  unfold refG fin23 rres
  split
  · rfl
  · split <;> rfl
theorem neg_fin (G : Gra) (ws : List (List Int)) (R : Mk × Nat) : (if chk G ws ≠ 0 then (G, [], 0, chk G ws) else fin23 G ((negS R).1, [], (negS R).2)) = ((negG (refG G ws R)).1, [], (negG (refG G ws R)).2.1, (negG (refG G ws R)).2.2) := by
  unfold refG fin23 rres negG negS
  split
  · rename_i h; simp only; first | done | rw [if_pos h]
  · simp only
    split
    · rename_i h; simp only; first | done | rw [if_pos h]
    · rfl
theorem in_fin (G : Gra) (X Y : List Int) (N : Int) : P23 12 G X Y N = ((inG G N).1, (inG G N).2.1, 0, (inG G N).2.2) := by
  unfold P23 f23 inG
  rw [if_pos rfl]
  cases h : rightW N
  · rfl
  · simp only [if_true, ne_eq, not_true_eq_false, if_false]
    unfold RF fin23 wres
    simp only
    split <;> rfl
theorem chk_swap {G : Gra} {X Y : List Int} : chk G [Y, X] = chk G [X, Y] := by
  have h1 : ([Y, X].any (badAs ([Y, X].headD []).length)) = ([X, Y].any (badAs ([X, Y].headD []).length)) := by
    rw [Bool.eq_iff_iff]
    unfold badAs
    simp only [List.headD_cons, List.any_cons, List.any_nil, Bool.or_false, Bool.or_eq_true, Bool.not_eq_true', bne_iff_ne, ne_eq]
    constructor
    · rintro ((h | h) | (h | h))
      · exact .inr (.inl h)
      · exact absurd trivial h
      · exact .inl (.inl h)
      · exact .inr (.inr (fun e => h e.symm))
    · rintro ((h | h) | (h | h))
      · exact .inr (.inl h)
      · exact absurd trivial h
      · exact .inl (.inl h)
      · exact .inr (.inr (fun e => h e.symm))
  have h2 : ([Y, X].any (badIn G)) = ([X, Y].any (badIn G)) := by simp [Bool.or_comm]
  unfold chk
  rw [h1, h2]
theorem chk_rep {G : Gra} (hG : Ok G) (X : List Int) : chk G [List.replicate X.length 0, X] = chk G [X] := by
  have hb : badIn G (List.replicate X.length (0 : Int)) = false := by
    unfold badIn
    rw [List.any_eq_false]
    intro r hr
    rw [(List.mem_replicate.1 hr).2]
    have := hG.wf.pos
    simp [right]; omega
  unfold chk
  simp only [List.any_cons, List.any_nil, Bool.or_false, List.headD_cons, hb, Bool.false_or, badAs, List.length_replicate, bne_self_eq_false, Bool.or_self]
theorem P23_word {k : Nat} {G : Gra} {X Y : List Int} {N : Int} (ws : List (List Int)) (R : Mk × List Nat) (hf : f23 k G X Y N = chk G ws) (hR : RF k G (nats X) (nats Y) N.toNat = (R.1, R.2, 0)) : P23 k G X Y N = ((wordG G ws R).1, (wordG G ws R).2.1, 0, (wordG G ws R).2.2) := by
  unfold P23; rw [hf, hR]; exact word_fin G ws R
theorem P23_ref {k : Nat} {G : Gra} {X Y : List Int} {N : Int} (ws : List (List Int)) (R : Mk × Nat) (hf : f23 k G X Y N = chk G ws) (hR : RF k G (nats X) (nats Y) N.toNat = (R.1, [], R.2)) : P23 k G X Y N = ((refG G ws R).1, [], (refG G ws R).2.1, (refG G ws R).2.2) := by
  unfold P23; rw [hf, hR]; exact ref_fin G ws R
theorem P23_neg {k : Nat} {G : Gra} {X Y : List Int} {N : Int} (ws : List (List Int)) (R : Mk × Nat) (hf : f23 k G X Y N = chk G ws) (hR : RF k G (nats X) (nats Y) N.toNat = ((negS R).1, [], (negS R).2)) : P23 k G X Y N = ((negG (refG G ws R)).1, [], (negG (refG G ws R)).2.1, (negG (refG G ws R)).2.2) := by
  unfold P23; rw [hf, hR]; exact neg_fin G ws R
theorem nats_rep (n : Nat) : nats (List.replicate n (0 : Int)) = List.replicate n 0 := by simp [nats]
theorem subG_sub (G : Gra) (X Y : List Int) : subG G X Y = wordG G [X, Y] (subW X.length (G, 0) (nats X) (nats Y)) := rfl
theorem P23_0 {G : Gra} (_hG : Ok G) (X Y : List Int) (N : Int) : P23 0 G X Y N = ((wordG G [X] ((G, 0), (nats X).map neg)).1, (wordG G [X] ((G, 0), (nats X).map neg)).2.1, 0, (wordG G [X] ((G, 0), (nats X).map neg)).2.2) := by
  exact P23_word [X] _ rfl rfl
theorem P23_1 {G : Gra} (hG : Ok G) (X Y : List Int) (N : Int) : P23 1 G X Y N = ((subG G (List.replicate X.length 0) X).1, (subG G (List.replicate X.length 0) X).2.1, 0, (subG G (List.replicate X.length 0) X).2.2) := by
  rw [subG_sub]
  refine P23_word _ _ (chk_rep hG X).symm ?_
  rw [nats_rep]
  unfold RF
  simp only [List.length_replicate, nats_len]
theorem P23_2 {G : Gra} (_hG : Ok G) (X Y : List Int) (N : Int) : P23 2 G X Y N = ((wordG G [X, Y] (eachF (rop and) (G, 0) ((nats X).zip (nats Y)))).1, (wordG G [X, Y] (eachF (rop and) (G, 0) ((nats X).zip (nats Y)))).2.1, 0, (wordG G [X, Y] (eachF (rop and) (G, 0) ((nats X).zip (nats Y)))).2.2) := by
  exact P23_word [X, Y] _ rfl rfl
theorem P23_3 {G : Gra} (_hG : Ok G) (X Y : List Int) (N : Int) : P23 3 G X Y N = ((wordG G [X, Y] (eachF (rop rOr) (G, 0) ((nats X).zip (nats Y)))).1, (wordG G [X, Y] (eachF (rop rOr) (G, 0) ((nats X).zip (nats Y)))).2.1, 0, (wordG G [X, Y] (eachF (rop rOr) (G, 0) ((nats X).zip (nats Y)))).2.2) := by
  exact P23_word [X, Y] _ rfl rfl
theorem P23_4 {G : Gra} (_hG : Ok G) (X Y : List Int) (N : Int) : P23 4 G X Y N = ((wordG G [X, Y] (eachF (rop rXor) (G, 0) ((nats X).zip (nats Y)))).1, (wordG G [X, Y] (eachF (rop rXor) (G, 0) ((nats X).zip (nats Y)))).2.1, 0, (wordG G [X, Y] (eachF (rop rXor) (G, 0) ((nats X).zip (nats Y)))).2.2) := by
  exact P23_word [X, Y] _ rfl rfl
theorem P23_5 {G : Gra} (_hG : Ok G) (X Y : List Int) (N : Int) : P23 5 G X Y N = ((wordG G [X, Y] (sumW X.length (G, 0) ((nats X).zip (nats Y)) 0)).1, (wordG G [X, Y] (sumW X.length (G, 0) ((nats X).zip (nats Y)) 0)).2.1, 0, (wordG G [X, Y] (sumW X.length (G, 0) ((nats X).zip (nats Y)) 0)).2.2) := by
  refine P23_word [X, Y] _ rfl ?_
  unfold RF
  simp only [nats_len]
  try rfl
theorem P23_6 {G : Gra} (_hG : Ok G) (X Y : List Int) (N : Int) : P23 6 G X Y N = ((wordG G [X, Y] (sumW X.length (G, 0) ((nats X).zip ((nats Y).map neg)) 1)).1, (wordG G [X, Y] (sumW X.length (G, 0) ((nats X).zip ((nats Y).map neg)) 1)).2.1, 0, (wordG G [X, Y] (sumW X.length (G, 0) ((nats X).zip ((nats Y).map neg)) 1)).2.2) := by
  refine P23_word [X, Y] _ rfl ?_
  unfold RF
  simp only [nats_len]
  try rfl
theorem P23_7 {G : Gra} (_hG : Ok G) (X Y : List Int) (N : Int) : P23 7 G X Y N = ((negG (refG G [X, Y] (neF (G, 0) ((nats X).zip (nats Y))))).1, [], (negG (refG G [X, Y] (neF (G, 0) ((nats X).zip (nats Y))))).2.1, (negG (refG G [X, Y] (neF (G, 0) ((nats X).zip (nats Y))))).2.2) := by
  exact P23_neg [X, Y] _ rfl rfl
theorem P23_8 {G : Gra} (_hG : Ok G) (X Y : List Int) (N : Int) : P23 8 G X Y N = ((refG G [X, Y] (neF (G, 0) ((nats X).zip (nats Y)))).1, [], (refG G [X, Y] (neF (G, 0) ((nats X).zip (nats Y)))).2.1, (refG G [X, Y] (neF (G, 0) ((nats X).zip (nats Y)))).2.2) := by
  exact P23_ref [X, Y] _ rfl rfl
theorem P23_9 {G : Gra} (_hG : Ok G) (X Y : List Int) (N : Int) : P23 9 G X Y N = ((refG G [X, Y] (ltF (G, 0) ((nats X).zip (nats Y)))).1, [], (refG G [X, Y] (ltF (G, 0) ((nats X).zip (nats Y)))).2.1, (refG G [X, Y] (ltF (G, 0) ((nats X).zip (nats Y)))).2.2) := by
  exact P23_ref [X, Y] _ rfl rfl
theorem P23_10 {G : Gra} (_hG : Ok G) (X Y : List Int) (N : Int) : P23 10 G X Y N = ((negG (refG G [Y, X] (ltF (G, 0) ((nats Y).zip (nats X))))).1, [], (negG (refG G [Y, X] (ltF (G, 0) ((nats Y).zip (nats X))))).2.1, (negG (refG G [Y, X] (ltF (G, 0) ((nats Y).zip (nats X))))).2.2) := by
  exact P23_neg [Y, X] _ chk_swap.symm rfl
theorem P23_11 {G : Gra} (_hG : Ok G) (X Y : List Int) (N : Int) : P23 11 G X Y N = ((refG G [X] (Go.Aig.sAny (G, 0) (nats X))).1, [], (refG G [X] (Go.Aig.sAny (G, 0) (nats X))).2.1, (refG G [X] (Go.Aig.sAny (G, 0) (nats X))).2.2) := by
  exact P23_ref [X] _ rfl rfl
theorem P23_12 {G : Gra} (_hG : Ok G) (X Y : List Int) (N : Int) : P23 12 G X Y N = ((inG G N).1, (inG G N).2.1, 0, (inG G N).2.2) := by
  exact in_fin G X Y N
end Go.Aig
namespace Go.Proofs.YtchledddgmbndaaGreat
open Go.RowKit Go.Mem Go.Aig
/-- what an act of the program leaves -/
def PTo (w : World) (g : Nat) (F : List Nat) (R : Gra × List Nat × Nat × Nat) (e : Ending) (w' : World) : Prop := ∃ v, e = .returned (.tuple #[v, .int .i64 R.2.2.1, .int .i64 R.2.2.2]) ∧ GVo w g R.1 [] F v R.2.1 w'
section
variable {w : World} {g : Nat} {G : Gra} {F : List Nat}
set_option maxRecDepth 100000 in
set_option maxHeartbeats 2000000 in
theorem program23_0 (h : GIn w g G F) {x y : WV} (hx : WVin w F x) (hy : WVin w F y) (kind : Nat) (hk : (kind : Int) % 13 = 0) (a1 : Option Addr) (n1 c1 : Nat) (a2 : Option Addr) (n2 c2 : Nat) (N : Int) :
    Calls Tryz.prog 40 #[.pointer (some ⟨g, 0, none⟩), .agg #[.int .u8 kind, .slice a1 n1 c1, .slice a2 n2 c2, .int .i64 N], x.val, y.val] w (PTo w g F (P23 0 G x.l y.l N)) := by
  rw [P23_0 h.ok]
  have hC := fun (W : World) (hW : Ch [] w W) => sNot_is (h.same hW (by simp)) (hx.ch hW)
  obtain ⟨xa, xl, xc⟩ := x
  obtain ⟨ya, yl, yc⟩ := y
  simp only [WV.val] at hC ⊢
  generalize wordG G [xl] ((G, 0), (nats xl).map neg) = R at *
  obtain ⟨G1, l1, e1⟩ := R
  have HK := Lib.hid hC; clear hC h hx hy
  go_enter Tryz.func40, Tryz.ntmps40
  go_wp2_with fail
  refine calls_named fun W hW => ?_
  have hc : Ch [] w W := by rw [hW]; exact (Ch.refl _ _).alloc _
  clear hW
  have HC := Lib.hid hc; clear hc
  refine (HK.out W HC.out).mono ?_
  rintro e w1 ⟨v, rfl, hv⟩
  obtain ⟨va, vc, rfl⟩ : ∃ a c, v = .slice a l1.length c := by obtain ⟨_, _, _, _, _, h5, _⟩ := hv; exact row.shape h5
  have HV := Lib.hid hv; clear hv
  go_wp2_with fail
  go_ret3
  exact ⟨_, rfl, GVo.since HC.out HV.out⟩
set_option maxRecDepth 100000 in
set_option maxHeartbeats 2000000 in
theorem program23_1 (h : GIn w g G F) {x y : WV} (hx : WVin w F x) (hy : WVin w F y) (kind : Nat) (hk : (kind : Int) % 13 = 1) (a1 : Option Addr) (n1 c1 : Nat) (a2 : Option Addr) (n2 c2 : Nat) (N : Int) :
    Calls Tryz.prog 40 #[.pointer (some ⟨g, 0, none⟩), .agg #[.int .u8 kind, .slice a1 n1 c1, .slice a2 n2 c2, .int .i64 N], x.val, y.val] w (PTo w g F (P23 1 G x.l y.l N)) := by
  rw [P23_1 h.ok]
  have hC := fun (W : World) (hW : Ch [] w W) => sNeg_is (h.same hW (by simp)) (hx.ch hW)
  obtain ⟨xa, xl, xc⟩ := x
  obtain ⟨ya, yl, yc⟩ := y
  simp only [WV.val] at hC ⊢
  generalize subG G (List.replicate xl.length 0) xl = R at *
  obtain ⟨G1, l1, e1⟩ := R
  have HK := Lib.hid hC; clear hC h hx hy
  go_enter Tryz.func40, Tryz.ntmps40
  go_wp2_with fail
  refine calls_named fun W hW => ?_
  have hc : Ch [] w W := by rw [hW]; exact (Ch.refl _ _).alloc _
  clear hW
  have HC := Lib.hid hc; clear hc
  refine (HK.out W HC.out).mono ?_
  rintro e w1 ⟨v, rfl, hv⟩
  obtain ⟨va, vc, rfl⟩ : ∃ a c, v = .slice a l1.length c := by obtain ⟨_, _, _, _, _, h5, _⟩ := hv; exact row.shape h5
  have HV := Lib.hid hv; clear hv
  go_wp2_with fail
  go_ret3
  exact ⟨_, rfl, GVo.since HC.out HV.out⟩
set_option maxRecDepth 100000 in
set_option maxHeartbeats 2000000 in
theorem program23_2 (h : GIn w g G F) {x y : WV} (hx : WVin w F x) (hy : WVin w F y) (kind : Nat) (hk : (kind : Int) % 13 = 2) (a1 : Option Addr) (n1 c1 : Nat) (a2 : Option Addr) (n2 c2 : Nat) (N : Int) :
    Calls Tryz.prog 40 #[.pointer (some ⟨g, 0, none⟩), .agg #[.int .u8 kind, .slice a1 n1 c1, .slice a2 n2 c2, .int .i64 N], x.val, y.val] w (PTo w g F (P23 2 G x.l y.l N)) := by
  rw [P23_2 h.ok]
  have hC := fun (W : World) (hW : Ch [] w W) => sAnd_is (h.same hW (by simp)) (hx.ch hW) (hy.ch hW)
  obtain ⟨xa, xl, xc⟩ := x
  obtain ⟨ya, yl, yc⟩ := y
  simp only [WV.val] at hC ⊢
  generalize wordG G [xl, yl] (eachF (rop and) (G, 0) ((nats xl).zip (nats yl))) = R at *
  obtain ⟨G1, l1, e1⟩ := R
  have HK := Lib.hid hC; clear hC h hx hy
  go_enter Tryz.func40, Tryz.ntmps40
  go_wp2_with fail
  refine calls_named fun W hW => ?_
  have hc : Ch [] w W := by rw [hW]; exact (Ch.refl _ _).alloc _
  clear hW
  have HC := Lib.hid hc; clear hc
  refine (HK.out W HC.out).mono ?_
  rintro e w1 ⟨v, rfl, hv⟩
  obtain ⟨va, vc, rfl⟩ : ∃ a c, v = .slice a l1.length c := by obtain ⟨_, _, _, _, _, h5, _⟩ := hv; exact row.shape h5
  have HV := Lib.hid hv; clear hv
  go_wp2_with fail
  go_ret3
  exact ⟨_, rfl, GVo.since HC.out HV.out⟩
set_option maxRecDepth 100000 in
set_option maxHeartbeats 2000000 in
theorem program23_3 (h : GIn w g G F) {x y : WV} (hx : WVin w F x) (hy : WVin w F y) (kind : Nat) (hk : (kind : Int) % 13 = 3) (a1 : Option Addr) (n1 c1 : Nat) (a2 : Option Addr) (n2 c2 : Nat) (N : Int) :
    Calls Tryz.prog 40 #[.pointer (some ⟨g, 0, none⟩), .agg #[.int .u8 kind, .slice a1 n1 c1, .slice a2 n2 c2, .int .i64 N], x.val, y.val] w (PTo w g F (P23 3 G x.l y.l N)) := by
  rw [P23_3 h.ok]
  have hC := fun (W : World) (hW : Ch [] w W) => sOr_is (h.same hW (by simp)) (hx.ch hW) (hy.ch hW)
  obtain ⟨xa, xl, xc⟩ := x
  obtain ⟨ya, yl, yc⟩ := y
  simp only [WV.val] at hC ⊢
  generalize wordG G [xl, yl] (eachF (rop rOr) (G, 0) ((nats xl).zip (nats yl))) = R at *
  obtain ⟨G1, l1, e1⟩ := R
  have HK := Lib.hid hC; clear hC h hx hy
  go_enter Tryz.func40, Tryz.ntmps40
  go_wp2_with fail
  refine calls_named fun W hW => ?_
  have hc : Ch [] w W := by rw [hW]; exact (Ch.refl _ _).alloc _
  clear hW
  have HC := Lib.hid hc; clear hc
  refine (HK.out W HC.out).mono ?_
  rintro e w1 ⟨v, rfl, hv⟩
  obtain ⟨va, vc, rfl⟩ : ∃ a c, v = .slice a l1.length c := by obtain ⟨_, _, _, _, _, h5, _⟩ := hv; exact row.shape h5
  have HV := Lib.hid hv; clear hv
  go_wp2_with fail
  go_ret3
  exact ⟨_, rfl, GVo.since HC.out HV.out⟩
set_option maxRecDepth 100000 in
set_option maxHeartbeats 2000000 in
theorem program23_4 (h : GIn w g G F) {x y : WV} (hx : WVin w F x) (hy : WVin w F y) (kind : Nat) (hk : (kind : Int) % 13 = 4) (a1 : Option Addr) (n1 c1 : Nat) (a2 : Option Addr) (n2 c2 : Nat) (N : Int) :
    Calls Tryz.prog 40 #[.pointer (some ⟨g, 0, none⟩), .agg #[.int .u8 kind, .slice a1 n1 c1, .slice a2 n2 c2, .int .i64 N], x.val, y.val] w (PTo w g F (P23 4 G x.l y.l N)) := by
  rw [P23_4 h.ok]
  have hC := fun (W : World) (hW : Ch [] w W) => sXor_is (h.same hW (by simp)) (hx.ch hW) (hy.ch hW)
  obtain ⟨xa, xl, xc⟩ := x
  obtain ⟨ya, yl, yc⟩ := y
  simp only [WV.val] at hC ⊢
  generalize wordG G [xl, yl] (eachF (rop rXor) (G, 0) ((nats xl).zip (nats yl))) = R at *
  obtain ⟨G1, l1, e1⟩ := R
  have HK := Lib.hid hC; clear hC h hx hy
  go_enter Tryz.func40, Tryz.ntmps40
  go_wp2_with fail
  refine calls_named fun W hW => ?_
  have hc : Ch [] w W := by rw [hW]; exact (Ch.refl _ _).alloc _
  clear hW
  have HC := Lib.hid hc; clear hc
  refine (HK.out W HC.out).mono ?_
  rintro e w1 ⟨v, rfl, hv⟩
  obtain ⟨va, vc, rfl⟩ : ∃ a c, v = .slice a l1.length c := by obtain ⟨_, _, _, _, _, h5, _⟩ := hv; exact row.shape h5
  have HV := Lib.hid hv; clear hv
  go_wp2_with fail
  go_ret3
  exact ⟨_, rfl, GVo.since HC.out HV.out⟩
set_option maxRecDepth 100000 in
set_option maxHeartbeats 2000000 in
theorem program23_5 (h : GIn w g G F) {x y : WV} (hx : WVin w F x) (hy : WVin w F y) (kind : Nat) (hk : (kind : Int) % 13 = 5) (a1 : Option Addr) (n1 c1 : Nat) (a2 : Option Addr) (n2 c2 : Nat) (N : Int) :
    Calls Tryz.prog 40 #[.pointer (some ⟨g, 0, none⟩), .agg #[.int .u8 kind, .slice a1 n1 c1, .slice a2 n2 c2, .int .i64 N], x.val, y.val] w (PTo w g F (P23 5 G x.l y.l N)) := by
  rw [P23_5 h.ok]
  have hC := fun (W : World) (hW : Ch [] w W) => sAdd_is (h.same hW (by simp)) (hx.ch hW) (hy.ch hW)
  obtain ⟨xa, xl, xc⟩ := x
  obtain ⟨ya, yl, yc⟩ := y
  simp only [WV.val] at hC ⊢
  generalize wordG G [xl, yl] (sumW xl.length (G, 0) ((nats xl).zip (nats yl)) 0) = R at *
  obtain ⟨G1, l1, e1⟩ := R
  have HK := Lib.hid hC; clear hC h hx hy
  go_enter Tryz.func40, Tryz.ntmps40
  go_wp2_with fail
  refine calls_named fun W hW => ?_
  have hc : Ch [] w W := by rw [hW]; exact (Ch.refl _ _).alloc _
  clear hW
  have HC := Lib.hid hc; clear hc
  refine (HK.out W HC.out).mono ?_
  rintro e w1 ⟨v, rfl, hv⟩
  obtain ⟨va, vc, rfl⟩ : ∃ a c, v = .slice a l1.length c := by obtain ⟨_, _, _, _, _, h5, _⟩ := hv; exact row.shape h5
  have HV := Lib.hid hv; clear hv
  go_wp2_with fail
  go_ret3
  exact ⟨_, rfl, GVo.since HC.out HV.out⟩
set_option maxRecDepth 100000 in
set_option maxHeartbeats 2000000 in
theorem program23_6 (h : GIn w g G F) {x y : WV} (hx : WVin w F x) (hy : WVin w F y) (kind : Nat) (hk : (kind : Int) % 13 = 6) (a1 : Option Addr) (n1 c1 : Nat) (a2 : Option Addr) (n2 c2 : Nat) (N : Int) :
    Calls Tryz.prog 40 #[.pointer (some ⟨g, 0, none⟩), .agg #[.int .u8 kind, .slice a1 n1 c1, .slice a2 n2 c2, .int .i64 N], x.val, y.val] w (PTo w g F (P23 6 G x.l y.l N)) := by
  rw [P23_6 h.ok]
  have hC := fun (W : World) (hW : Ch [] w W) => sSub_is (h.same hW (by simp)) (hx.ch hW) (hy.ch hW)
  obtain ⟨xa, xl, xc⟩ := x
  obtain ⟨ya, yl, yc⟩ := y
  simp only [WV.val] at hC ⊢
  generalize wordG G [xl, yl] (sumW xl.length (G, 0) ((nats xl).zip ((nats yl).map neg)) 1) = R at *
  obtain ⟨G1, l1, e1⟩ := R
  have HK := Lib.hid hC; clear hC h hx hy
  go_enter Tryz.func40, Tryz.ntmps40
  go_wp2_with fail
  refine calls_named fun W hW => ?_
  have hc : Ch [] w W := by rw [hW]; exact (Ch.refl _ _).alloc _
  clear hW
  have HC := Lib.hid hc; clear hc
  refine (HK.out W HC.out).mono ?_
  rintro e w1 ⟨v, rfl, hv⟩
  obtain ⟨va, vc, rfl⟩ : ∃ a c, v = .slice a l1.length c := by obtain ⟨_, _, _, _, _, h5, _⟩ := hv; exact row.shape h5
  have HV := Lib.hid hv; clear hv
  go_wp2_with fail
  go_ret3
  exact ⟨_, rfl, GVo.since HC.out HV.out⟩
set_option maxRecDepth 100000 in
set_option maxHeartbeats 2000000 in
theorem program23_7 (h : GIn w g G F) {x y : WV} (hx : WVin w F x) (hy : WVin w F y) (kind : Nat) (hk : (kind : Int) % 13 = 7) (a1 : Option Addr) (n1 c1 : Nat) (a2 : Option Addr) (n2 c2 : Nat) (N : Int) :
    Calls Tryz.prog 40 #[.pointer (some ⟨g, 0, none⟩), .agg #[.int .u8 kind, .slice a1 n1 c1, .slice a2 n2 c2, .int .i64 N], x.val, y.val] w (PTo w g F (P23 7 G x.l y.l N)) := by
  rw [P23_7 h.ok]
  have hC := fun (W : World) (hW : Ch [] w W) => sEq_is (h.same hW (by simp)) (hx.ch hW) (hy.ch hW)
  obtain ⟨xa, xl, xc⟩ := x
  obtain ⟨ya, yl, yc⟩ := y
  simp only [WV.val] at hC ⊢
  generalize negG (refG G [xl, yl] (neF (G, 0) ((nats xl).zip (nats yl)))) = R at *
  obtain ⟨G1, l1, e1⟩ := R
  have HK := Lib.hid hC; clear hC h hx hy
  go_enter Tryz.func40, Tryz.ntmps40
  go_wp2_with fail
  refine calls_named fun W hW => ?_
  have hc : Ch [] w W := by rw [hW]; exact (Ch.refl _ _).alloc _
  clear hW
  have HC := Lib.hid hc; clear hc
  refine (HK.out W HC.out).mono ?_
  rintro e w1 ⟨rfl, hv⟩
  have HV := Lib.hid hv; clear hv
  go_wp2_with fail
  go_ret3
  obtain ⟨F', q1, q2, q3, q4⟩ := GTo.since HC.out HV.out
  exact ⟨_, rfl, GVo.nil q1 q2 q3 q4⟩
set_option maxRecDepth 100000 in
set_option maxHeartbeats 2000000 in
theorem program23_8 (h : GIn w g G F) {x y : WV} (hx : WVin w F x) (hy : WVin w F y) (kind : Nat) (hk : (kind : Int) % 13 = 8) (a1 : Option Addr) (n1 c1 : Nat) (a2 : Option Addr) (n2 c2 : Nat) (N : Int) :
    Calls Tryz.prog 40 #[.pointer (some ⟨g, 0, none⟩), .agg #[.int .u8 kind, .slice a1 n1 c1, .slice a2 n2 c2, .int .i64 N], x.val, y.val] w (PTo w g F (P23 8 G x.l y.l N)) := by
  rw [P23_8 h.ok]
  have hC := fun (W : World) (hW : Ch [] w W) => sNe_is (h.same hW (by simp)) (hx.ch hW) (hy.ch hW)
  obtain ⟨xa, xl, xc⟩ := x
  obtain ⟨ya, yl, yc⟩ := y
  simp only [WV.val] at hC ⊢
  generalize refG G [xl, yl] (neF (G, 0) ((nats xl).zip (nats yl))) = R at *
  obtain ⟨G1, l1, e1⟩ := R
  have HK := Lib.hid hC; clear hC h hx hy
  go_enter Tryz.func40, Tryz.ntmps40
  go_wp2_with fail
  refine calls_named fun W hW => ?_
  have hc : Ch [] w W := by rw [hW]; exact (Ch.refl _ _).alloc _
  clear hW
  have HC := Lib.hid hc; clear hc
  refine (HK.out W HC.out).mono ?_
  rintro e w1 ⟨rfl, hv⟩
  have HV := Lib.hid hv; clear hv
  go_wp2_with fail
  go_ret3
  obtain ⟨F', q1, q2, q3, q4⟩ := GTo.since HC.out HV.out
  exact ⟨_, rfl, GVo.nil q1 q2 q3 q4⟩
set_option maxRecDepth 100000 in
set_option maxHeartbeats 2000000 in
theorem program23_9 (h : GIn w g G F) {x y : WV} (hx : WVin w F x) (hy : WVin w F y) (kind : Nat) (hk : (kind : Int) % 13 = 9) (a1 : Option Addr) (n1 c1 : Nat) (a2 : Option Addr) (n2 c2 : Nat) (N : Int) :
    Calls Tryz.prog 40 #[.pointer (some ⟨g, 0, none⟩), .agg #[.int .u8 kind, .slice a1 n1 c1, .slice a2 n2 c2, .int .i64 N], x.val, y.val] w (PTo w g F (P23 9 G x.l y.l N)) := by
  rw [P23_9 h.ok]
  have hC := fun (W : World) (hW : Ch [] w W) => sLt_is (h.same hW (by simp)) (hx.ch hW) (hy.ch hW)
  obtain ⟨xa, xl, xc⟩ := x
  obtain ⟨ya, yl, yc⟩ := y
  simp only [WV.val] at hC ⊢
  generalize refG G [xl, yl] (ltF (G, 0) ((nats xl).zip (nats yl))) = R at *
  obtain ⟨G1, l1, e1⟩ := R
  have HK := Lib.hid hC; clear hC h hx hy
  go_enter Tryz.func40, Tryz.ntmps40
  go_wp2_with fail
  refine calls_named fun W hW => ?_
  have hc : Ch [] w W := by rw [hW]; exact (Ch.refl _ _).alloc _
  clear hW
  have HC := Lib.hid hc; clear hc
  refine (HK.out W HC.out).mono ?_
  rintro e w1 ⟨rfl, hv⟩
  have HV := Lib.hid hv; clear hv
  go_wp2_with fail
  go_ret3
  obtain ⟨F', q1, q2, q3, q4⟩ := GTo.since HC.out HV.out
  exact ⟨_, rfl, GVo.nil q1 q2 q3 q4⟩
set_option maxRecDepth 100000 in
set_option maxHeartbeats 2000000 in
theorem program23_10 (h : GIn w g G F) {x y : WV} (hx : WVin w F x) (hy : WVin w F y) (kind : Nat) (hk : (kind : Int) % 13 = 10) (a1 : Option Addr) (n1 c1 : Nat) (a2 : Option Addr) (n2 c2 : Nat) (N : Int) :
    Calls Tryz.prog 40 #[.pointer (some ⟨g, 0, none⟩), .agg #[.int .u8 kind, .slice a1 n1 c1, .slice a2 n2 c2, .int .i64 N], x.val, y.val] w (PTo w g F (P23 10 G x.l y.l N)) := by
  rw [P23_10 h.ok]
  have hC := fun (W : World) (hW : Ch [] w W) => sLe_is (h.same hW (by simp)) (hx.ch hW) (hy.ch hW)
  obtain ⟨xa, xl, xc⟩ := x
  obtain ⟨ya, yl, yc⟩ := y
  simp only [WV.val] at hC ⊢
  generalize negG (refG G [yl, xl] (ltF (G, 0) ((nats yl).zip (nats xl)))) = R at *
  obtain ⟨G1, l1, e1⟩ := R
  have HK := Lib.hid hC; clear hC h hx hy
  go_enter Tryz.func40, Tryz.ntmps40
  go_wp2_with fail
  refine calls_named fun W hW => ?_
  have hc : Ch [] w W := by rw [hW]; exact (Ch.refl _ _).alloc _
  clear hW
  have HC := Lib.hid hc; clear hc
  refine (HK.out W HC.out).mono ?_
  rintro e w1 ⟨rfl, hv⟩
  have HV := Lib.hid hv; clear hv
  go_wp2_with fail
  go_ret3
  obtain ⟨F', q1, q2, q3, q4⟩ := GTo.since HC.out HV.out
  exact ⟨_, rfl, GVo.nil q1 q2 q3 q4⟩
set_option maxRecDepth 100000 in
set_option maxHeartbeats 2000000 in
theorem program23_11 (h : GIn w g G F) {x y : WV} (hx : WVin w F x) (hy : WVin w F y) (kind : Nat) (hk : (kind : Int) % 13 = 11) (a1 : Option Addr) (n1 c1 : Nat) (a2 : Option Addr) (n2 c2 : Nat) (N : Int) :
    Calls Tryz.prog 40 #[.pointer (some ⟨g, 0, none⟩), .agg #[.int .u8 kind, .slice a1 n1 c1, .slice a2 n2 c2, .int .i64 N], x.val, y.val] w (PTo w g F (P23 11 G x.l y.l N)) := by
  rw [P23_11 h.ok]
  have hC := fun (W : World) (hW : Ch [] w W) => sAny_is (h.same hW (by simp)) (hx.ch hW)
  obtain ⟨xa, xl, xc⟩ := x
  obtain ⟨ya, yl, yc⟩ := y
  simp only [WV.val] at hC ⊢
  generalize refG G [xl] (Go.Aig.sAny (G, 0) (nats xl)) = R at *
  obtain ⟨G1, l1, e1⟩ := R
  have HK := Lib.hid hC; clear hC h hx hy
  go_enter Tryz.func40, Tryz.ntmps40
  go_wp2_with fail
  refine calls_named fun W hW => ?_
  have hc : Ch [] w W := by rw [hW]; exact (Ch.refl _ _).alloc _
  clear hW
  have HC := Lib.hid hc; clear hc
  refine (HK.out W HC.out).mono ?_
  rintro e w1 ⟨rfl, hv⟩
  have HV := Lib.hid hv; clear hv
  go_wp2_with fail
  go_ret3
  obtain ⟨F', q1, q2, q3, q4⟩ := GTo.since HC.out HV.out
  exact ⟨_, rfl, GVo.nil q1 q2 q3 q4⟩
set_option maxRecDepth 100000 in
set_option maxHeartbeats 2000000 in
theorem program23_12 (h : GIn w g G F) {x y : WV} (hx : WVin w F x) (hy : WVin w F y) (kind : Nat) (hk : (kind : Int) % 13 = 12) (a1 : Option Addr) (n1 c1 : Nat) (a2 : Option Addr) (n2 c2 : Nat) (N : Int) :
    Calls Tryz.prog 40 #[.pointer (some ⟨g, 0, none⟩), .agg #[.int .u8 kind, .slice a1 n1 c1, .slice a2 n2 c2, .int .i64 N], x.val, y.val] w (PTo w g F (P23 12 G x.l y.l N)) := by
  rw [P23_12 h.ok]
  have hC := fun (W : World) (hW : Ch [] w W) => sInput_is (h.same hW (by simp)) N
  obtain ⟨xa, xl, xc⟩ := x
  obtain ⟨ya, yl, yc⟩ := y
  simp only [WV.val] at hC ⊢
  generalize inG G N = R at *
  obtain ⟨G1, l1, e1⟩ := R
  have HK := Lib.hid hC; clear hC h hx hy
  go_enter Tryz.func40, Tryz.ntmps40
  go_wp2_with fail
  refine calls_named fun W hW => ?_
  have hc : Ch [] w W := by rw [hW]; exact (Ch.refl _ _).alloc _
  clear hW
  have HC := Lib.hid hc; clear hc
  refine (HK.out W HC.out).mono ?_
  rintro e w1 ⟨v, rfl, hv⟩
  obtain ⟨va, vc, rfl⟩ : ∃ a c, v = .slice a l1.length c := by obtain ⟨_, _, _, _, _, h5, _⟩ := hv; exact row.shape h5
  have HV := Lib.hid hv; clear hv
  go_wp2_with fail
  go_ret3
  exact ⟨_, rfl, GVo.since HC.out HV.out⟩
theorem program23_is (h : GIn w g G F) {x y : WV} (hx : WVin w F x) (hy : WVin w F y) (kind : Nat) (a1 : Option Addr) (n1 c1 : Nat) (a2 : Option Addr) (n2 c2 : Nat) (N : Int) :
    Calls Tryz.prog 40 #[.pointer (some ⟨g, 0, none⟩), .agg #[.int .u8 kind, .slice a1 n1 c1, .slice a2 n2 c2, .int .i64 N], x.val, y.val] w (PTo w g F (P23 (kind % 13) G x.l y.l N)) := by
  have hlt : kind % 13 < 13 := Nat.mod_lt _ (by omega)
  obtain ⟨k, hk⟩ : ∃ k, kind % 13 = k := ⟨_, rfl⟩
  rw [hk] at hlt ⊢
  have hki : (kind : Int) % 13 = k := by omega
  match k, hlt, hki with
  | 0, _, hki => exact program23_0 h hx hy kind hki a1 n1 c1 a2 n2 c2 N
  | 1, _, hki => exact program23_1 h hx hy kind hki a1 n1 c1 a2 n2 c2 N
  | 2, _, hki => exact program23_2 h hx hy kind hki a1 n1 c1 a2 n2 c2 N
  | 3, _, hki => exact program23_3 h hx hy kind hki a1 n1 c1 a2 n2 c2 N
  | 4, _, hki => exact program23_4 h hx hy kind hki a1 n1 c1 a2 n2 c2 N
  | 5, _, hki => exact program23_5 h hx hy kind hki a1 n1 c1 a2 n2 c2 N
  | 6, _, hki => exact program23_6 h hx hy kind hki a1 n1 c1 a2 n2 c2 N
  | 7, _, hki => exact program23_7 h hx hy kind hki a1 n1 c1 a2 n2 c2 N
  | 8, _, hki => exact program23_8 h hx hy kind hki a1 n1 c1 a2 n2 c2 N
  | 9, _, hki => exact program23_9 h hx hy kind hki a1 n1 c1 a2 n2 c2 N
  | 10, _, hki => exact program23_10 h hx hy kind hki a1 n1 c1 a2 n2 c2 N
  | 11, _, hki => exact program23_11 h hx hy kind hki a1 n1 c1 a2 n2 c2 N
  | 12, _, hki => exact program23_12 h hx hy kind hki a1 n1 c1 a2 n2 c2 N
end
end Go.Proofs.YtchledddgmbndaaGreat
namespace Go.Aig
theorem RF_len {k n : Nat} {G : Gra} {X Y : List Nat} (hk : k ≤ 12) (hm : k = 12 → n ≤ 17) (hx : k ≠ 12 → X.length ≤ 17) : (RF k G X Y n).2.1.length ≤ 17 := by
  have e : ∀ (f : Gra → Nat → Nat → Res), X.length ≤ 17 → (eachF (rop f) (G, 0) (X.zip Y)).2.length ≤ 17 := fun f hx => by rw [eachF_len', List.length_zip]; omega
  have u : ∀ (m : Nat) (s : Mk) (l : List (Nat × Nat)) (c : Nat), (sumW m s l c).2.length = l.length := fun m s l c => by unfold sumW; exact Go.Proofs.YtchledddgmbndaaGreat.sumF_len m s c l
  match k, hk, hm, hx with
  | 0, _, _, hx => show (X.map neg).length ≤ 17; rw [List.length_map]; exact hx (by omega)
  | 1, _, _, hx => show (subW X.length (G, 0) (List.replicate X.length 0) X).2.length ≤ 17; have := hx (by omega); unfold subW; rw [u, List.length_zip, List.length_replicate]; omega
  | 2, _, _, hx => exact e _ (hx (by omega))
  | 3, _, _, hx => exact e _ (hx (by omega))
  | 4, _, _, hx => exact e _ (hx (by omega))
  | 5, _, _, hx => show (sumW X.length (G, 0) (X.zip Y) 0).2.length ≤ 17; have := hx (by omega); rw [u, List.length_zip]; omega
  | 6, _, _, hx => show (subW X.length (G, 0) X Y).2.length ≤ 17; have := hx (by omega); unfold subW; rw [u, List.length_zip, List.length_map]; omega
  | 7, _, _, _ => show ([] : List Nat).length ≤ 17; simp
  | 8, _, _, _ => show ([] : List Nat).length ≤ 17; simp
  | 9, _, _, _ => show ([] : List Nat).length ≤ 17; simp
  | 10, _, _, _ => show ([] : List Nat).length ≤ 17; simp
  | 11, _, _, _ => show ([] : List Nat).length ≤ 17; simp
  | 12, _, hm, _ => show (inF (G, 0) n).2.length ≤ 17; rw [inF_len']; exact hm rfl
  | k + 13, hk, _, _ => omega
theorem f23_one {k : Nat} {G : Gra} {X Y : List Int} {N : Int} (hk : k ≠ 12) (h : f23 k G X Y N = 0) : ChkOk G X.length X := by
  unfold f23 at h
  rw [if_neg hk] at h
  split at h
  · exact chk_ok h X (by simp)
  · exact chk_ok h X (by simp)
theorem f23_two {k : Nat} {G : Gra} {X Y : List Int} {N : Int} (hk : k ≠ 12) (h2 : 2 ≤ k) (h3 : k ≠ 11) (h : f23 k G X Y N = 0) : ChkOk G X.length Y := by
  unfold f23 at h
  rw [if_neg hk, if_neg (by omega)] at h
  exact chk_ok h Y (by simp)
theorem f23_in {G : Gra} {X Y : List Int} {N : Int} (h : f23 12 G X Y N = 0) : ∃ n : Nat, N = n ∧ n ≤ 17 := by
  unfold f23 at h
  rw [if_pos rfl] at h
  cases hr : rightW N
  · rw [hr] at h; cases h
  · unfold rightW at hr
    simp at hr
    exact ⟨N.toNat, by omega, by omega⟩
theorem f23_small (k : Nat) (G : Gra) (X Y : List Int) (N : Int) : f23 k G X Y N ≤ 230 := by
  unfold f23
  split
  · split <;> omega
  · exact chk_small _ _
theorem P23_len {k : Nat} {G : Gra} {X Y : List Int} {N : Int} (hk : k ≤ 12) : (P23 k G X Y N).2.1.length ≤ 17 := by
  unfold P23
  split
  · show ([] : List Nat).length ≤ 17; simp
  · rename_i hf
    have hf0 : f23 k G X Y N = 0 := by omega
    unfold fin23
    split
    · show ([] : List Nat).length ≤ 17; simp
    · refine RF_len hk (fun e => ?_) (fun e => ?_)
      · subst e
        obtain ⟨n, rfl, hn⟩ := f23_in hf0
        simpa using hn
      · have := f23_one e hf0
        rw [nats_len]; exact this.r2
end Go.Aig
namespace Go.Proofs.YtchledddgmbndaaGreat
open Go.RowKit Go.Mem Go.Aig
/-- what an act of the reference leaves: a state, a word, a reference -/
def FTo (w : World) (rb : Nat) (R : Mk × List Nat × Nat) (e : Ending) (w' : World) : Prop := ∃ rb' cap' a c, e = .returned (.tuple #[.agg #[.int .i64 R.1.1.most, .slice (some ⟨rb', 0, none⟩) R.1.1.nodes.length cap', .int .i64 R.1.2], .slice a R.2.1.length c, .int .i64 R.2.2]) ∧ RG w' rb' cap' R.1.1 ∧ Ch [] w w' ∧ (rb' = rb ∨ w.heap.size ≤ rb') ∧ row w' 3 1 (.slice a R.2.1.length c) R.2.1.length (intCells (natInts R.2.1)) ∧ ∀ q, (Value.slice a R.2.1.length c).ownBlock = some q → w.heap.size ≤ q ∧ q ≠ rb'
theorem FTo.mk {w W W2 W3 : World} {rb rb' cap' : Nat} {R : Mk × List Nat × Nat} {a : Option Addr} {c b : Nat} (hc0 : Ch [] w W) (hc2 : Ch [] W W2) (hr : RG W2 rb' cap' R.1.1) (hf : rb' = rb ∨ W.heap.size ≤ rb') (hl : rb < w.heap.size) (hrow : row W2 3 1 (.slice a R.2.1.length c) R.2.1.length (intCells (natInts R.2.1))) (hown : ∀ q, (Value.slice a R.2.1.length c).ownBlock = some q → W.heap.size ≤ q ∧ q ≠ rb')
    (hb : w.heap.size ≤ b) (hb2 : b < W.heap.size) (hcs : Ch [b] W2 W3) : FTo w rb R (.returned (.tuple #[.agg #[.int .i64 R.1.1.most, .slice (some ⟨rb', 0, none⟩) R.1.1.nodes.length cap', .int .i64 R.1.2], .slice a R.2.1.length c, .int .i64 R.2.2])) W3 := by
  have hz := hc0.size
  exact ⟨rb', cap', a, c, rfl, hr.ch hcs (by simp; omega), (hc0.trans hc2 (by simp)).trans hcs (fun k hk => .inr (by simp at hk; omega)), by omega, hrow.ch hcs (fun k hk => by have := hown k hk; simp; omega), fun q hq => by have := hown q hq; omega⟩
theorem FTo.mk2 {w W w1 W2 W3 : World} {rb rb' cap' : Nat} {R : Mk × List Nat × Nat} {a : Option Addr} {c b b2 : Nat} (hc0 : Ch [] w W) (hc1 : Ch [] W w1) (hc2 : Ch [b2] w1 W2) (hr : RG W2 rb' cap' R.1.1) (hf : rb' = rb ∨ W.heap.size ≤ rb') (hl : rb < w.heap.size) (hrow : row W2 3 1 (.slice a R.2.1.length c) R.2.1.length (intCells (natInts R.2.1))) (hown : ∀ q, (Value.slice a R.2.1.length c).ownBlock = some q → W.heap.size ≤ q ∧ q ≠ rb')
    (hb0 : w.heap.size ≤ b2) (hb02 : b2 < W.heap.size) (hb : w.heap.size ≤ b) (hb2 : b < W.heap.size) (hcs : Ch [b] W2 W3) : FTo w rb R (.returned (.tuple #[.agg #[.int .i64 R.1.1.most, .slice (some ⟨rb', 0, none⟩) R.1.1.nodes.length cap', .int .i64 R.1.2], .slice a R.2.1.length c, .int .i64 R.2.2])) W3 := by
  have hz := hc0.size
  exact ⟨rb', cap', a, c, rfl, hr.ch hcs (by simp; omega), ((hc0.trans hc1 (by simp)).trans hc2 (fun k hk => .inr (by simp at hk; omega))).trans hcs (fun k hk => .inr (by simp at hk; omega)), by omega, hrow.ch hcs (fun k hk => by have := hown k hk; simp; omega), fun q hq => by have := hown q hq; omega⟩
section
variable {w : World} {rb cap : Nat} {G : Gra}
set_option maxRecDepth 100000 in
set_option maxHeartbeats 4000000 in
theorem reference23_0 (h : RG w rb cap G) (kind : Nat) (hk : (kind : Int) % 13 = 0) (a1 : Option Addr) (n1 c1 : Nat) (a2 : Option Addr) (n2 c2 : Nat) (N : Int) {X Y : List Nat} (hn : X.length = n1) (hn0 : 1 ≤ n1 ∧ n1 ≤ 17) (hX : Sl w a1 (natInts X)) (hxr : ∀ r ∈ X, r < 2 * G.nodes.length) :
    Calls Tryz.prog 84 #[.agg #[.int .i64 G.most, .slice (some ⟨rb, 0, none⟩) G.nodes.length cap, .int .i64 0], .agg #[.int .u8 kind, .slice a1 n1 c1, .slice a2 n2 c2, .int .i64 N]] w (FTo w rb (((((G, 0), X.map neg)).1, (((G, 0), X.map neg)).2, 0) : Mk × List Nat × Nat)) := by
  have hlt := h.lt
  have hsm := h.ok.small
  have hpos := h.ok.wf.pos
  have hC := fun (W : World) (hW : Ch [] w W) => r23Not_is n1 c1 hn (by omega) (hX.ch hW (by simp)) (fun r hr => by have := hxr r hr; omega)
  have hml : (X.map neg).length = n1 := by simp [hn]
  generalize X.map neg = l1 at *
  have HCC := Lib.hid hC; clear hC hsm hpos
  have H := Lib.hid h; clear h
  go_enter Tryz.func84, Tryz.ntmps84
  go_wp2_with fail
  refine calls_named fun W hW => ?_
  have b2 : blk W w.heap.size [.int .i64 G.most, .slice (some ⟨rb, 0, none⟩) G.nodes.length cap, .int .i64 0] := by rw [hW]; exact ((blk.new' _ _ rfl).alloc _).alloc _
  have b4 : blk W (w.heap.size + 2) [.int .i64 0, .slice none 0 0, .int .i64 0] := by rw [hW]; exact blk.new' _ _ (by simp)
  have hc : Ch [] w W := by rw [hW]; exact (((Ch.refl _ _).alloc _).alloc _).alloc _
  clear hW
  have HC := Lib.hid hc; clear hc
  refine (HCC.out W HC.out).mono ?_
  rintro e w1 ⟨v, rfl, hrow, hlo, hch⟩
  subst hml
  obtain ⟨a, c, rfl⟩ := row.shape hrow
  have hl2 := b4.lt
  have hz := hch.size
  have hrg := (H.out.ch HC.out (by simp)).ch hch (by simp)
  have B2 := b2.ch hch (by simp)
  have B4 := b4.ch hch (by simp)
  have y0 := B2.cell (i := 0) rfl
  have y1 := B2.cell (i := 1) rfl
  have y2 := B2.cell (i := 2) rfl
  have z0 := B4.cell (i := 0) rfl
  have z1 := B4.cell (i := 1) rfl
  have z2 := B4.cell (i := 2) rfl
  have g0 := B4.frozen (i := 0)
  have g1 := B4.frozen (i := 1)
  have g2 := B4.frozen (i := 2)
  have hzz := B4.lt
  have HRG := Lib.hid hrg; clear hrg B2 B4 b2 b4
  have HCH := Lib.hid hch; clear hch
  have HROW := Lib.hid hrow; clear hrow
  have HLO := Lib.hid hlo; clear hlo
  go_wp2_with fail
  refine bodyPost_ret (v := .tuple #[.agg #[.int .i64 G.most, .slice (some ⟨rb, 0, none⟩) G.nodes.length cap, .int .i64 0], .slice a l1.length c, .int .i64 0]) (by simp [results, Tryz.results84, go_sem, z0, z1, z2]) rfl ?_
  exact FTo.mk (R := ((G, 0), l1, 0)) HC.out HCH.out HRG.out (.inl rfl) hlt HROW.out (fun q hq => by have := HLO.out q (by simpa using hq); have := HC.out.size; omega) (by omega) hl2 (set3_ch rfl)
set_option maxRecDepth 100000 in
set_option maxHeartbeats 4000000 in
theorem reference23_1 (h : RG w rb cap G) (kind : Nat) (hk : (kind : Int) % 13 = 1) (a1 : Option Addr) (n1 c1 : Nat) (a2 : Option Addr) (n2 c2 : Nat) (N : Int) {X Y : List Nat} (hn : X.length = n1) (hn0 : 1 ≤ n1 ∧ n1 ≤ 17) (hX : Sl w a1 (natInts X)) (hxr : ∀ r ∈ X, r < 2 * G.nodes.length) :
    Calls Tryz.prog 84 #[.agg #[.int .i64 G.most, .slice (some ⟨rb, 0, none⟩) G.nodes.length cap, .int .i64 0], .agg #[.int .u8 kind, .slice a1 n1 c1, .slice a2 n2 c2, .int .i64 N]] w (FTo w rb (((subW n1 (G, 0) (List.replicate n1 0) X).1, (subW n1 (G, 0) (List.replicate n1 0) X).2, 0) : Mk × List Nat × Nat)) := by
  have hlt := h.lt
  have hsm := h.ok.small
  have hpos := h.ok.wf.pos
  have hC := fun (W : World) (hW : Ch [] w W) => r23Neg_is (h.ch hW (by simp)) n1 c1 (hX.ch hW (by simp)) hn (by omega) hxr
  generalize subW n1 (G, 0) (List.replicate n1 0) X = R at *
  obtain ⟨⟨G1, q1⟩, l1⟩ := R
  have HCC := Lib.hid hC; clear hC hsm hpos
  have H := Lib.hid h; clear h
  go_enter Tryz.func84, Tryz.ntmps84
  go_wp2_with fail
  refine calls_named fun W hW => ?_
  have b2 : blk W w.heap.size [.int .i64 G.most, .slice (some ⟨rb, 0, none⟩) G.nodes.length cap, .int .i64 0] := by rw [hW]; exact ((blk.new' _ _ rfl).alloc _).alloc _
  have b4 : blk W (w.heap.size + 2) [.int .i64 0, .slice none 0 0, .int .i64 0] := by rw [hW]; exact blk.new' _ _ (by simp)
  have hc : Ch [] w W := by rw [hW]; exact (((Ch.refl _ _).alloc _).alloc _).alloc _
  clear hW
  have HC := Lib.hid hc; clear hc
  refine (HCC.out W HC.out).mono ?_
  rintro e w1 ⟨rb', cap', a, c, rfl, hrg, hch, hfr, hrow, hown⟩
  have hl2 := b4.lt
  have hz := hch.size
  have hzc := HC.out.size
  have B2 := b2.ch hch (by simp)
  have B4 := b4.ch hch (by simp)
  have y0 := B2.cell (i := 0) rfl
  have y1 := B2.cell (i := 1) rfl
  have y2 := B2.cell (i := 2) rfl
  have f0 := B2.frozen (i := 0)
  have f1 := B2.frozen (i := 1)
  have f2 := B2.frozen (i := 2)
  have BB2 := Lib.hid B2; clear B2 b2
  have BB4 := Lib.hid B4; clear B4 b4
  have HRG := Lib.hid hrg; clear hrg
  have HCH := Lib.hid hch; clear hch
  have HROW := Lib.hid hrow; clear hrow
  have HOWN := Lib.hid hown; clear hown
  go_upto_region 27 with fail
  refine wp_alw ?_
  intro W2 hW2
  have B2 := set3_blk BB2.out hW2
  have hcs := set3_ch hW2
  clear hW2
  have hrg := HRG.out.ch hcs (by simp; omega)
  have B4 := BB4.out.ch hcs (by simp)
  have hrow := HROW.out.ch hcs (fun k hk => by have := HOWN.out k hk; simp; omega)
  clear y0 y1 y2 f0 f1 f2 BB2 BB4
  have y0 := B2.cell (i := 0) rfl
  have y1 := B2.cell (i := 1) rfl
  have y2 := B2.cell (i := 2) rfl
  have z0 := B4.cell (i := 0) rfl
  have z1 := B4.cell (i := 1) rfl
  have z2 := B4.cell (i := 2) rfl
  have g0 := B4.frozen (i := 0)
  have g1 := B4.frozen (i := 1)
  have g2 := B4.frozen (i := 2)
  have hzz := B4.lt
  have HRG2 := Lib.hid hrg; clear hrg B2 B4 HRG
  have HCS := Lib.hid hcs; clear hcs
  have HROW2 := Lib.hid hrow; clear hrow HROW
  go_wp2_with fail
  refine bodyPost_ret (v := .tuple #[.agg #[.int .i64 G1.most, .slice (some ⟨rb', 0, none⟩) G1.nodes.length cap', .int .i64 q1], .slice a l1.length c, .int .i64 0]) (by simp [results, Tryz.results84, go_sem, z0, z1, z2]) rfl ?_
  exact FTo.mk2 (R := ((G1, q1), l1, 0)) HC.out HCH.out HCS.out HRG2.out hfr hlt HROW2.out HOWN.out (by omega) (by omega) (by omega) hl2 (set3_ch rfl)
set_option maxRecDepth 100000 in
set_option maxHeartbeats 4000000 in
theorem reference23_2 (h : RG w rb cap G) (kind : Nat) (hk : (kind : Int) % 13 = 2) (a1 : Option Addr) (n1 c1 : Nat) (a2 : Option Addr) (c2 : Nat) (N : Int) {X Y : List Nat} (hn : X.length = n1) (hn0 : 1 ≤ n1 ∧ n1 ≤ 17) (hX : Sl w a1 (natInts X)) (hxr : ∀ r ∈ X, r < 2 * G.nodes.length) (hm : Y.length = n1) (hY : Sl w a2 (natInts Y)) (hyr : ∀ r ∈ Y, r < 2 * G.nodes.length) :
    Calls Tryz.prog 84 #[.agg #[.int .i64 G.most, .slice (some ⟨rb, 0, none⟩) G.nodes.length cap, .int .i64 0], .agg #[.int .u8 kind, .slice a1 n1 c1, .slice a2 n1 c2, .int .i64 N]] w (FTo w rb (((eachF (rop and) (G, 0) (X.zip Y)).1, (eachF (rop and) (G, 0) (X.zip Y)).2, 0) : Mk × List Nat × Nat)) := by
  have hlt := h.lt
  have hsm := h.ok.small
  have hpos := h.ok.wf.pos
  have hC := fun (W : World) (hW : Ch [] w W) => r23Each8_is (h.ch hW (by simp)) n1 c1 c2 (hX.ch hW (by simp)) (hY.ch hW (by simp)) hn hm (by omega) hxr hyr
  generalize eachF (rop and) (G, 0) (X.zip Y) = R at *
  obtain ⟨⟨G1, q1⟩, l1⟩ := R
  have HCC := Lib.hid hC; clear hC hsm hpos
  have H := Lib.hid h; clear h
  go_enter Tryz.func84, Tryz.ntmps84
  go_wp2_with fail
  refine calls_named fun W hW => ?_
  have b2 : blk W w.heap.size [.int .i64 G.most, .slice (some ⟨rb, 0, none⟩) G.nodes.length cap, .int .i64 0] := by rw [hW]; exact ((blk.new' _ _ rfl).alloc _).alloc _
  have b4 : blk W (w.heap.size + 2) [.int .i64 0, .slice none 0 0, .int .i64 0] := by rw [hW]; exact blk.new' _ _ (by simp)
  have hc : Ch [] w W := by rw [hW]; exact (((Ch.refl _ _).alloc _).alloc _).alloc _
  clear hW
  have HC := Lib.hid hc; clear hc
  refine (HCC.out W HC.out).mono ?_
  rintro e w1 ⟨rb', cap', a, c, rfl, hrg, hch, hfr, hrow, hown⟩
  have hl2 := b4.lt
  have hz := hch.size
  have hzc := HC.out.size
  have B2 := b2.ch hch (by simp)
  have B4 := b4.ch hch (by simp)
  have y0 := B2.cell (i := 0) rfl
  have y1 := B2.cell (i := 1) rfl
  have y2 := B2.cell (i := 2) rfl
  have f0 := B2.frozen (i := 0)
  have f1 := B2.frozen (i := 1)
  have f2 := B2.frozen (i := 2)
  have BB2 := Lib.hid B2; clear B2 b2
  have BB4 := Lib.hid B4; clear B4 b4
  have HRG := Lib.hid hrg; clear hrg
  have HCH := Lib.hid hch; clear hch
  have HROW := Lib.hid hrow; clear hrow
  have HOWN := Lib.hid hown; clear hown
  go_upto_region 27 with fail
  refine wp_alw ?_
  intro W2 hW2
  have B2 := set3_blk BB2.out hW2
  have hcs := set3_ch hW2
  clear hW2
  have hrg := HRG.out.ch hcs (by simp; omega)
  have B4 := BB4.out.ch hcs (by simp)
  have hrow := HROW.out.ch hcs (fun k hk => by have := HOWN.out k hk; simp; omega)
  clear y0 y1 y2 f0 f1 f2 BB2 BB4
  have y0 := B2.cell (i := 0) rfl
  have y1 := B2.cell (i := 1) rfl
  have y2 := B2.cell (i := 2) rfl
  have z0 := B4.cell (i := 0) rfl
  have z1 := B4.cell (i := 1) rfl
  have z2 := B4.cell (i := 2) rfl
  have g0 := B4.frozen (i := 0)
  have g1 := B4.frozen (i := 1)
  have g2 := B4.frozen (i := 2)
  have hzz := B4.lt
  have HRG2 := Lib.hid hrg; clear hrg B2 B4 HRG
  have HCS := Lib.hid hcs; clear hcs
  have HROW2 := Lib.hid hrow; clear hrow HROW
  go_wp2_with fail
  refine bodyPost_ret (v := .tuple #[.agg #[.int .i64 G1.most, .slice (some ⟨rb', 0, none⟩) G1.nodes.length cap', .int .i64 q1], .slice a l1.length c, .int .i64 0]) (by simp [results, Tryz.results84, go_sem, z0, z1, z2]) rfl ?_
  exact FTo.mk2 (R := ((G1, q1), l1, 0)) HC.out HCH.out HCS.out HRG2.out hfr hlt HROW2.out HOWN.out (by omega) (by omega) (by omega) hl2 (set3_ch rfl)
set_option maxRecDepth 100000 in
set_option maxHeartbeats 4000000 in
theorem reference23_3 (h : RG w rb cap G) (kind : Nat) (hk : (kind : Int) % 13 = 3) (a1 : Option Addr) (n1 c1 : Nat) (a2 : Option Addr) (c2 : Nat) (N : Int) {X Y : List Nat} (hn : X.length = n1) (hn0 : 1 ≤ n1 ∧ n1 ≤ 17) (hX : Sl w a1 (natInts X)) (hxr : ∀ r ∈ X, r < 2 * G.nodes.length) (hm : Y.length = n1) (hY : Sl w a2 (natInts Y)) (hyr : ∀ r ∈ Y, r < 2 * G.nodes.length) :
    Calls Tryz.prog 84 #[.agg #[.int .i64 G.most, .slice (some ⟨rb, 0, none⟩) G.nodes.length cap, .int .i64 0], .agg #[.int .u8 kind, .slice a1 n1 c1, .slice a2 n1 c2, .int .i64 N]] w (FTo w rb (((eachF (rop rOr) (G, 0) (X.zip Y)).1, (eachF (rop rOr) (G, 0) (X.zip Y)).2, 0) : Mk × List Nat × Nat)) := by
  have hlt := h.lt
  have hsm := h.ok.small
  have hpos := h.ok.wf.pos
  have hC := fun (W : World) (hW : Ch [] w W) => r23Each9_is (h.ch hW (by simp)) n1 c1 c2 (hX.ch hW (by simp)) (hY.ch hW (by simp)) hn hm (by omega) hxr hyr
  generalize eachF (rop rOr) (G, 0) (X.zip Y) = R at *
  obtain ⟨⟨G1, q1⟩, l1⟩ := R
  have HCC := Lib.hid hC; clear hC hsm hpos
  have H := Lib.hid h; clear h
  go_enter Tryz.func84, Tryz.ntmps84
  go_wp2_with fail
  refine calls_named fun W hW => ?_
  have b2 : blk W w.heap.size [.int .i64 G.most, .slice (some ⟨rb, 0, none⟩) G.nodes.length cap, .int .i64 0] := by rw [hW]; exact ((blk.new' _ _ rfl).alloc _).alloc _
  have b4 : blk W (w.heap.size + 2) [.int .i64 0, .slice none 0 0, .int .i64 0] := by rw [hW]; exact blk.new' _ _ (by simp)
  have hc : Ch [] w W := by rw [hW]; exact (((Ch.refl _ _).alloc _).alloc _).alloc _
  clear hW
  have HC := Lib.hid hc; clear hc
  refine (HCC.out W HC.out).mono ?_
  rintro e w1 ⟨rb', cap', a, c, rfl, hrg, hch, hfr, hrow, hown⟩
  have hl2 := b4.lt
  have hz := hch.size
  have hzc := HC.out.size
  have B2 := b2.ch hch (by simp)
  have B4 := b4.ch hch (by simp)
  have y0 := B2.cell (i := 0) rfl
  have y1 := B2.cell (i := 1) rfl
  have y2 := B2.cell (i := 2) rfl
  have f0 := B2.frozen (i := 0)
  have f1 := B2.frozen (i := 1)
  have f2 := B2.frozen (i := 2)
  have BB2 := Lib.hid B2; clear B2 b2
  have BB4 := Lib.hid B4; clear B4 b4
  have HRG := Lib.hid hrg; clear hrg
  have HCH := Lib.hid hch; clear hch
  have HROW := Lib.hid hrow; clear hrow
  have HOWN := Lib.hid hown; clear hown
  go_upto_region 27 with fail
  refine wp_alw ?_
  intro W2 hW2
  have B2 := set3_blk BB2.out hW2
  have hcs := set3_ch hW2
  clear hW2
  have hrg := HRG.out.ch hcs (by simp; omega)
  have B4 := BB4.out.ch hcs (by simp)
  have hrow := HROW.out.ch hcs (fun k hk => by have := HOWN.out k hk; simp; omega)
  clear y0 y1 y2 f0 f1 f2 BB2 BB4
  have y0 := B2.cell (i := 0) rfl
  have y1 := B2.cell (i := 1) rfl
  have y2 := B2.cell (i := 2) rfl
  have z0 := B4.cell (i := 0) rfl
  have z1 := B4.cell (i := 1) rfl
  have z2 := B4.cell (i := 2) rfl
  have g0 := B4.frozen (i := 0)
  have g1 := B4.frozen (i := 1)
  have g2 := B4.frozen (i := 2)
  have hzz := B4.lt
  have HRG2 := Lib.hid hrg; clear hrg B2 B4 HRG
  have HCS := Lib.hid hcs; clear hcs
  have HROW2 := Lib.hid hrow; clear hrow HROW
  go_wp2_with fail
  refine bodyPost_ret (v := .tuple #[.agg #[.int .i64 G1.most, .slice (some ⟨rb', 0, none⟩) G1.nodes.length cap', .int .i64 q1], .slice a l1.length c, .int .i64 0]) (by simp [results, Tryz.results84, go_sem, z0, z1, z2]) rfl ?_
  exact FTo.mk2 (R := ((G1, q1), l1, 0)) HC.out HCH.out HCS.out HRG2.out hfr hlt HROW2.out HOWN.out (by omega) (by omega) (by omega) hl2 (set3_ch rfl)
set_option maxRecDepth 100000 in
set_option maxHeartbeats 4000000 in
theorem reference23_4 (h : RG w rb cap G) (kind : Nat) (hk : (kind : Int) % 13 = 4) (a1 : Option Addr) (n1 c1 : Nat) (a2 : Option Addr) (c2 : Nat) (N : Int) {X Y : List Nat} (hn : X.length = n1) (hn0 : 1 ≤ n1 ∧ n1 ≤ 17) (hX : Sl w a1 (natInts X)) (hxr : ∀ r ∈ X, r < 2 * G.nodes.length) (hm : Y.length = n1) (hY : Sl w a2 (natInts Y)) (hyr : ∀ r ∈ Y, r < 2 * G.nodes.length) :
    Calls Tryz.prog 84 #[.agg #[.int .i64 G.most, .slice (some ⟨rb, 0, none⟩) G.nodes.length cap, .int .i64 0], .agg #[.int .u8 kind, .slice a1 n1 c1, .slice a2 n1 c2, .int .i64 N]] w (FTo w rb (((eachF (rop rXor) (G, 0) (X.zip Y)).1, (eachF (rop rXor) (G, 0) (X.zip Y)).2, 0) : Mk × List Nat × Nat)) := by
  have hlt := h.lt
  have hsm := h.ok.small
  have hpos := h.ok.wf.pos
  have hC := fun (W : World) (hW : Ch [] w W) => r23Each10_is (h.ch hW (by simp)) n1 c1 c2 (hX.ch hW (by simp)) (hY.ch hW (by simp)) hn hm (by omega) hxr hyr
  generalize eachF (rop rXor) (G, 0) (X.zip Y) = R at *
  obtain ⟨⟨G1, q1⟩, l1⟩ := R
  have HCC := Lib.hid hC; clear hC hsm hpos
  have H := Lib.hid h; clear h
  go_enter Tryz.func84, Tryz.ntmps84
  go_wp2_with fail
  refine calls_named fun W hW => ?_
  have b2 : blk W w.heap.size [.int .i64 G.most, .slice (some ⟨rb, 0, none⟩) G.nodes.length cap, .int .i64 0] := by rw [hW]; exact ((blk.new' _ _ rfl).alloc _).alloc _
  have b4 : blk W (w.heap.size + 2) [.int .i64 0, .slice none 0 0, .int .i64 0] := by rw [hW]; exact blk.new' _ _ (by simp)
  have hc : Ch [] w W := by rw [hW]; exact (((Ch.refl _ _).alloc _).alloc _).alloc _
  clear hW
  have HC := Lib.hid hc; clear hc
  refine (HCC.out W HC.out).mono ?_
  rintro e w1 ⟨rb', cap', a, c, rfl, hrg, hch, hfr, hrow, hown⟩
  have hl2 := b4.lt
  have hz := hch.size
  have hzc := HC.out.size
  have B2 := b2.ch hch (by simp)
  have B4 := b4.ch hch (by simp)
  have y0 := B2.cell (i := 0) rfl
  have y1 := B2.cell (i := 1) rfl
  have y2 := B2.cell (i := 2) rfl
  have f0 := B2.frozen (i := 0)
  have f1 := B2.frozen (i := 1)
  have f2 := B2.frozen (i := 2)
  have BB2 := Lib.hid B2; clear B2 b2
  have BB4 := Lib.hid B4; clear B4 b4
  have HRG := Lib.hid hrg; clear hrg
  have HCH := Lib.hid hch; clear hch
  have HROW := Lib.hid hrow; clear hrow
  have HOWN := Lib.hid hown; clear hown
  go_upto_region 27 with fail
  refine wp_alw ?_
  intro W2 hW2
  have B2 := set3_blk BB2.out hW2
  have hcs := set3_ch hW2
  clear hW2
  have hrg := HRG.out.ch hcs (by simp; omega)
  have B4 := BB4.out.ch hcs (by simp)
  have hrow := HROW.out.ch hcs (fun k hk => by have := HOWN.out k hk; simp; omega)
  clear y0 y1 y2 f0 f1 f2 BB2 BB4
  have y0 := B2.cell (i := 0) rfl
  have y1 := B2.cell (i := 1) rfl
  have y2 := B2.cell (i := 2) rfl
  have z0 := B4.cell (i := 0) rfl
  have z1 := B4.cell (i := 1) rfl
  have z2 := B4.cell (i := 2) rfl
  have g0 := B4.frozen (i := 0)
  have g1 := B4.frozen (i := 1)
  have g2 := B4.frozen (i := 2)
  have hzz := B4.lt
  have HRG2 := Lib.hid hrg; clear hrg B2 B4 HRG
  have HCS := Lib.hid hcs; clear hcs
  have HROW2 := Lib.hid hrow; clear hrow HROW
  go_wp2_with fail
  refine bodyPost_ret (v := .tuple #[.agg #[.int .i64 G1.most, .slice (some ⟨rb', 0, none⟩) G1.nodes.length cap', .int .i64 q1], .slice a l1.length c, .int .i64 0]) (by simp [results, Tryz.results84, go_sem, z0, z1, z2]) rfl ?_
  exact FTo.mk2 (R := ((G1, q1), l1, 0)) HC.out HCH.out HCS.out HRG2.out hfr hlt HROW2.out HOWN.out (by omega) (by omega) (by omega) hl2 (set3_ch rfl)
set_option maxRecDepth 100000 in
set_option maxHeartbeats 4000000 in
theorem reference23_5 (h : RG w rb cap G) (kind : Nat) (hk : (kind : Int) % 13 = 5) (a1 : Option Addr) (n1 c1 : Nat) (a2 : Option Addr) (c2 : Nat) (N : Int) {X Y : List Nat} (hn : X.length = n1) (hn0 : 1 ≤ n1 ∧ n1 ≤ 17) (hX : Sl w a1 (natInts X)) (hxr : ∀ r ∈ X, r < 2 * G.nodes.length) (hm : Y.length = n1) (hY : Sl w a2 (natInts Y)) (hyr : ∀ r ∈ Y, r < 2 * G.nodes.length) :
    Calls Tryz.prog 84 #[.agg #[.int .i64 G.most, .slice (some ⟨rb, 0, none⟩) G.nodes.length cap, .int .i64 0], .agg #[.int .u8 kind, .slice a1 n1 c1, .slice a2 n1 c2, .int .i64 N]] w (FTo w rb (((sumW n1 (G, 0) (X.zip Y) 0).1, (sumW n1 (G, 0) (X.zip Y) 0).2, 0) : Mk × List Nat × Nat)) := by
  have hlt := h.lt
  have hsm := h.ok.small
  have hpos := h.ok.wf.pos
  have hC := fun (W : World) (hW : Ch [] w W) => r23Add_is (h.ch hW (by simp)) n1 c1 c2 (hX.ch hW (by simp)) (hY.ch hW (by simp)) hn hm (by omega) hxr hyr
  generalize sumW n1 (G, 0) (X.zip Y) 0 = R at *
  obtain ⟨⟨G1, q1⟩, l1⟩ := R
  have HCC := Lib.hid hC; clear hC hsm hpos
  have H := Lib.hid h; clear h
  go_enter Tryz.func84, Tryz.ntmps84
  go_wp2_with fail
  refine calls_named fun W hW => ?_
  have b2 : blk W w.heap.size [.int .i64 G.most, .slice (some ⟨rb, 0, none⟩) G.nodes.length cap, .int .i64 0] := by rw [hW]; exact ((blk.new' _ _ rfl).alloc _).alloc _
  have b4 : blk W (w.heap.size + 2) [.int .i64 0, .slice none 0 0, .int .i64 0] := by rw [hW]; exact blk.new' _ _ (by simp)
  have hc : Ch [] w W := by rw [hW]; exact (((Ch.refl _ _).alloc _).alloc _).alloc _
  clear hW
  have HC := Lib.hid hc; clear hc
  refine (HCC.out W HC.out).mono ?_
  rintro e w1 ⟨rb', cap', a, c, rfl, hrg, hch, hfr, hrow, hown⟩
  have hl2 := b4.lt
  have hz := hch.size
  have hzc := HC.out.size
  have B2 := b2.ch hch (by simp)
  have B4 := b4.ch hch (by simp)
  have y0 := B2.cell (i := 0) rfl
  have y1 := B2.cell (i := 1) rfl
  have y2 := B2.cell (i := 2) rfl
  have f0 := B2.frozen (i := 0)
  have f1 := B2.frozen (i := 1)
  have f2 := B2.frozen (i := 2)
  have BB2 := Lib.hid B2; clear B2 b2
  have BB4 := Lib.hid B4; clear B4 b4
  have HRG := Lib.hid hrg; clear hrg
  have HCH := Lib.hid hch; clear hch
  have HROW := Lib.hid hrow; clear hrow
  have HOWN := Lib.hid hown; clear hown
  go_upto_region 27 with fail
  refine wp_alw ?_
  intro W2 hW2
  have B2 := set3_blk BB2.out hW2
  have hcs := set3_ch hW2
  clear hW2
  have hrg := HRG.out.ch hcs (by simp; omega)
  have B4 := BB4.out.ch hcs (by simp)
  have hrow := HROW.out.ch hcs (fun k hk => by have := HOWN.out k hk; simp; omega)
  clear y0 y1 y2 f0 f1 f2 BB2 BB4
  have y0 := B2.cell (i := 0) rfl
  have y1 := B2.cell (i := 1) rfl
  have y2 := B2.cell (i := 2) rfl
  have z0 := B4.cell (i := 0) rfl
  have z1 := B4.cell (i := 1) rfl
  have z2 := B4.cell (i := 2) rfl
  have g0 := B4.frozen (i := 0)
  have g1 := B4.frozen (i := 1)
  have g2 := B4.frozen (i := 2)
  have hzz := B4.lt
  have HRG2 := Lib.hid hrg; clear hrg B2 B4 HRG
  have HCS := Lib.hid hcs; clear hcs
  have HROW2 := Lib.hid hrow; clear hrow HROW
  go_wp2_with fail
  refine bodyPost_ret (v := .tuple #[.agg #[.int .i64 G1.most, .slice (some ⟨rb', 0, none⟩) G1.nodes.length cap', .int .i64 q1], .slice a l1.length c, .int .i64 0]) (by simp [results, Tryz.results84, go_sem, z0, z1, z2]) rfl ?_
  exact FTo.mk2 (R := ((G1, q1), l1, 0)) HC.out HCH.out HCS.out HRG2.out hfr hlt HROW2.out HOWN.out (by omega) (by omega) (by omega) hl2 (set3_ch rfl)
set_option maxRecDepth 100000 in
set_option maxHeartbeats 4000000 in
theorem reference23_6 (h : RG w rb cap G) (kind : Nat) (hk : (kind : Int) % 13 = 6) (a1 : Option Addr) (n1 c1 : Nat) (a2 : Option Addr) (c2 : Nat) (N : Int) {X Y : List Nat} (hn : X.length = n1) (hn0 : 1 ≤ n1 ∧ n1 ≤ 17) (hX : Sl w a1 (natInts X)) (hxr : ∀ r ∈ X, r < 2 * G.nodes.length) (hm : Y.length = n1) (hY : Sl w a2 (natInts Y)) (hyr : ∀ r ∈ Y, r < 2 * G.nodes.length) :
    Calls Tryz.prog 84 #[.agg #[.int .i64 G.most, .slice (some ⟨rb, 0, none⟩) G.nodes.length cap, .int .i64 0], .agg #[.int .u8 kind, .slice a1 n1 c1, .slice a2 n1 c2, .int .i64 N]] w (FTo w rb (((subW n1 (G, 0) X Y).1, (subW n1 (G, 0) X Y).2, 0) : Mk × List Nat × Nat)) := by
  have hlt := h.lt
  have hsm := h.ok.small
  have hpos := h.ok.wf.pos
  have hC := fun (W : World) (hW : Ch [] w W) => r23Sub_is (h.ch hW (by simp)) n1 c1 c2 (hX.ch hW (by simp)) (hY.ch hW (by simp)) hn hm (by omega) hxr hyr
  generalize subW n1 (G, 0) X Y = R at *
  obtain ⟨⟨G1, q1⟩, l1⟩ := R
  have HCC := Lib.hid hC; clear hC hsm hpos
  have H := Lib.hid h; clear h
  go_enter Tryz.func84, Tryz.ntmps84
  go_wp2_with fail
  refine calls_named fun W hW => ?_
  have b2 : blk W w.heap.size [.int .i64 G.most, .slice (some ⟨rb, 0, none⟩) G.nodes.length cap, .int .i64 0] := by rw [hW]; exact ((blk.new' _ _ rfl).alloc _).alloc _
  have b4 : blk W (w.heap.size + 2) [.int .i64 0, .slice none 0 0, .int .i64 0] := by rw [hW]; exact blk.new' _ _ (by simp)
  have hc : Ch [] w W := by rw [hW]; exact (((Ch.refl _ _).alloc _).alloc _).alloc _
  clear hW
  have HC := Lib.hid hc; clear hc
  refine (HCC.out W HC.out).mono ?_
  rintro e w1 ⟨rb', cap', a, c, rfl, hrg, hch, hfr, hrow, hown⟩
  have hl2 := b4.lt
  have hz := hch.size
  have hzc := HC.out.size
  have B2 := b2.ch hch (by simp)
  have B4 := b4.ch hch (by simp)
  have y0 := B2.cell (i := 0) rfl
  have y1 := B2.cell (i := 1) rfl
  have y2 := B2.cell (i := 2) rfl
  have f0 := B2.frozen (i := 0)
  have f1 := B2.frozen (i := 1)
  have f2 := B2.frozen (i := 2)
  have BB2 := Lib.hid B2; clear B2 b2
  have BB4 := Lib.hid B4; clear B4 b4
  have HRG := Lib.hid hrg; clear hrg
  have HCH := Lib.hid hch; clear hch
  have HROW := Lib.hid hrow; clear hrow
  have HOWN := Lib.hid hown; clear hown
  go_upto_region 27 with fail
  refine wp_alw ?_
  intro W2 hW2
  have B2 := set3_blk BB2.out hW2
  have hcs := set3_ch hW2
  clear hW2
  have hrg := HRG.out.ch hcs (by simp; omega)
  have B4 := BB4.out.ch hcs (by simp)
  have hrow := HROW.out.ch hcs (fun k hk => by have := HOWN.out k hk; simp; omega)
  clear y0 y1 y2 f0 f1 f2 BB2 BB4
  have y0 := B2.cell (i := 0) rfl
  have y1 := B2.cell (i := 1) rfl
  have y2 := B2.cell (i := 2) rfl
  have z0 := B4.cell (i := 0) rfl
  have z1 := B4.cell (i := 1) rfl
  have z2 := B4.cell (i := 2) rfl
  have g0 := B4.frozen (i := 0)
  have g1 := B4.frozen (i := 1)
  have g2 := B4.frozen (i := 2)
  have hzz := B4.lt
  have HRG2 := Lib.hid hrg; clear hrg B2 B4 HRG
  have HCS := Lib.hid hcs; clear hcs
  have HROW2 := Lib.hid hrow; clear hrow HROW
  go_wp2_with fail
  refine bodyPost_ret (v := .tuple #[.agg #[.int .i64 G1.most, .slice (some ⟨rb', 0, none⟩) G1.nodes.length cap', .int .i64 q1], .slice a l1.length c, .int .i64 0]) (by simp [results, Tryz.results84, go_sem, z0, z1, z2]) rfl ?_
  exact FTo.mk2 (R := ((G1, q1), l1, 0)) HC.out HCH.out HCS.out HRG2.out hfr hlt HROW2.out HOWN.out (by omega) (by omega) (by omega) hl2 (set3_ch rfl)
set_option maxRecDepth 100000 in
set_option maxHeartbeats 4000000 in
theorem reference23_7 (h : RG w rb cap G) (kind : Nat) (hk : (kind : Int) % 13 = 7) (a1 : Option Addr) (n1 c1 : Nat) (a2 : Option Addr) (c2 : Nat) (N : Int) {X Y : List Nat} (hn : X.length = n1) (hn0 : 1 ≤ n1 ∧ n1 ≤ 17) (hX : Sl w a1 (natInts X)) (hxr : ∀ r ∈ X, r < 2 * G.nodes.length) (hm : Y.length = n1) (hY : Sl w a2 (natInts Y)) (hyr : ∀ r ∈ Y, r < 2 * G.nodes.length) :
    Calls Tryz.prog 84 #[.agg #[.int .i64 G.most, .slice (some ⟨rb, 0, none⟩) G.nodes.length cap, .int .i64 0], .agg #[.int .u8 kind, .slice a1 n1 c1, .slice a2 n1 c2, .int .i64 N]] w (FTo w rb (((negS (neF (G, 0) (X.zip Y))).1, [], (negS (neF (G, 0) (X.zip Y))).2) : Mk × List Nat × Nat)) := by
  have hlt := h.lt
  have hsm := h.ok.small
  have hpos := h.ok.wf.pos
  have hv := neF_vok h.ok (X.zip Y) (fun p hp => ⟨hxr _ (List.of_mem_zip hp).1, hyr _ (List.of_mem_zip hp).2⟩)
  have hp : (neF (G, 0) (X.zip Y)).2 ≤ 1000000 := by have h1 := hv.lt; have h2 := hv.s.ok.small; exact Nat.le_trans (Nat.le_of_lt h1) (by omega)
  clear hv
  have hC := fun (W : World) (hW : Ch [] w W) => r23Eq_is (h.ch hW (by simp)) n1 c1 c2 (hX.ch hW (by simp)) (hY.ch hW (by simp)) hn hm (by omega) hxr hyr hp
  generalize negS (neF (G, 0) (X.zip Y)) = R at *
  obtain ⟨⟨G1, q1⟩, p1⟩ := R
  have HCC := Lib.hid hC; clear hC hsm hpos
  have H := Lib.hid h; clear h
  go_enter Tryz.func84, Tryz.ntmps84
  go_wp2_with fail
  refine calls_named fun W hW => ?_
  have b2 : blk W w.heap.size [.int .i64 G.most, .slice (some ⟨rb, 0, none⟩) G.nodes.length cap, .int .i64 0] := by rw [hW]; exact ((blk.new' _ _ rfl).alloc _).alloc _
  have b4 : blk W (w.heap.size + 2) [.int .i64 0, .slice none 0 0, .int .i64 0] := by rw [hW]; exact blk.new' _ _ (by simp)
  have hc : Ch [] w W := by rw [hW]; exact (((Ch.refl _ _).alloc _).alloc _).alloc _
  clear hW
  have HC := Lib.hid hc; clear hc
  refine (HCC.out W HC.out).mono ?_
  rintro e w1 ⟨rb', cap', rfl, hrg, hch, hfr⟩
  have hl2 := b4.lt
  have hz := hch.size
  have hzc := HC.out.size
  have B2 := b2.ch hch (by simp)
  have B4 := b4.ch hch (by simp)
  have y0 := B2.cell (i := 0) rfl
  have y1 := B2.cell (i := 1) rfl
  have y2 := B2.cell (i := 2) rfl
  have f0 := B2.frozen (i := 0)
  have f1 := B2.frozen (i := 1)
  have f2 := B2.frozen (i := 2)
  have BB2 := Lib.hid B2; clear B2 b2
  have BB4 := Lib.hid B4; clear B4 b4
  have HRG := Lib.hid hrg; clear hrg
  have HCH := Lib.hid hch; clear hch
  go_upto_region 27 with fail
  refine wp_alw ?_
  intro W2 hW2
  have B2 := set3_blk BB2.out hW2
  have hcs := set3_ch hW2
  clear hW2
  have hrg := HRG.out.ch hcs (by simp; omega)
  have B4 := BB4.out.ch hcs (by simp)
  clear y0 y1 y2 f0 f1 f2 BB2 BB4
  have y0 := B2.cell (i := 0) rfl
  have y1 := B2.cell (i := 1) rfl
  have y2 := B2.cell (i := 2) rfl
  have z0 := B4.cell (i := 0) rfl
  have z1 := B4.cell (i := 1) rfl
  have z2 := B4.cell (i := 2) rfl
  have g0 := B4.frozen (i := 0)
  have g1 := B4.frozen (i := 1)
  have g2 := B4.frozen (i := 2)
  have hzz := B4.lt
  have HRG2 := Lib.hid hrg; clear hrg B2 B4 HRG
  have HCS := Lib.hid hcs; clear hcs
  go_wp2_with fail
  refine bodyPost_ret (v := .tuple #[.agg #[.int .i64 G1.most, .slice (some ⟨rb', 0, none⟩) G1.nodes.length cap', .int .i64 q1], .slice none 0 0, .int .i64 p1]) (by simp [results, Tryz.results84, go_sem, z0, z1, z2]) rfl ?_
  exact FTo.mk2 (R := ((G1, q1), [], p1)) HC.out HCH.out HCS.out HRG2.out hfr hlt ⟨rfl, .inl ⟨rfl, rfl⟩⟩ (by simp [Value.ownBlock]) (by omega) (by omega) (by omega) hl2 (set3_ch rfl)
set_option maxRecDepth 100000 in
set_option maxHeartbeats 4000000 in
theorem reference23_8 (h : RG w rb cap G) (kind : Nat) (hk : (kind : Int) % 13 = 8) (a1 : Option Addr) (n1 c1 : Nat) (a2 : Option Addr) (c2 : Nat) (N : Int) {X Y : List Nat} (hn : X.length = n1) (hn0 : 1 ≤ n1 ∧ n1 ≤ 17) (hX : Sl w a1 (natInts X)) (hxr : ∀ r ∈ X, r < 2 * G.nodes.length) (hm : Y.length = n1) (hY : Sl w a2 (natInts Y)) (hyr : ∀ r ∈ Y, r < 2 * G.nodes.length) :
    Calls Tryz.prog 84 #[.agg #[.int .i64 G.most, .slice (some ⟨rb, 0, none⟩) G.nodes.length cap, .int .i64 0], .agg #[.int .u8 kind, .slice a1 n1 c1, .slice a2 n1 c2, .int .i64 N]] w (FTo w rb (((neF (G, 0) (X.zip Y)).1, [], (neF (G, 0) (X.zip Y)).2) : Mk × List Nat × Nat)) := by
  have hlt := h.lt
  have hsm := h.ok.small
  have hpos := h.ok.wf.pos
  have hC := fun (W : World) (hW : Ch [] w W) => r23Ne_is (h.ch hW (by simp)) n1 c1 c2 (hX.ch hW (by simp)) (hY.ch hW (by simp)) hn hm (by omega) hxr hyr
  generalize neF (G, 0) (X.zip Y) = R at *
  obtain ⟨⟨G1, q1⟩, p1⟩ := R
  have HCC := Lib.hid hC; clear hC hsm hpos
  have H := Lib.hid h; clear h
  go_enter Tryz.func84, Tryz.ntmps84
  go_wp2_with fail
  refine calls_named fun W hW => ?_
  have b2 : blk W w.heap.size [.int .i64 G.most, .slice (some ⟨rb, 0, none⟩) G.nodes.length cap, .int .i64 0] := by rw [hW]; exact ((blk.new' _ _ rfl).alloc _).alloc _
  have b4 : blk W (w.heap.size + 2) [.int .i64 0, .slice none 0 0, .int .i64 0] := by rw [hW]; exact blk.new' _ _ (by simp)
  have hc : Ch [] w W := by rw [hW]; exact (((Ch.refl _ _).alloc _).alloc _).alloc _
  clear hW
  have HC := Lib.hid hc; clear hc
  refine (HCC.out W HC.out).mono ?_
  rintro e w1 ⟨rb', cap', rfl, hrg, hch, hfr⟩
  have hl2 := b4.lt
  have hz := hch.size
  have hzc := HC.out.size
  have B2 := b2.ch hch (by simp)
  have B4 := b4.ch hch (by simp)
  have y0 := B2.cell (i := 0) rfl
  have y1 := B2.cell (i := 1) rfl
  have y2 := B2.cell (i := 2) rfl
  have f0 := B2.frozen (i := 0)
  have f1 := B2.frozen (i := 1)
  have f2 := B2.frozen (i := 2)
  have BB2 := Lib.hid B2; clear B2 b2
  have BB4 := Lib.hid B4; clear B4 b4
  have HRG := Lib.hid hrg; clear hrg
  have HCH := Lib.hid hch; clear hch
  go_upto_region 27 with fail
  refine wp_alw ?_
  intro W2 hW2
  have B2 := set3_blk BB2.out hW2
  have hcs := set3_ch hW2
  clear hW2
  have hrg := HRG.out.ch hcs (by simp; omega)
  have B4 := BB4.out.ch hcs (by simp)
  clear y0 y1 y2 f0 f1 f2 BB2 BB4
  have y0 := B2.cell (i := 0) rfl
  have y1 := B2.cell (i := 1) rfl
  have y2 := B2.cell (i := 2) rfl
  have z0 := B4.cell (i := 0) rfl
  have z1 := B4.cell (i := 1) rfl
  have z2 := B4.cell (i := 2) rfl
  have g0 := B4.frozen (i := 0)
  have g1 := B4.frozen (i := 1)
  have g2 := B4.frozen (i := 2)
  have hzz := B4.lt
  have HRG2 := Lib.hid hrg; clear hrg B2 B4 HRG
  have HCS := Lib.hid hcs; clear hcs
  go_wp2_with fail
  refine bodyPost_ret (v := .tuple #[.agg #[.int .i64 G1.most, .slice (some ⟨rb', 0, none⟩) G1.nodes.length cap', .int .i64 q1], .slice none 0 0, .int .i64 p1]) (by simp [results, Tryz.results84, go_sem, z0, z1, z2]) rfl ?_
  exact FTo.mk2 (R := ((G1, q1), [], p1)) HC.out HCH.out HCS.out HRG2.out hfr hlt ⟨rfl, .inl ⟨rfl, rfl⟩⟩ (by simp [Value.ownBlock]) (by omega) (by omega) (by omega) hl2 (set3_ch rfl)
set_option maxRecDepth 100000 in
set_option maxHeartbeats 4000000 in
theorem reference23_9 (h : RG w rb cap G) (kind : Nat) (hk : (kind : Int) % 13 = 9) (a1 : Option Addr) (n1 c1 : Nat) (a2 : Option Addr) (c2 : Nat) (N : Int) {X Y : List Nat} (hn : X.length = n1) (hn0 : 1 ≤ n1 ∧ n1 ≤ 17) (hX : Sl w a1 (natInts X)) (hxr : ∀ r ∈ X, r < 2 * G.nodes.length) (hm : Y.length = n1) (hY : Sl w a2 (natInts Y)) (hyr : ∀ r ∈ Y, r < 2 * G.nodes.length) :
    Calls Tryz.prog 84 #[.agg #[.int .i64 G.most, .slice (some ⟨rb, 0, none⟩) G.nodes.length cap, .int .i64 0], .agg #[.int .u8 kind, .slice a1 n1 c1, .slice a2 n1 c2, .int .i64 N]] w (FTo w rb (((ltF (G, 0) (X.zip Y)).1, [], (ltF (G, 0) (X.zip Y)).2) : Mk × List Nat × Nat)) := by
  have hlt := h.lt
  have hsm := h.ok.small
  have hpos := h.ok.wf.pos
  have hC := fun (W : World) (hW : Ch [] w W) => r23Lt_is (h.ch hW (by simp)) n1 c1 c2 (hX.ch hW (by simp)) (hY.ch hW (by simp)) hn hm (by omega) hxr hyr
  generalize ltF (G, 0) (X.zip Y) = R at *
  obtain ⟨⟨G1, q1⟩, p1⟩ := R
  have HCC := Lib.hid hC; clear hC hsm hpos
  have H := Lib.hid h; clear h
  go_enter Tryz.func84, Tryz.ntmps84
  go_wp2_with fail
  refine calls_named fun W hW => ?_
  have b2 : blk W w.heap.size [.int .i64 G.most, .slice (some ⟨rb, 0, none⟩) G.nodes.length cap, .int .i64 0] := by rw [hW]; exact ((blk.new' _ _ rfl).alloc _).alloc _
  have b4 : blk W (w.heap.size + 2) [.int .i64 0, .slice none 0 0, .int .i64 0] := by rw [hW]; exact blk.new' _ _ (by simp)
  have hc : Ch [] w W := by rw [hW]; exact (((Ch.refl _ _).alloc _).alloc _).alloc _
  clear hW
  have HC := Lib.hid hc; clear hc
  refine (HCC.out W HC.out).mono ?_
  rintro e w1 ⟨rb', cap', rfl, hrg, hch, hfr⟩
  have hl2 := b4.lt
  have hz := hch.size
  have hzc := HC.out.size
  have B2 := b2.ch hch (by simp)
  have B4 := b4.ch hch (by simp)
  have y0 := B2.cell (i := 0) rfl
  have y1 := B2.cell (i := 1) rfl
  have y2 := B2.cell (i := 2) rfl
  have f0 := B2.frozen (i := 0)
  have f1 := B2.frozen (i := 1)
  have f2 := B2.frozen (i := 2)
  have BB2 := Lib.hid B2; clear B2 b2
  have BB4 := Lib.hid B4; clear B4 b4
  have HRG := Lib.hid hrg; clear hrg
  have HCH := Lib.hid hch; clear hch
  go_upto_region 27 with fail
  refine wp_alw ?_
  intro W2 hW2
  have B2 := set3_blk BB2.out hW2
  have hcs := set3_ch hW2
  clear hW2
  have hrg := HRG.out.ch hcs (by simp; omega)
  have B4 := BB4.out.ch hcs (by simp)
  clear y0 y1 y2 f0 f1 f2 BB2 BB4
  have y0 := B2.cell (i := 0) rfl
  have y1 := B2.cell (i := 1) rfl
  have y2 := B2.cell (i := 2) rfl
  have z0 := B4.cell (i := 0) rfl
  have z1 := B4.cell (i := 1) rfl
  have z2 := B4.cell (i := 2) rfl
  have g0 := B4.frozen (i := 0)
  have g1 := B4.frozen (i := 1)
  have g2 := B4.frozen (i := 2)
  have hzz := B4.lt
  have HRG2 := Lib.hid hrg; clear hrg B2 B4 HRG
  have HCS := Lib.hid hcs; clear hcs
  go_wp2_with fail
  refine bodyPost_ret (v := .tuple #[.agg #[.int .i64 G1.most, .slice (some ⟨rb', 0, none⟩) G1.nodes.length cap', .int .i64 q1], .slice none 0 0, .int .i64 p1]) (by simp [results, Tryz.results84, go_sem, z0, z1, z2]) rfl ?_
  exact FTo.mk2 (R := ((G1, q1), [], p1)) HC.out HCH.out HCS.out HRG2.out hfr hlt ⟨rfl, .inl ⟨rfl, rfl⟩⟩ (by simp [Value.ownBlock]) (by omega) (by omega) (by omega) hl2 (set3_ch rfl)
set_option maxRecDepth 100000 in
set_option maxHeartbeats 4000000 in
theorem reference23_10 (h : RG w rb cap G) (kind : Nat) (hk : (kind : Int) % 13 = 10) (a1 : Option Addr) (n1 c1 : Nat) (a2 : Option Addr) (c2 : Nat) (N : Int) {X Y : List Nat} (hn : X.length = n1) (hn0 : 1 ≤ n1 ∧ n1 ≤ 17) (hX : Sl w a1 (natInts X)) (hxr : ∀ r ∈ X, r < 2 * G.nodes.length) (hm : Y.length = n1) (hY : Sl w a2 (natInts Y)) (hyr : ∀ r ∈ Y, r < 2 * G.nodes.length) :
    Calls Tryz.prog 84 #[.agg #[.int .i64 G.most, .slice (some ⟨rb, 0, none⟩) G.nodes.length cap, .int .i64 0], .agg #[.int .u8 kind, .slice a1 n1 c1, .slice a2 n1 c2, .int .i64 N]] w (FTo w rb (((negS (ltF (G, 0) (Y.zip X))).1, [], (negS (ltF (G, 0) (Y.zip X))).2) : Mk × List Nat × Nat)) := by
  have hlt := h.lt
  have hsm := h.ok.small
  have hpos := h.ok.wf.pos
  have hv := ltF_vok h.ok (Y.zip X) (fun p hp => ⟨hyr _ (List.of_mem_zip hp).1, hxr _ (List.of_mem_zip hp).2⟩)
  have hp : (ltF (G, 0) (Y.zip X)).2 ≤ 1000000 := by have h1 := hv.lt; have h2 := hv.s.ok.small; exact Nat.le_trans (Nat.le_of_lt h1) (by omega)
  clear hv
  have hC := fun (W : World) (hW : Ch [] w W) => r23Le_is (h.ch hW (by simp)) n1 c1 c2 (hX.ch hW (by simp)) (hY.ch hW (by simp)) hn hm (by omega) hxr hyr hp
  generalize negS (ltF (G, 0) (Y.zip X)) = R at *
  obtain ⟨⟨G1, q1⟩, p1⟩ := R
  have HCC := Lib.hid hC; clear hC hsm hpos
  have H := Lib.hid h; clear h
  go_enter Tryz.func84, Tryz.ntmps84
  go_wp2_with fail
  refine calls_named fun W hW => ?_
  have b2 : blk W w.heap.size [.int .i64 G.most, .slice (some ⟨rb, 0, none⟩) G.nodes.length cap, .int .i64 0] := by rw [hW]; exact ((blk.new' _ _ rfl).alloc _).alloc _
  have b4 : blk W (w.heap.size + 2) [.int .i64 0, .slice none 0 0, .int .i64 0] := by rw [hW]; exact blk.new' _ _ (by simp)
  have hc : Ch [] w W := by rw [hW]; exact (((Ch.refl _ _).alloc _).alloc _).alloc _
  clear hW
  have HC := Lib.hid hc; clear hc
  refine (HCC.out W HC.out).mono ?_
  rintro e w1 ⟨rb', cap', rfl, hrg, hch, hfr⟩
  have hl2 := b4.lt
  have hz := hch.size
  have hzc := HC.out.size
  have B2 := b2.ch hch (by simp)
  have B4 := b4.ch hch (by simp)
  have y0 := B2.cell (i := 0) rfl
  have y1 := B2.cell (i := 1) rfl
  have y2 := B2.cell (i := 2) rfl
  have f0 := B2.frozen (i := 0)
  have f1 := B2.frozen (i := 1)
  have f2 := B2.frozen (i := 2)
  have BB2 := Lib.hid B2; clear B2 b2
  have BB4 := Lib.hid B4; clear B4 b4
  have HRG := Lib.hid hrg; clear hrg
  have HCH := Lib.hid hch; clear hch
  go_upto_region 27 with fail
  refine wp_alw ?_
  intro W2 hW2
  have B2 := set3_blk BB2.out hW2
  have hcs := set3_ch hW2
  clear hW2
  have hrg := HRG.out.ch hcs (by simp; omega)
  have B4 := BB4.out.ch hcs (by simp)
  clear y0 y1 y2 f0 f1 f2 BB2 BB4
  have y0 := B2.cell (i := 0) rfl
  have y1 := B2.cell (i := 1) rfl
  have y2 := B2.cell (i := 2) rfl
  have z0 := B4.cell (i := 0) rfl
  have z1 := B4.cell (i := 1) rfl
  have z2 := B4.cell (i := 2) rfl
  have g0 := B4.frozen (i := 0)
  have g1 := B4.frozen (i := 1)
  have g2 := B4.frozen (i := 2)
  have hzz := B4.lt
  have HRG2 := Lib.hid hrg; clear hrg B2 B4 HRG
  have HCS := Lib.hid hcs; clear hcs
  go_wp2_with fail
  refine bodyPost_ret (v := .tuple #[.agg #[.int .i64 G1.most, .slice (some ⟨rb', 0, none⟩) G1.nodes.length cap', .int .i64 q1], .slice none 0 0, .int .i64 p1]) (by simp [results, Tryz.results84, go_sem, z0, z1, z2]) rfl ?_
  exact FTo.mk2 (R := ((G1, q1), [], p1)) HC.out HCH.out HCS.out HRG2.out hfr hlt ⟨rfl, .inl ⟨rfl, rfl⟩⟩ (by simp [Value.ownBlock]) (by omega) (by omega) (by omega) hl2 (set3_ch rfl)
set_option maxRecDepth 100000 in
set_option maxHeartbeats 4000000 in
theorem reference23_11 (h : RG w rb cap G) (kind : Nat) (hk : (kind : Int) % 13 = 11) (a1 : Option Addr) (n1 c1 : Nat) (a2 : Option Addr) (n2 c2 : Nat) (N : Int) {X Y : List Nat} (hn : X.length = n1) (hn0 : 1 ≤ n1 ∧ n1 ≤ 17) (hX : Sl w a1 (natInts X)) (hxr : ∀ r ∈ X, r < 2 * G.nodes.length) :
    Calls Tryz.prog 84 #[.agg #[.int .i64 G.most, .slice (some ⟨rb, 0, none⟩) G.nodes.length cap, .int .i64 0], .agg #[.int .u8 kind, .slice a1 n1 c1, .slice a2 n2 c2, .int .i64 N]] w (FTo w rb (((rstep (G, 0) (rAny G X)).1, [], (rstep (G, 0) (rAny G X)).2) : Mk × List Nat × Nat)) := by
  have hlt := h.lt
  have hsm := h.ok.small
  have hpos := h.ok.wf.pos
  have hC := fun (W : World) (hW : Ch [] w W) => r23Any_is (q := 0) (h.ch hW (by simp)) n1 c1 hn (hX.ch hW (by simp)) hxr (by omega)
  generalize rstep (G, 0) (rAny G X) = R at *
  obtain ⟨⟨G1, q1⟩, p1⟩ := R
  have HCC := Lib.hid hC; clear hC hsm hpos
  have H := Lib.hid h; clear h
  go_enter Tryz.func84, Tryz.ntmps84
  go_wp2_with fail
  refine calls_named fun W hW => ?_
  have b2 : blk W w.heap.size [.int .i64 G.most, .slice (some ⟨rb, 0, none⟩) G.nodes.length cap, .int .i64 0] := by rw [hW]; exact ((blk.new' _ _ rfl).alloc _).alloc _
  have b4 : blk W (w.heap.size + 2) [.int .i64 0, .slice none 0 0, .int .i64 0] := by rw [hW]; exact blk.new' _ _ (by simp)
  have hc : Ch [] w W := by rw [hW]; exact (((Ch.refl _ _).alloc _).alloc _).alloc _
  clear hW
  have HC := Lib.hid hc; clear hc
  refine (HCC.out W HC.out).mono ?_
  rintro e w1 ⟨rb', cap', rfl, hrg, hch, hfr⟩
  have hl2 := b4.lt
  have hz := hch.size
  have hzc := HC.out.size
  have B2 := b2.ch hch (by simp)
  have B4 := b4.ch hch (by simp)
  have y0 := B2.cell (i := 0) rfl
  have y1 := B2.cell (i := 1) rfl
  have y2 := B2.cell (i := 2) rfl
  have f0 := B2.frozen (i := 0)
  have f1 := B2.frozen (i := 1)
  have f2 := B2.frozen (i := 2)
  have BB2 := Lib.hid B2; clear B2 b2
  have BB4 := Lib.hid B4; clear B4 b4
  have HRG := Lib.hid hrg; clear hrg
  have HCH := Lib.hid hch; clear hch
  go_upto_region 27 with fail
  refine wp_alw ?_
  intro W2 hW2
  have B2 := set3_blk BB2.out hW2
  have hcs := set3_ch hW2
  clear hW2
  have hrg := HRG.out.ch hcs (by simp; omega)
  have B4 := BB4.out.ch hcs (by simp)
  clear y0 y1 y2 f0 f1 f2 BB2 BB4
  have y0 := B2.cell (i := 0) rfl
  have y1 := B2.cell (i := 1) rfl
  have y2 := B2.cell (i := 2) rfl
  have z0 := B4.cell (i := 0) rfl
  have z1 := B4.cell (i := 1) rfl
  have z2 := B4.cell (i := 2) rfl
  have g0 := B4.frozen (i := 0)
  have g1 := B4.frozen (i := 1)
  have g2 := B4.frozen (i := 2)
  have hzz := B4.lt
  have HRG2 := Lib.hid hrg; clear hrg B2 B4 HRG
  have HCS := Lib.hid hcs; clear hcs
  go_wp2_with fail
  refine bodyPost_ret (v := .tuple #[.agg #[.int .i64 G1.most, .slice (some ⟨rb', 0, none⟩) G1.nodes.length cap', .int .i64 q1], .slice none 0 0, .int .i64 p1]) (by simp [results, Tryz.results84, go_sem, z0, z1, z2]) rfl ?_
  exact FTo.mk2 (R := ((G1, q1), [], p1)) HC.out HCH.out HCS.out HRG2.out hfr hlt ⟨rfl, .inl ⟨rfl, rfl⟩⟩ (by simp [Value.ownBlock]) (by omega) (by omega) (by omega) hl2 (set3_ch rfl)
set_option maxRecDepth 100000 in
set_option maxHeartbeats 4000000 in
theorem reference23_12 (h : RG w rb cap G) (kind : Nat) (hk : (kind : Int) % 13 = 12) (a1 : Option Addr) (n1 c1 : Nat) (a2 : Option Addr) (n2 c2 : Nat) (n : Nat) {X Y : List Nat} (hn0 : n ≤ 17) :
    Calls Tryz.prog 84 #[.agg #[.int .i64 G.most, .slice (some ⟨rb, 0, none⟩) G.nodes.length cap, .int .i64 0], .agg #[.int .u8 kind, .slice a1 n1 c1, .slice a2 n2 c2, .int .i64 n]] w (FTo w rb (((inF (G, 0) n).1, (inF (G, 0) n).2, 0) : Mk × List Nat × Nat)) := by
  have hlt := h.lt
  have hsm := h.ok.small
  have hpos := h.ok.wf.pos
  have hC := fun (W : World) (hW : Ch [] w W) => r23Input_is (h.ch hW (by simp)) n (by omega)
  generalize inF (G, 0) n = R at *
  obtain ⟨⟨G1, q1⟩, l1⟩ := R
  have HCC := Lib.hid hC; clear hC hsm hpos
  have H := Lib.hid h; clear h
  go_enter Tryz.func84, Tryz.ntmps84
  go_wp2_with fail
  refine calls_named fun W hW => ?_
  have b2 : blk W w.heap.size [.int .i64 G.most, .slice (some ⟨rb, 0, none⟩) G.nodes.length cap, .int .i64 0] := by rw [hW]; exact ((blk.new' _ _ rfl).alloc _).alloc _
  have b4 : blk W (w.heap.size + 2) [.int .i64 0, .slice none 0 0, .int .i64 0] := by rw [hW]; exact blk.new' _ _ (by simp)
  have hc : Ch [] w W := by rw [hW]; exact (((Ch.refl _ _).alloc _).alloc _).alloc _
  clear hW
  have HC := Lib.hid hc; clear hc
  refine (HCC.out W HC.out).mono ?_
  rintro e w1 ⟨rb', cap', a, c, rfl, hrg, hch, hfr, hrow, hown⟩
  have hl2 := b4.lt
  have hz := hch.size
  have hzc := HC.out.size
  have B2 := b2.ch hch (by simp)
  have B4 := b4.ch hch (by simp)
  have y0 := B2.cell (i := 0) rfl
  have y1 := B2.cell (i := 1) rfl
  have y2 := B2.cell (i := 2) rfl
  have f0 := B2.frozen (i := 0)
  have f1 := B2.frozen (i := 1)
  have f2 := B2.frozen (i := 2)
  have BB2 := Lib.hid B2; clear B2 b2
  have BB4 := Lib.hid B4; clear B4 b4
  have HRG := Lib.hid hrg; clear hrg
  have HCH := Lib.hid hch; clear hch
  have HROW := Lib.hid hrow; clear hrow
  have HOWN := Lib.hid hown; clear hown
  go_upto_region 27 with fail
  refine wp_alw ?_
  intro W2 hW2
  have B2 := set3_blk BB2.out hW2
  have hcs := set3_ch hW2
  clear hW2
  have hrg := HRG.out.ch hcs (by simp; omega)
  have B4 := BB4.out.ch hcs (by simp)
  have hrow := HROW.out.ch hcs (fun k hk => by have := HOWN.out k hk; simp; omega)
  clear y0 y1 y2 f0 f1 f2 BB2 BB4
  have y0 := B2.cell (i := 0) rfl
  have y1 := B2.cell (i := 1) rfl
  have y2 := B2.cell (i := 2) rfl
  have z0 := B4.cell (i := 0) rfl
  have z1 := B4.cell (i := 1) rfl
  have z2 := B4.cell (i := 2) rfl
  have g0 := B4.frozen (i := 0)
  have g1 := B4.frozen (i := 1)
  have g2 := B4.frozen (i := 2)
  have hzz := B4.lt
  have HRG2 := Lib.hid hrg; clear hrg B2 B4 HRG
  have HCS := Lib.hid hcs; clear hcs
  have HROW2 := Lib.hid hrow; clear hrow HROW
  go_wp2_with fail
  refine bodyPost_ret (v := .tuple #[.agg #[.int .i64 G1.most, .slice (some ⟨rb', 0, none⟩) G1.nodes.length cap', .int .i64 q1], .slice a l1.length c, .int .i64 0]) (by simp [results, Tryz.results84, go_sem, z0, z1, z2]) rfl ?_
  exact FTo.mk2 (R := ((G1, q1), l1, 0)) HC.out HCH.out HCS.out HRG2.out hfr hlt HROW2.out HOWN.out (by omega) (by omega) (by omega) hl2 (set3_ch rfl)
theorem reference23_is (h : RG w rb cap G) (kind : Nat) (a1 : Option Addr) (n1 c1 : Nat) (a2 : Option Addr) (n2 c2 : Nat) (N : Int) {X Y : List Int} (hn : X.length = n1) (hm : Y.length = n2) (hX : Sl w a1 X) (hY : Sl w a2 Y) (hf : f23 (kind % 13) G X Y N = 0) :
    Calls Tryz.prog 84 #[.agg #[.int .i64 G.most, .slice (some ⟨rb, 0, none⟩) G.nodes.length cap, .int .i64 0], .agg #[.int .u8 kind, .slice a1 n1 c1, .slice a2 n2 c2, .int .i64 N]] w (FTo w rb (RF (kind % 13) G (nats X) (nats Y) N.toNat)) := by
  subst hn
  have hlt : kind % 13 < 13 := Nat.mod_lt _ (by omega)
  obtain ⟨k, hk⟩ : ∃ k, kind % 13 = k := ⟨_, rfl⟩
  rw [hk] at hlt hf ⊢
  have hki : (kind : Int) % 13 = k := by omega
  clear hk
  by_cases h12 : k = 12
  · subst h12
    obtain ⟨n, rfl, hn0⟩ := f23_in hf
    have hc := reference23_12 h kind hki a1 X.length c1 a2 n2 c2 n (X := nats X) (Y := nats Y) hn0
    simpa [RF] using hc
  · have c1x := f23_one h12 hf
    have hXn : Sl w a1 (natInts (nats X)) := by rw [show natInts (nats X) = X from c1x.cast]; exact hX
    have hl : (nats X).length = X.length := nats_len X
    have hb : 1 ≤ X.length ∧ X.length ≤ 17 := ⟨c1x.r1, c1x.r2⟩
    by_cases h1 : k < 2 ∨ k = 11
    · rcases (by omega : k = 0 ∨ k = 1 ∨ k = 11) with rfl | rfl | rfl
      · exact reference23_0 h kind hki a1 X.length c1 a2 n2 c2 N (Y := nats Y) hl hb hXn c1x.lt
      · have e : RF 1 G (nats X) (nats Y) N.toNat = ((subW X.length (G, 0) (List.replicate X.length 0) (nats X)).1, (subW X.length (G, 0) (List.replicate X.length 0) (nats X)).2, 0) := by unfold RF; simp only [nats_len]
        rw [e]
        exact reference23_1 h kind hki a1 X.length c1 a2 n2 c2 N (Y := nats Y) hl hb hXn c1x.lt
      · exact reference23_11 h kind hki a1 X.length c1 a2 n2 c2 N (Y := nats Y) hl hb hXn c1x.lt
    · have c2y := f23_two h12 (by omega) (by omega) hf
      have hYn : Sl w a2 (natInts (nats Y)) := by rw [show natInts (nats Y) = Y from c2y.cast]; exact hY
      have hyl : (nats Y).length = X.length := by rw [nats_len]; exact c2y.len
      have hn2 : n2 = X.length := by rw [← hm]; exact c2y.len
      subst hn2
      rcases (by omega : k = 2 ∨ k = 3 ∨ k = 4 ∨ k = 5 ∨ k = 6 ∨ k = 7 ∨ k = 8 ∨ k = 9 ∨ k = 10) with rfl | rfl | rfl | rfl | rfl | rfl | rfl | rfl | rfl
      · exact reference23_2 h kind hki a1 X.length c1 a2 c2 N hl hb hXn c1x.lt hyl hYn c2y.lt
      · exact reference23_3 h kind hki a1 X.length c1 a2 c2 N hl hb hXn c1x.lt hyl hYn c2y.lt
      · exact reference23_4 h kind hki a1 X.length c1 a2 c2 N hl hb hXn c1x.lt hyl hYn c2y.lt
      · have e : RF 5 G (nats X) (nats Y) N.toNat = ((sumW X.length (G, 0) ((nats X).zip (nats Y)) 0).1, (sumW X.length (G, 0) ((nats X).zip (nats Y)) 0).2, 0) := by unfold RF; simp only [nats_len]
        rw [e]
        exact reference23_5 h kind hki a1 X.length c1 a2 c2 N hl hb hXn c1x.lt hyl hYn c2y.lt
      · have e : RF 6 G (nats X) (nats Y) N.toNat = ((subW X.length (G, 0) (nats X) (nats Y)).1, (subW X.length (G, 0) (nats X) (nats Y)).2, 0) := by unfold RF; simp only [nats_len]
        rw [e]
        exact reference23_6 h kind hki a1 X.length c1 a2 c2 N hl hb hXn c1x.lt hyl hYn c2y.lt
      · exact reference23_7 h kind hki a1 X.length c1 a2 c2 N hl hb hXn c1x.lt hyl hYn c2y.lt
      · exact reference23_8 h kind hki a1 X.length c1 a2 c2 N hl hb hXn c1x.lt hyl hYn c2y.lt
      · exact reference23_9 h kind hki a1 X.length c1 a2 c2 N hl hb hXn c1x.lt hyl hYn c2y.lt
      · exact reference23_10 h kind hki a1 X.length c1 a2 c2 N hl hb hXn c1x.lt hyl hYn c2y.lt
end
end Go.Proofs.YtchledddgmbndaaGreat
namespace Go.Aig
/-- what the program tells of a node -/
theorem node_tells {G : Gra} (h : Ok G) {n : Nat} {x : Nd} (hx : G.nodes[n]? = some x) : kindOf G.nodes ((2 * n : Nat) : Int) = x.k ∧ lOf G.nodes ((2 * n : Nat) : Int) = x.l ∧ rOf G.nodes ((2 * n : Nat) : Int) = x.r ∧ x.k ≤ 3 := by
  have hn : nodeAt G.nodes ((2 * n : Nat) : Int) = some x := by
    unfold nodeAt
    rw [if_pos (by omega), Int.toNat_natCast, show 2 * n / 2 = n by omega, hx]
  unfold kindOf lOf rOf
  rw [hn]
  refine ⟨rfl, ?_, ?_, ?_⟩
  · show (if x.k = 3 then x.l else 0) = x.l
    by_cases h0 : n = 0
    · subst h0; rw [h.wf.const] at hx; cases hx; rfl
    · rcases h.wf.other n x hx (by omega) with e | e
      · rw [e]; rfl
      · rw [if_pos e.1]
  · show (if x.k = 3 then x.r else 0) = x.r
    by_cases h0 : n = 0
    · subst h0; rw [h.wf.const] at hx; cases hx; rfl
    · rcases h.wf.other n x hx (by omega) with e | e
      · rw [e]; rfl
      · rw [if_pos e.1]
  · by_cases h0 : n = 0
    · subst h0; rw [h.wf.const] at hx; cases hx; decide
    · rcases h.wf.other n x hx (by omega) with e | e
      · rw [e]; decide
      · omega
end Go.Aig
namespace Go.Proofs.YtchledddgmbndaaGreat
open Go.RowKit Go.Mem Go.Aig
section
variable {w : World} {g : Nat} {G : Gra} {F : List Nat}
theorem Room_j (h : GIn w g G F) : Calls Tryz.prog 85 #[.pointer (some ⟨g, 0, none⟩)] w fun e w' => e = .returned (.int .i64 ((G.most : Int) - G.nodes.length)) ∧ Ch [] w w' := by
  have hr := h.ok.room
  have hc := Room_g h
  rw [show ((G.most - G.nodes.length : Nat) : Int) = (G.most : Int) - G.nodes.length by omega] at hc
  exact hc
set_option maxRecDepth 100000 in
set_option maxHeartbeats 4000000 in
theorem Same23_is (h : GIn w g G F) {rb cap : Nat} (hr : RG w rb cap G) :
    Calls Tryz.prog 31 #[.pointer (some ⟨g, 0, none⟩), .agg #[.int .i64 G.most, .slice (some ⟨rb, 0, none⟩) G.nodes.length cap]] w fun e w' => e = .returned (.bool true) ∧ Ch [] w w' := by
  obtain ⟨hl, hp, hmo⟩ := hr.len
  have hle := hr.le
  have hmx := hr.mx
  have hml : (G.nodes.length : Int) ≤ G.most := by have := hr.ok.room; omega
  have htl := fun n x (hx : G.nodes[n]? = some x) => node_tells hr.ok hx
  have HTL := Lib.hid htl; clear htl
  have H := Lib.hid h; clear h
  have HR := Lib.hid hr; clear hr
  go_enter Tryz.func31, Tryz.ntmps31
  go_upto_region 1 with fail
  refine wp_alw ?_
  intro W0 hW0
  have hc0 : Ch [] w W0 := by rw [hW0]; exact (Ch.refl _ _).alloc _
  have b3 : blk W0 w.heap.size [.int .i64 G.most, .slice (some ⟨rb, 0, none⟩) G.nodes.length cap] := by rw [hW0]; exact blk.new' (w := w) [.int .i64 G.most, .slice (some ⟨rb, 0, none⟩) G.nodes.length cap] 68 rfl
  clear hW0
  have hg0 := H.out.same hc0 (by simp)
  have hLen := Len_g (hg0.same (Ch.refl [] W0).drew (by simp))
  have hRoom := Room_j (hg0.same (Ch.refl [] W0).drew (by simp))
  have HLEN := Lib.hid hLen; clear hLen
  have HROOM := Lib.hid hRoom; clear hRoom hg0
  have y0 := b3.cell (i := 0) rfl
  have y1 := b3.cell (i := 1) rfl
  have BB3 := Lib.hid b3; clear b3
  have HC0 := Lib.hid hc0; clear hc0
  go_wp2_with fail
  have hcurd : Ch [] W0 W0.drew := (Ch.refl [] W0).drew
  refine Ord.St.door (fun w' => Ch [] W0 w') [.fl, .rd, .fl, .rd, .fl, .fl, .fl, .fl, .ef, .fl, .ho, .fl, .ho, .fl, .fl, .fl, .fl] [0, 1, 0, 4, 12, 31, 63, 127, 255, 127, 639, 127, 2175, 6271, 15999, 32767, 65535] [0, 1, 2, 3, 4, 5, 6, 7, 8, 9, 10, 11, 12, 13, 14, 15, 16] mixed (by kernel_rfl) rfl ?_
  refine Ord.St.fl2 (T' := ?_) 0 [1, 2, 3, 4, 5, 6, 7, 8, 9, 10, 11, 12, 13, 14, 15, 16] _ _ rfl (by kernel_rfl) rfl rfl rfl rfl (fun K w' hk => ?_) ?_
  rotate_left
  · go_step; exact hk
  refine Ord.St.rd2 (T' := ?_) 1 [2, 3, 4, 5, 6, 7, 8, 9, 10, 11, 12, 13, 14, 15, 16] _ _ rfl (by kernel_rfl) rfl rfl rfl rfl (fun K hk => ?_) ?_
  rotate_left
  · go_step; refine HLEN.out.mono ?_; rintro e w'' ⟨rfl, rfl⟩; exact hk
  refine Ord.St.fl2 (T' := ?_) 2 [3, 4, 5, 6, 7, 8, 9, 10, 11, 12, 13, 14, 15, 16] _ _ rfl (by kernel_rfl) rfl rfl rfl rfl (fun K w' hk => ?_) ?_
  rotate_left
  · go_step; exact hk
  refine Ord.St.rd2 (T' := ?_) 3 [4, 5, 6, 7, 8, 9, 10, 11, 12, 13, 14, 15, 16] _ _ rfl (by kernel_rfl) rfl rfl rfl rfl (fun K hk => ?_) ?_
  rotate_left
  · go_step; exact hk
  refine Ord.St.fl2 (T' := ?_) 4 [5, 6, 7, 8, 9, 10, 11, 12, 13, 14, 15, 16] _ _ rfl (by kernel_rfl) rfl rfl rfl rfl (fun K w' hk => ?_) ?_
  rotate_left
  · go_step; exact hk
  refine Ord.St.fl2 (T' := ?_) 5 [6, 7, 8, 9, 10, 11, 12, 13, 14, 15, 16] _ _ rfl (by kernel_rfl) rfl rfl rfl rfl (fun K w' hk => ?_) ?_
  rotate_left
  · go_step; exact hk
  refine Ord.St.fl2 (T' := ?_) 6 [7, 8, 9, 10, 11, 12, 13, 14, 15, 16] _ _ rfl (by kernel_rfl) rfl rfl rfl rfl (fun K w' hk => ?_) ?_
  rotate_left
  · go_step; exact hk
  first | (refine Ord.St.fl2 (T' := ?_) 7 [8, 9, 10, 11, 12, 13, 14, 15, 16] _ _ rfl (by kernel_rfl) ?_ rfl rfl rfl (fun K w' hk => ?_) ?_; rotate_left; (first | rfl | (simp [Region.wanted, yielded, *]; done)); focus (go_step; exact hk)) | (refine Ord.St.skip 7 [8, 9, 10, 11, 12, 13, 14, 15, 16] _ rfl (by kernel_rfl) ?_ (fun K hK => ?_); (first | rfl | (simp [Region.wanted, yielded, *]; done)); go_simp; refine hK _ ?_; clear hK K)
  first | (refine Ord.St.fl2 (T' := ?_) 9 [8, 10, 11, 12, 13, 14, 15, 16] _ _ rfl (by kernel_rfl) ?_ rfl rfl rfl (fun K w' hk => ?_) ?_; rotate_left; (first | rfl | (simp [Region.wanted, yielded, *]; done)); focus (go_step; exact hk)) | (refine Ord.St.skip 9 [8, 10, 11, 12, 13, 14, 15, 16] _ rfl (by kernel_rfl) ?_ (fun K hK => ?_); (first | rfl | (simp [Region.wanted, yielded, *]; done)); go_simp; refine hK _ ?_; clear hK K)
  refine Ord.St.ho2 (T' := ?_) 10 [8, 11, 12, 13, 14, 15, 16] _ _ rfl (by kernel_rfl) (by first | rfl | simp [Region.wanted, yielded, *]) rfl rfl rfl ?_ (fun K w' hw' hk => ?_) ?_
  rotate_left
  · trivial
  · have z0 := (BB3.out.ch hw' (by simp)).cell (i := 0) rfl; have z1 := (BB3.out.ch hw' (by simp)).cell (i := 1) rfl; go_step; exact hk
  first | (refine Ord.St.fl2 (T' := ?_) 11 [8, 12, 13, 14, 15, 16] _ _ rfl (by kernel_rfl) ?_ rfl rfl rfl (fun K w' hk => ?_) ?_; rotate_left; (first | rfl | (simp [Region.wanted, yielded, *]; done)); focus (go_step; exact hk)) | (refine Ord.St.skip 11 [8, 12, 13, 14, 15, 16] _ rfl (by kernel_rfl) ?_ (fun K hK => ?_); (first | rfl | (simp [Region.wanted, yielded, *]; done)); go_simp; refine hK _ ?_; clear hK K)
  refine Ord.St.ho2 (T' := ?_) 12 [8, 13, 14, 15, 16] _ _ rfl (by kernel_rfl) (by first | rfl | simp [Region.wanted, yielded, *]) rfl rfl rfl ?_ (fun K w' hw' hk => ?_) ?_
  rotate_left
  · trivial
  · have z0 := (BB3.out.ch hw' (by simp)).cell (i := 0) rfl; have z1 := (BB3.out.ch hw' (by simp)).cell (i := 1) rfl; go_step; exact hk
  first | (refine Ord.St.fl2 (T' := ?_) 13 [8, 14, 15, 16] _ _ rfl (by kernel_rfl) ?_ rfl rfl rfl (fun K w' hk => ?_) ?_; rotate_left; (first | rfl | (simp [Region.wanted, yielded, *]; done)); focus (go_step; exact hk)) | (refine Ord.St.skip 13 [8, 14, 15, 16] _ rfl (by kernel_rfl) ?_ (fun K hK => ?_); (first | rfl | (simp [Region.wanted, yielded, *]; done)); go_simp; refine hK _ ?_; clear hK K)
  first | (refine Ord.St.fl2 (T' := ?_) 14 [8, 15, 16] _ _ rfl (by kernel_rfl) ?_ rfl rfl rfl (fun K w' hk => ?_) ?_; rotate_left; (first | rfl | (simp [Region.wanted, yielded, *]; done)); focus (go_step; exact hk)) | (refine Ord.St.skip 14 [8, 15, 16] _ rfl (by kernel_rfl) ?_ (fun K hK => ?_); (first | rfl | (simp [Region.wanted, yielded, *]; done)); go_simp; refine hK _ ?_; clear hK K)
  refine Ord.St.efC 8 [15, 16] _ rfl (by kernel_rfl) (fun K hK => ?_)
  go_wp2_with fail
  refine HROOM.out.mono ?_
  rintro e w2 ⟨rfl, hc2⟩
  have hcur : Ch [] W0 w2 := (Ch.refl [] W0).drew.trans hc2 (by simp)
  have b3 := BB3.out.ch hcur (by simp)
  have x0 := b3.cell (i := 0) rfl
  have x1 := b3.cell (i := 1) rfl
  clear hcurd b3 y0 y1 hc2 HROOM HLEN
  go_wp2_with fail
  refine ⟨rfl, hK _ _ ?_ ?_⟩
  · exact hcur
  clear hK K
  first | (refine Ord.St.fl2 (T' := ?_) 15 [16] _ _ rfl (by kernel_rfl) ?_ rfl rfl rfl (fun K w' hk => ?_) ?_; rotate_left; (first | rfl | (simp [Region.wanted, yielded, *]; done)); focus (go_step; exact hk)) | (refine Ord.St.skip 15 [16] _ rfl (by kernel_rfl) ?_ (fun K hK => ?_); (first | rfl | (simp [Region.wanted, yielded, *]; done)); go_simp; refine hK _ ?_; clear hK K)
  refine Ord.St.fl2 (T' := ?_) 16 [] _ _ rfl (by kernel_rfl) rfl rfl rfl rfl (fun K w' hk => ?_) ?_
  rotate_left
  · go_step; exact hk
  refine Ord.St.nil ?_
  go_wp2_with fail
  have HC2 := Lib.hid hcur; clear hcur x0 x1
  go_loopw [30] (fun i wr => ∃ k : Nat, k ≤ G.nodes.length ∧ i = .int .i64 k ∧ Ch [] w wr) (fun i _ => G.nodes.length - (intOf i).toNat)
  case atStart => exact ⟨0, by omega, rfl, HC0.out.trans HC2.out (by simp)⟩
  case round =>
    obtain ⟨k, hk, rfl, hc⟩ := hrel
    by_cases hlt : k < G.nodes.length
    · obtain ⟨x, hx⟩ : ∃ x, G.nodes[k]? = some x := ⟨_, List.getElem?_eq_getElem hlt⟩
      obtain ⟨t1, t2, t3, t4⟩ := HTL.out k x hx
      have hrr := HR.out.ch hc (by simp)
      obtain ⟨d0, d1, d2⟩ := hrr.node hx
      have hcA : Ch [] w (wr.alloc (.cells #[.int .i64 x.k, .int .i64 x.l, .int .i64 x.r] 135)) := hc.alloc _
      have hg1 := H.out.same hcA (by simp)
      have hS := Sides_g hg1 ((2 * k : Nat) : Int) (by omega)
      rw [t2, t3, show ((2 * k : Nat) : Int) = 2 * (k : Int) by omega] at hS
      generalize isAndAt G.nodes (2 * (k : Int)) = ia at hS
      have hK := fun (W : World) (hW : Ch [] w W) => Kind_g (H.out.same hW (by simp)) ((2 * k : Nat) : Int) (by omega)
      rw [t1, show ((2 * k : Nat) : Int) = 2 * (k : Int) by omega] at hK
      have HS := Lib.hid hS; clear hS
      have HK := Lib.hid hK; clear hK
      have HCA := Lib.hid hcA; clear hcA hc hg1 hrr t1 t2 t3 hx
      go_wp2_with fail
      refine HS.out.mono ?_
      rintro e w3 ⟨rfl, hc3⟩
      have b6 : blk w3 wr.heap.size [.int .i64 x.k, .int .i64 x.l, .int .i64 x.r] := (blk.new' (w := wr) [.int .i64 x.k, .int .i64 x.l, .int .i64 x.r] 135 (by simp)).ch hc3 (by simp)
      have hc13 := HCA.out.trans hc3 (by simp)
      have HKK := Lib.hid (HK.out _ hc13.drew)
      have z0 := b6.cell (i := 0) rfl
      have z1 := b6.cell (i := 1) rfl
      have z2 := b6.cell (i := 2) rfl
      have HC13 := Lib.hid hc13; clear hc13 hc3 b6 HS HK d0 d1 d2
      go_wp2_with fail
      refine Ord.St.door (fun _ => True) [.fl, .fl, .fl, .rd, .fl, .fl, .rd, .fl, .fl, .fl, .fl, .rd, .fl, .fl, .fl, .fl, .fl, .rd, .fl, .fl] [0, 0, 2, 7, 15, 0, 32, 127, 255, 511, 511, 1535, 4095, 8191, 16383, 32767, 32767, 98303, 262143, 524287] [0, 1, 2, 3, 4, 5, 6, 7, 8, 9, 10, 11, 12, 13, 14, 15, 16, 17, 18, 19] mixed (by kernel_rfl) rfl ?_
      refine Ord.St.fl2 (T' := ?_) 0 [1, 2, 3, 4, 5, 6, 7, 8, 9, 10, 11, 12, 13, 14, 15, 16, 17, 18, 19] _ _ rfl (by kernel_rfl) rfl rfl rfl rfl (fun K w' hk => ?_) ?_
      rotate_left
      · go_step; exact hk
      refine Ord.St.fl2 (T' := ?_) 1 [2, 3, 4, 5, 6, 7, 8, 9, 10, 11, 12, 13, 14, 15, 16, 17, 18, 19] _ _ rfl (by kernel_rfl) rfl rfl rfl rfl (fun K w' hk => ?_) ?_
      rotate_left
      · go_step; exact hk
      refine Ord.St.fl2 (T' := ?_) 2 [3, 4, 5, 6, 7, 8, 9, 10, 11, 12, 13, 14, 15, 16, 17, 18, 19] _ _ rfl (by kernel_rfl) rfl rfl rfl rfl (fun K w' hk => ?_) ?_
      rotate_left
      · go_step; exact hk
      refine Ord.St.rd2 (T' := ?_) 3 [4, 5, 6, 7, 8, 9, 10, 11, 12, 13, 14, 15, 16, 17, 18, 19] _ _ rfl (by kernel_rfl) rfl rfl rfl rfl (fun K hk => ?_) ?_
      rotate_left
      · go_step; refine HKK.out.mono ?_; rintro e w'' ⟨rfl, rfl⟩; exact hk
      refine Ord.St.fl2 (T' := ?_) 4 [5, 6, 7, 8, 9, 10, 11, 12, 13, 14, 15, 16, 17, 18, 19] _ _ rfl (by kernel_rfl) rfl rfl rfl rfl (fun K w' hk => ?_) ?_
      rotate_left
      · go_step; exact hk
      refine Ord.St.fl2 (T' := ?_) 5 [6, 7, 8, 9, 10, 11, 12, 13, 14, 15, 16, 17, 18, 19] _ _ rfl (by kernel_rfl) rfl rfl rfl rfl (fun K w' hk => ?_) ?_
      rotate_left
      · go_step; exact hk
      refine Ord.St.rd2 (T' := ?_) 6 [7, 8, 9, 10, 11, 12, 13, 14, 15, 16, 17, 18, 19] _ _ rfl (by kernel_rfl) rfl rfl rfl rfl (fun K hk => ?_) ?_
      rotate_left
      · go_step; exact hk
      refine Ord.St.fl2 (T' := ?_) 7 [8, 9, 10, 11, 12, 13, 14, 15, 16, 17, 18, 19] _ _ rfl (by kernel_rfl) rfl rfl rfl rfl (fun K w' hk => ?_) ?_
      rotate_left
      · go_step; exact hk
      refine Ord.St.fl2 (T' := ?_) 8 [9, 10, 11, 12, 13, 14, 15, 16, 17, 18, 19] _ _ rfl (by kernel_rfl) rfl rfl rfl rfl (fun K w' hk => ?_) ?_
      rotate_left
      · go_step; exact hk
      first | (refine Ord.St.fl2 (T' := ?_) 9 [10, 11, 12, 13, 14, 15, 16, 17, 18, 19] _ _ rfl (by kernel_rfl) ?_ rfl rfl rfl (fun K w' hk => ?_) ?_; rotate_left; (first | rfl | (simp [Region.wanted, yielded, *]; done)); focus (go_step; exact hk)) | (refine Ord.St.skip 9 [10, 11, 12, 13, 14, 15, 16, 17, 18, 19] _ rfl (by kernel_rfl) ?_ (fun K hK => ?_); (first | rfl | (simp [Region.wanted, yielded, *]; done)); go_simp; refine hK _ ?_; clear hK K)
      first | (refine Ord.St.fl2 (T' := ?_) 10 [11, 12, 13, 14, 15, 16, 17, 18, 19] _ _ rfl (by kernel_rfl) ?_ rfl rfl rfl (fun K w' hk => ?_) ?_; rotate_left; (first | rfl | (simp [Region.wanted, yielded, *]; done)); focus (go_step; exact hk)) | (refine Ord.St.skip 10 [11, 12, 13, 14, 15, 16, 17, 18, 19] _ rfl (by kernel_rfl) ?_ (fun K hK => ?_); (first | rfl | (simp [Region.wanted, yielded, *]; done)); go_simp; refine hK _ ?_; clear hK K)
      first | (refine Ord.St.rd2 (T' := ?_) 11 [12, 13, 14, 15, 16, 17, 18, 19] _ _ rfl (by kernel_rfl) ?_ rfl rfl rfl (fun K hk => ?_) ?_; rotate_left; (first | rfl | (simp [Region.wanted, yielded, *]; done)); focus (go_step; exact hk)) | (refine Ord.St.skipr 11 [12, 13, 14, 15, 16, 17, 18, 19] _ rfl (by kernel_rfl) ?_ (fun K hK => ?_); (first | rfl | (simp [Region.wanted, yielded, *]; done)); go_simp; refine hK _ ?_; clear hK K)
      first | (refine Ord.St.fl2 (T' := ?_) 12 [13, 14, 15, 16, 17, 18, 19] _ _ rfl (by kernel_rfl) ?_ rfl rfl rfl (fun K w' hk => ?_) ?_; rotate_left; (first | rfl | (simp [Region.wanted, yielded, *]; done)); focus (go_step; exact hk)) | (refine Ord.St.skip 12 [13, 14, 15, 16, 17, 18, 19] _ rfl (by kernel_rfl) ?_ (fun K hK => ?_); (first | rfl | (simp [Region.wanted, yielded, *]; done)); go_simp; refine hK _ ?_; clear hK K)
      refine Ord.St.fl2 (T' := ?_) 13 [14, 15, 16, 17, 18, 19] _ _ rfl (by kernel_rfl) rfl rfl rfl rfl (fun K w' hk => ?_) ?_
      rotate_left
      · go_step; exact hk
      refine Ord.St.fl2 (T' := ?_) 14 [15, 16, 17, 18, 19] _ _ rfl (by kernel_rfl) rfl rfl rfl rfl (fun K w' hk => ?_) ?_
      rotate_left
      · go_step; exact hk
      first | (refine Ord.St.fl2 (T' := ?_) 15 [16, 17, 18, 19] _ _ rfl (by kernel_rfl) ?_ rfl rfl rfl (fun K w' hk => ?_) ?_; rotate_left; (first | rfl | (simp [Region.wanted, yielded, *]; done)); focus (go_step; exact hk)) | (refine Ord.St.skip 15 [16, 17, 18, 19] _ rfl (by kernel_rfl) ?_ (fun K hK => ?_); (first | rfl | (simp [Region.wanted, yielded, *]; done)); go_simp; refine hK _ ?_; clear hK K)
      first | (refine Ord.St.fl2 (T' := ?_) 16 [17, 18, 19] _ _ rfl (by kernel_rfl) ?_ rfl rfl rfl (fun K w' hk => ?_) ?_; rotate_left; (first | rfl | (simp [Region.wanted, yielded, *]; done)); focus (go_step; exact hk)) | (refine Ord.St.skip 16 [17, 18, 19] _ rfl (by kernel_rfl) ?_ (fun K hK => ?_); (first | rfl | (simp [Region.wanted, yielded, *]; done)); go_simp; refine hK _ ?_; clear hK K)
      first | (refine Ord.St.rd2 (T' := ?_) 17 [18, 19] _ _ rfl (by kernel_rfl) ?_ rfl rfl rfl (fun K hk => ?_) ?_; rotate_left; (first | rfl | (simp [Region.wanted, yielded, *]; done)); focus (go_step; exact hk)) | (refine Ord.St.skipr 17 [18, 19] _ rfl (by kernel_rfl) ?_ (fun K hK => ?_); (first | rfl | (simp [Region.wanted, yielded, *]; done)); go_simp; refine hK _ ?_; clear hK K)
      first | (refine Ord.St.fl2 (T' := ?_) 18 [19] _ _ rfl (by kernel_rfl) ?_ rfl rfl rfl (fun K w' hk => ?_) ?_; rotate_left; (first | rfl | (simp [Region.wanted, yielded, *]; done)); focus (go_step; exact hk)) | (refine Ord.St.skip 18 [19] _ rfl (by kernel_rfl) ?_ (fun K hK => ?_); (first | rfl | (simp [Region.wanted, yielded, *]; done)); go_simp; refine hK _ ?_; clear hK K)
      refine Ord.St.fl2 (T' := ?_) 19 [] _ _ rfl (by kernel_rfl) rfl rfl rfl rfl (fun K w' hk => ?_) ?_
      rotate_left
      · go_step; exact hk
      refine Ord.St.nil ?_
      go_wp2_with fail
      go_roundw
      case rel => exact ⟨k + 1, by omega, by go_num, HC13.out.drew⟩
      case measure => simp [intOf]; omega
    · have HC := Lib.hid hc; clear hc
      go_wp2_with fail
      go_ret
      exact ⟨rfl, HC.out⟩
end
end Go.Proofs.YtchledddgmbndaaGreat
