/-
  Contracts of functions that MuxesSmall reaches, and plain facts (part E). Conditions: the hypotheses of each theorem.
-/
import Derived.Test.YtehljgigebhddaaGreatQD
set_option maxRecDepth 100000
set_option maxHeartbeats 16000000
namespace Go.Aig
theorem prsOk_zip {G : Gra} {width : Nat} {L M : List (List Nat)} (hL : WdsOk G width L) (hM : WdsOk G width M) : PrsOk G width (L.zip M) :=
 ⟨fun p hp => ⟨hL.len _ (List.of_mem_zip hp).1, hM.len _ (List.of_mem_zip hp).2⟩, fun p hp => ⟨hL.lt _ (List.of_mem_zip hp).1, hM.lt _ (List.of_mem_zip hp).2⟩⟩
theorem getD_at {L : List (List Nat)} {i : Nat} (h : i < L.length) : L[i]? = some (L.getD i []) := by rw [List.getD_eq_getElem?_getD, List.getElem?_eq_getElem h]; rfl
theorem neF_small {G : Gra} {s : Mk} (hs : SOk G s) {x y : List Nat} (hxr : ∀ r ∈ x, r < 2 * s.1.nodes.length) (hyr : ∀ r ∈ y, r < 2 * s.1.nodes.length) : (neF s (x.zip y)).2 ≤ 1000000 := by
 have h := eachF_sok' hs full_xor (x.zip y) (fun p hp => ⟨hxr _ (List.of_mem_zip hp).1, hyr _ (List.of_mem_zip hp).2⟩)
 obtain ⟨h1, h2, h3⟩ := rstep_sok h.s (Y := rAny (eachF (rop rXor) s (x.zip y)).1.1 (eachF (rop rXor) s (x.zip y)).2) (fun _ => rAny_full h.s.ok h.lt)
 have h4 := h1.ok.small
 exact Nat.le_trans (Nat.le_of_lt h2) (by omega)
end Go.Aig
namespace Go.Proofs.YtehljgigebhddaaGreat
open Go.RowKit Go.Mem Go.Aig
section
variable {w : World}
theorem r26Equal_is {rb cap B0 : Nat} {G : Gra} (h : RG w rb cap G) {qe : Nat} (hqe : qe = 0 ∨ qe = 201) {la ma : Option Addr} {nl lc mc width : Nat} {Ls Ms : List WV} {L M : List (List Nat)} (hA : IA w la nl Ls L B0) (hA2 : IA w ma nl Ms M B0) (hL : WdsOk G width L) (hM : WdsOk G width M) (hw : width ≤ 17) (hnl2 : nl ≤ 1000) :
  Calls Tryz.prog 284 #[.agg #[.int .i64 G.most, .slice (some ⟨rb, 0, none⟩) G.nodes.length cap, .int .i64 qe], .slice la nl lc, .slice ma nl mc] w (STo w rb (requalF (G, qe) (L.zip M))) := by
 have hok := h.ok
 have hs0 : SOk G (G, qe) := ⟨hok, .refl _, hqe⟩
 have hll := hA.len2
 have hml := hA2.len2
 have hPR := prsOk_zip hL hM
 have hRok := fun k => reqsF_ok hs0 (width := width) ((L.zip M).take k) ⟨fun p hp => hPR.len p (List.mem_of_mem_take hp), fun p hp => hPR.lt p (List.mem_of_mem_take hp)⟩
 have hRsn := fun k (hk : k < nl) => show reqsF (G, qe) ((L.zip M).take (k + 1)) = reqS (reqsF (G, qe) ((L.zip M).take k)) (L.getD k [], M.getD k []) by
  have hz : (L.zip M)[k]? = some (L.getD k [], M.getD k []) := List.getElem?_zip_eq_some.2 ⟨getD_at (by omega), getD_at (by omega)⟩
  rw [List.take_add_one, hz, Option.toList_some, reqsF_snoc]
 have hRlen := fun k (hk : k ≤ nl) => show (reqsF (G, qe) ((L.zip M).take k)).2.length = k by rw [reqsF_len, List.length_take, List.length_zip]; omega
 have hall : (L.zip M).take nl = L.zip M := List.take_of_length_le (by rw [List.length_zip]; omega)
 unfold requalF
 obtain ⟨Z, hZ⟩ : ∃ Z, Z = L.zip M := ⟨_, rfl⟩
 rw [← hZ] at hRok hRsn hRlen hall ⊢
 clear hZ hPR hs0 hok
 have HA := Hi9 hA; clear hA
 have HA2 := Hi9 hA2; clear hA2
 have HL := Hi9 hL; clear hL
 have HM2 := Hi9 hM; clear hM
 have H := Hi9 h; clear h
 have HLL := Hi9 hll; clear hll
 have HML := Hi9 hml; clear hml
 have HROK := Hi9 hRok; clear hRok
 have HRSN := Hi9 hRsn; clear hRsn
 have HRLEN := Hi9 hRlen; clear hRlen
 have HALL := Hi9 hall; clear hall
 go_enter Tryz.func284, Tryz.ntmps284
 go_wp2_with fail
 refine wp_alw ?_
 intro W0 hW0
 have hst := RSt.start H.out hW0 rfl
 clear hW0
 have HST := Hi9 hst; clear hst
 go_loopw [8, 9] (fun o i wr => ∃ (m rbj capj : Nat), m ≤ nl ∧ i = .int .i64 m ∧ RSt w wr rb rbj capj (reqsF (G, qe) (Z.take m)).1 o (reqsF (G, qe) (Z.take m)).2) (fun _ i _ => nl - (intOf i).toNat)
 case atStart => exact ⟨0, rb, cap, by omega, rfl, by rw [List.take_zero]; exact HST.out⟩
 case round =>
  clear HST
  obtain ⟨m, rbj, capj, hm, rfl, hs⟩ := hrel
  have hlen := HRLEN.out m hm
  by_cases hmn : m < nl
  ·have hrw := HRSN.out m hmn
   have hcm := HROK.out m
   have hAr := HA.out.ch hs.ch
   have hAr2 := HA2.out.ch hs.ch
   obtain ⟨ab, ao, xa, xc, hle, hcl, hslx, _⟩ := hAr.at (i := m) hmn
   obtain ⟨bb, bo, ya, yc, hle2, hcl2, hsly, _⟩ := hAr2.at (i := m) hmn
   obtain ⟨hxl, hxr⟩ := HL.out.at (i := m) (by rw [HLL.out]; exact hmn)
   obtain ⟨hyl, hyr⟩ := HM2.out.at (i := m) (by rw [HML.out]; exact hmn)
   obtain ⟨x, hx⟩ : ∃ x, x = L.getD m [] := ⟨_, rfl⟩
   obtain ⟨y, hy⟩ : ∃ y, y = M.getD m [] := ⟨_, rfl⟩
   rw [← hx] at hcl hslx hxl hxr hrw
   rw [← hy] at hcl2 hsly hyl hyr hrw
   rw [hxl] at hcl
   rw [hyl] at hcl2
   generalize hAA : reqsF (G, qe) (Z.take (m + 1)) = AN at hrw
   generalize reqsF (G, qe) (Z.take m) = AS at hrw hcm hs hlen
   obtain ⟨⟨G6, q6⟩, lp⟩ := AS
   unfold reqS at hrw
   simp only at hs hrw hlen
   have hx6 : ∀ r ∈ x, r < 2 * G6.nodes.length := fun r hr => hcm.s.ext.lt (hxr r hr)
   have hy6 : ∀ r ∈ y, r < 2 * G6.nodes.length := fun r hr => hcm.s.ext.lt (hyr r hr)
   have hnp := neF_small hcm.s hx6 hy6
   have hM := fun (W : World) (hW : Ch [] wr W) => r23EqQ_is (hs.rg.ch hW (by simp)) hcm.s.err width xc yc (hslx.ch hW (by simp)) (hsly.ch hW (by simp)) hxl hyl (by omega) hx6 hy6 hnp
   obtain ⟨⟨⟨G7, q7⟩, p7⟩, hR⟩ : ∃ T : Mk × Nat, T = req (G6, q6) x y := ⟨_, rfl⟩
   rw [← hR] at hrw
   unfold req at hR
   rw [← hR] at hM
   simp only at hrw
   subst hrw
   have ha1 := hcl
   have hb1 := hcl2
   subst hle hle2
   have hrlj := hs.rg.lt
   clear hR hcm hx6 hy6 hnp hcl hcl2 hAr hAr2 hx hy hxr hyr hslx hsly hxl hyl
   have HA1 := Hi9 ha1; clear ha1
   have HB1 := Hi9 hb1; clear hb1
   have HAA := Hi9 hAA; clear hAA
   have HM := Hi9 hM; clear hM
   have HLEN := Hi9 hlen; clear hlen
   have HS := Hi9 hs; clear hs
   have HMN := Hi9 hm; clear hm
   go_upto_region 5 with fail
   go_cut [10, 11] (fun p q wd => TS wr wd rbj ((G7, q7), p7) p q)
   case first =>
    refine Ord.St.door (fun w' => Ch [] wr w') [.ho, .fl, .fl, .fl, .ho, .fl, .fl, .fl, .ho, .ef, .fl, .fl, .fl, .ef, .ef, .fl] [0, 0, 0, 6, 14, 0, 0, 96, 224, 511, 1023, 2047, 2047, 0, 12287, 32767] [0, 1, 2, 3, 4, 5, 6, 7, 8, 9, 10, 11, 12, 13, 14, 15] mixed (by kernel_rfl) rfl ?_
    obtain ⟨Wc, hWc⟩ : ∃ Wc, Wc = wr.drew := ⟨_, rfl⟩
    rw [← hWc]
    have hcur : Ch [] wr Wc := by rw [hWc]; exact (Ch.refl _ _).drew
    clear hWc
    refine Ord.H9 ?_ 0 [1, 2, 3, 4, 5, 6, 7, 8, 9, 10, 11, 12, 13, 14, 15] ?_ (fun K w' hw' hk => ?_) ?_
    rotate_left
    ·trivial
    ·have hb4 := (HS.out.same hw').b4; have y0 := hb4.cell (i := 0) rfl; have y1 := hb4.cell (i := 1) rfl; have y2 := hb4.cell (i := 2) rfl; have a0 := (hw'.cell (cell_lt HA1.out) (by simp)).trans HA1.out; have b0 := (hw'.cell (cell_lt HB1.out) (by simp)).trans HB1.out; clear hb4; go_step; exact hk
    iterate 3 (refine Ord.F9 ?_ (fun K w' hk => ?_) ?_; rotate_left; focus (go_step; exact hk))
    refine Ord.H9 ?_ 4 [5, 6, 7, 8, 9, 10, 11, 12, 13, 14, 15] ?_ (fun K w' hw' hk => ?_) ?_
    rotate_left
    ·trivial
    ·have hb4 := (HS.out.same hw').b4; have y0 := hb4.cell (i := 0) rfl; have y1 := hb4.cell (i := 1) rfl; have y2 := hb4.cell (i := 2) rfl; have a0 := (hw'.cell (cell_lt HA1.out) (by simp)).trans HA1.out; have b0 := (hw'.cell (cell_lt HB1.out) (by simp)).trans HB1.out; clear hb4; go_step; exact hk
    iterate 3 (refine Ord.F9 ?_ (fun K w' hk => ?_) ?_; rotate_left; focus (go_step; exact hk))
    refine Ord.H9 ?_ 8 [9, 10, 11, 12, 13, 14, 15] ?_ (fun K w' hw' hk => ?_) ?_
    rotate_left
    ·trivial
    ·have hb4 := (HS.out.same hw').b4; have y0 := hb4.cell (i := 0) rfl; have y1 := hb4.cell (i := 1) rfl; have y2 := hb4.cell (i := 2) rfl; have a0 := (hw'.cell (cell_lt HA1.out) (by simp)).trans HA1.out; have b0 := (hw'.cell (cell_lt HB1.out) (by simp)).trans HB1.out; clear hb4; go_step; exact hk
    refine Ord.St.two 9 13 [10, 11, 12, 13, 14, 15] [9, 10, 11, 12, 14, 15] _ _ (by kernel_rfl) rfl rfl (by kernel_rfl) (by kernel_rfl) (fun K hK => ?_) (fun K hK => ?_)
    ·have HA := Hi9 (HM.out _ hcur)
     go_wp2_with fail
     refine HA.out.mono ?_
     rintro e w7 ⟨rb2, cap2, rfl, hrg2, hch, hfr3⟩
     go_wp2_with fail
     refine ⟨rfl, hK _ _ ?_ ?_⟩
     ·exact hcur.trans hch (by simp)
     clear hK K
     try have hne := rto_ne hb9 (by omega) hfr3
     try replace hb9 := hb9.ch hch (by simp)
     have hfr5 : rb2 = rbj ∨ wr.heap.size ≤ rb2 := by have := hcur.size; rcases hfr3 with e | e <;> omega
     replace hcur := hcur.trans hch (by simp)
     clear hch hfr3 HA
     iterate 3 (refine Ord.F9 ?_ (fun K w' hk => ?_) ?_; rotate_left; focus (go_step; exact hk))
     refine Ord.St.efC 13 [14, 15] _ rfl (by kernel_rfl) (fun K hK => ?_)
     go_wp2_with fail
     refine ⟨rfl, hK _ _ ?_ ?_⟩
     ·exact hcur.alloc _
     clear hK K
     refine Ord.St.alw ?_; intro Wn hWn
     have hb9 := alw_blk (xs := [.int .i64 0, .slice none 0 0, .int .i64 0]) hWn
     have hs9 := hcur.size
     try have hne := rg_ne hrg2
     try replace hrg2 := hrg2.ch (alw_ch hWn) (by simp)
     replace hcur := hcur.al9 hWn
     clear hWn
     first | (have _t := hrg2; clear _t; generalize w7.heap.size = b9 at *) | generalize Wc.heap.size = b9 at *
     refine Ord.St.ef 14 [15] _ rfl (by kernel_rfl) (fun K hK => ?_)
     have z0 := hb9.cell (i := 0) rfl
     have z1 := hb9.cell (i := 1) rfl
     have z2 := hb9.cell (i := 2) rfl
     have g0 := hb9.frozen (i := 0)
     have g1 := hb9.frozen (i := 1)
     have g2 := hb9.frozen (i := 2)
     have HRG2 := Hi9 hrg2; clear hrg2
     have HB9 := Hi9 hb9; clear hb9
     have HCUR := Hi9 hcur; clear hcur
     go_wp2_with fail
     refine ⟨rfl, hK _ _ ?_⟩; clear hK K
     (refine Ord.F9 ?_ (fun K w' hk => ?_) ?_; rotate_left; focus (go_step; exact hk))
     refine Ord.St.nil ?_
     go_wp2_with fail
     go_meet
     case rel => exact TS.mk HCUR.out HRG2.out hfr5 HB9.out hs9 hne rfl
    ·go_wp2_with fail
     refine ⟨rfl, hK _ _ ?_ ?_⟩
     ·exact hcur.alloc _
     clear hK K
     refine Ord.St.alw ?_; intro Wn hWn
     have hb9 := alw_blk (xs := [.int .i64 0, .slice none 0 0, .int .i64 0]) hWn
     have hs9 := hcur.size
     try have hne := rg_ne hrg2
     try replace hrg2 := hrg2.ch (alw_ch hWn) (by simp)
     replace hcur := hcur.al9 hWn
     clear hWn
     first | (have _t := hrg2; clear _t; generalize w7.heap.size = b9 at *) | generalize Wc.heap.size = b9 at *
     refine Ord.St.ef 9 [10, 11, 12, 14, 15] _ rfl (by kernel_rfl) (fun K hK => ?_)
     have HA := Hi9 (HM.out _ hcur)
     go_wp2_with fail
     refine HA.out.mono ?_
     rintro e w7 ⟨rb2, cap2, rfl, hrg2, hch, hfr3⟩
     go_wp2_with fail
     refine ⟨rfl, hK _ _ ?_⟩; clear hK K
     try have hne := rto_ne hb9 (by omega) hfr3
     try replace hb9 := hb9.ch hch (by simp)
     have hfr5 : rb2 = rbj ∨ wr.heap.size ≤ rb2 := by have := hcur.size; rcases hfr3 with e | e <;> omega
     replace hcur := hcur.trans hch (by simp)
     clear hch hfr3 HA
     iterate 3 (refine Ord.F9 ?_ (fun K w' hk => ?_) ?_; rotate_left; focus (go_step; exact hk))
     refine Ord.St.ef 14 [15] _ rfl (by kernel_rfl) (fun K hK => ?_)
     have z0 := hb9.cell (i := 0) rfl
     have z1 := hb9.cell (i := 1) rfl
     have z2 := hb9.cell (i := 2) rfl
     have g0 := hb9.frozen (i := 0)
     have g1 := hb9.frozen (i := 1)
     have g2 := hb9.frozen (i := 2)
     have HRG2 := Hi9 hrg2; clear hrg2
     have HB9 := Hi9 hb9; clear hb9
     have HCUR := Hi9 hcur; clear hcur
     go_wp2_with fail
     refine ⟨rfl, hK _ _ ?_⟩; clear hK K
     (refine Ord.F9 ?_ (fun K w' hk => ?_) ?_; rotate_left; focus (go_step; exact hk))
     refine Ord.St.nil ?_
     go_wp2_with fail
     go_meet
     case rel => exact TS.mk HCUR.out HRG2.out hfr5 HB9.out hs9 hne rfl
   case rest =>
    obtain ⟨rb5, cap5, b5, rfl, rfl, hc5, hrg5, hfr5, hb5, hlo5⟩ := hcut
    have x0 := hb5.cell (i := 0) rfl
    have x1 := hb5.cell (i := 1) rfl
    have x2 := hb5.cell (i := 2) rfl
    have hbp := (HS.out.same hc5).b4
    have f0 := hbp.frozen (i := 0)
    have f1 := hbp.frozen (i := 1)
    have f2 := hbp.frozen (i := 2)
    have y0 := hbp.cell (i := 0) rfl
    have y1 := hbp.cell (i := 1) rfl
    have y2 := hbp.cell (i := 2) rfl
    clear hbp
    have HCX := Hi9 hc5; clear hc5
    have HRX := Hi9 hrg5; clear hrg5
    have HBX := Hi9 hb5; clear hb5
    go_upto_region 7 with fail
    refine wp_alw ?_
    intro W9 hW9
    have hs := HS.out.put HCX.out HRX.out hfr5 hW9
    clear hW9 x0 x1 x2 y0 y1 y2 f0 f1 f2 HRX HBX
    have hlen9 := HLEN.out
    obtain ⟨na, nc, hna⟩ := row.shape hs.rw
    subst hna
    have hrA := (hs.same (W' := W9.alloc (.cells #[.int .i64 p7] 3)) ((Ch.refl _ _).alloc _)).rw
    have hbA : blk (W9.alloc (.cells #[.int .i64 p7] 3)) W9.heap.size [.int .i64 p7] := blk.new' _ _ rfl
    have HRA := Hi9 hrA; clear hrA
    have HBA := Hi9 hbA; clear hbA
    have HS9 := Hi9 hs; clear hs
    have hm := HMN.out
    go_wp2_with (at_builtin; go_loud (refine wpList_append_row slInts rfl _ _ rfl (v := .slice na lp.length nc) (n := lp.length) (xs := intCells (natInts lp)) rfl HRA.out (ad := ⟨W9.heap.size, 0, none⟩) (m := 1) (c := 1) (news := [.int .i64 p7]) rfl rfl (news_blk HBA.out) (by simp [Value.oneCell']) (by omega) (by omega) ?_; intro v' w10 hown4 hC4 hf4; have HO4 := Hi9 hown4; clear hown4; have HC4 := Hi9 hC4; clear hC4; have HF4 := Hi9 hf4; clear hf4))
    go_roundw
    case rel => exact ⟨m + 1, rb5, cap5, by omega, by go_num, by rw [HAA.out]; exact HS9.out.app HO4.out HC4.out HF4.out⟩
    case measure => simp [intOf]; omega
  ·have hmn2 : m = nl := by omega
   have hcm := HROK.out nl
   rw [hmn2, HALL.out] at hs
   rw [hmn2, HALL.out] at hlen
   rw [HALL.out] at hcm
   obtain ⟨⟨⟨G2, q2⟩, l2⟩, hES⟩ : ∃ ES, ES = reqsF (G, qe) Z := ⟨_, rfl⟩
   rw [← hES] at hs hlen hcm
   simp only at hs hlen
   have hs2 : SOk G2 (G2, q2) := ⟨hcm.s.ok, .refl _, hcm.s.err⟩
   have hlt2 := hcm.lt
   simp only at hlt2
   have hVok := fun k => rallF_ok hs2 (l2.take k) (fun r hr => hlt2 r (List.mem_of_mem_take hr))
   have hVsn := fun k r (hr : l2[k]? = some r) => show rallF (G2, q2) (l2.take (k + 1)) = rallS (rallF (G2, q2) (l2.take k)) r by
    rw [List.take_add_one, hr, Option.toList_some, rallF_snoc]
   have hall2 : l2.take nl = l2 := List.take_of_length_le (by omega)
   have HES := Hi9 hES; clear hES hmn2 hcm hs2
   have HVOK := Hi9 hVok; clear hVok
   have HVSN := Hi9 hVsn; clear hVsn
   have HALL2 := Hi9 hall2; clear hall2
   have HLT2 := Hi9 hlt2; clear hlt2
   have HLN := Hi9 hlen; clear hlen
   obtain ⟨na, nc, hna⟩ := row.shape hs.rw
   subst hna
   have hln := HLN.out
   have HST := Hi9 hs; clear hs hm
   rw [hln]
   clear hln
   go_wp2_with fail
   clear hmn
   go_loopw [12, 13] (fun o i wr => ∃ (k rbj capj : Nat), k ≤ nl ∧ i = .int .i64 k ∧ o = .int .i64 (rallF (G2, q2) (l2.take k)).2 ∧ RSt w wr rb rbj capj (rallF (G2, q2) (l2.take k)).1 (.slice na l2.length nc) l2) (fun _ i _ => nl - (intOf i).toNat)
   case atStart => exact ⟨0, rbj, capj, by omega, rfl, rfl, HST.out⟩
   case round =>
    clear HST
    obtain ⟨k, rbj, capj, hk, rfl, rfl, hs⟩ := hrel
    by_cases hkn : k < nl
    ·obtain ⟨r, hr⟩ : ∃ r, l2[k]? = some r := ⟨_, List.getElem?_eq_getElem (by rw [HLN.out]; exact hkn)⟩
     have hrw := HVSN.out k r hr
     have hcm := HVOK.out k
     have hr2 := HLT2.out r (List.mem_of_getElem? hr)
     have hlp : 0 < l2.length := by rw [HLN.out]; omega
     obtain ⟨nb, nc2, hnb⟩ := hs.rw.parts hlp
     have hrow := hs.rw
     rw [hnb] at hrow
     have ha1 := row.at9 hrow (intCells_at hr)
     injection hnb with hnb1 hnb2 hnb3
     subst hnb1
     generalize hAA : rallF (G2, q2) (l2.take (k + 1)) = AN at hrw
     generalize rallF (G2, q2) (l2.take k) = AS at hrw hcm hs
     obtain ⟨⟨G6, q6⟩, p6⟩ := AS
     unfold rallS at hrw
     simp only at hs hrw
     have hM := fun (W : World) (hW : Ch [] wr W) => r23And_is (q := q6) (hs.rg.ch hW (by simp)) hcm.lt (hcm.s.ext.lt hr2)
     obtain ⟨⟨⟨G7, q7⟩, p7⟩, hR⟩ : ∃ T : Mk × Nat, T = rstep (G6, q6) (and G6 p6 r) := ⟨_, rfl⟩
     simp only [← hR] at hrw hM
     subst hrw
     have hrlj := hs.rg.lt
     have hln := HLN.out
     clear hR hcm hr hr2 hlp hrow hnb2 hnb3 nc2
     have HA1 := Hi9 ha1; clear ha1
     have HAA := Hi9 hAA; clear hAA
     have HM := Hi9 hM; clear hM
     have HS := Hi9 hs; clear hs
     clear hln
     go_upto_region 12 with fail
     go_cut [14, 15] (fun p q wd => TS wr wd rbj ((G7, q7), p7) p q)
     case first =>
      refine Ord.St.door (fun w' => Ch [] wr w') [.ho, .fl, .fl, .fl, .fl, .ho, .ef, .fl, .fl, .fl, .ef, .ef, .fl] [0, 0, 0, 0, 12, 28, 63, 127, 255, 255, 0, 1535, 4095] [0, 1, 2, 3, 4, 5, 6, 7, 8, 9, 10, 11, 12] mixed (by kernel_rfl) rfl ?_
      obtain ⟨Wc, hWc⟩ : ∃ Wc, Wc = wr.drew := ⟨_, rfl⟩
      rw [← hWc]
      have hcur : Ch [] wr Wc := by rw [hWc]; exact (Ch.refl _ _).drew
      clear hWc
      refine Ord.H9 ?_ 0 [1, 2, 3, 4, 5, 6, 7, 8, 9, 10, 11, 12] ?_ (fun K w' hw' hk => ?_) ?_
      rotate_left
      ·trivial
      ·have hb4 := (HS.out.same hw').b4; have y0 := hb4.cell (i := 0) rfl; have y1 := hb4.cell (i := 1) rfl; have y2 := hb4.cell (i := 2) rfl; have a0 := (hw'.cell (cell_lt HA1.out) (by simp)).trans HA1.out; clear hb4; go_step; exact hk
      iterate 4 (refine Ord.F9 ?_ (fun K w' hk => ?_) ?_; rotate_left; focus (go_step; exact hk))
      refine Ord.H9 ?_ 5 [6, 7, 8, 9, 10, 11, 12] ?_ (fun K w' hw' hk => ?_) ?_
      rotate_left
      ·trivial
      ·have hb4 := (HS.out.same hw').b4; have y0 := hb4.cell (i := 0) rfl; have y1 := hb4.cell (i := 1) rfl; have y2 := hb4.cell (i := 2) rfl; have a0 := (hw'.cell (cell_lt HA1.out) (by simp)).trans HA1.out; clear hb4; go_step; exact hk
      refine Ord.St.two 6 10 [7, 8, 9, 10, 11, 12] [6, 7, 8, 9, 11, 12] _ _ (by kernel_rfl) rfl rfl (by kernel_rfl) (by kernel_rfl) (fun K hK => ?_) (fun K hK => ?_)
      ·have HA := Hi9 (HM.out _ hcur)
       go_wp2_with fail
       refine HA.out.mono ?_
       rintro e w7 ⟨rb2, cap2, rfl, hrg2, hch, hfr3⟩
       go_wp2_with fail
       refine ⟨rfl, hK _ _ ?_ ?_⟩
       ·exact hcur.trans hch (by simp)
       clear hK K
       try have hne := rto_ne hb9 (by omega) hfr3
       try replace hb9 := hb9.ch hch (by simp)
       have hfr5 : rb2 = rbj ∨ wr.heap.size ≤ rb2 := by have := hcur.size; rcases hfr3 with e | e <;> omega
       replace hcur := hcur.trans hch (by simp)
       clear hch hfr3 HA
       iterate 3 (refine Ord.F9 ?_ (fun K w' hk => ?_) ?_; rotate_left; focus (go_step; exact hk))
       refine Ord.St.efC 10 [11, 12] _ rfl (by kernel_rfl) (fun K hK => ?_)
       go_wp2_with fail
       refine ⟨rfl, hK _ _ ?_ ?_⟩
       ·exact hcur.alloc _
       clear hK K
       refine Ord.St.alw ?_; intro Wn hWn
       have hb9 := alw_blk (xs := [.int .i64 0, .slice none 0 0, .int .i64 0]) hWn
       have hs9 := hcur.size
       try have hne := rg_ne hrg2
       try replace hrg2 := hrg2.ch (alw_ch hWn) (by simp)
       replace hcur := hcur.al9 hWn
       clear hWn
       first | (have _t := hrg2; clear _t; generalize w7.heap.size = b9 at *) | generalize Wc.heap.size = b9 at *
       refine Ord.St.ef 11 [12] _ rfl (by kernel_rfl) (fun K hK => ?_)
       have z0 := hb9.cell (i := 0) rfl
       have z1 := hb9.cell (i := 1) rfl
       have z2 := hb9.cell (i := 2) rfl
       have g0 := hb9.frozen (i := 0)
       have g1 := hb9.frozen (i := 1)
       have g2 := hb9.frozen (i := 2)
       have HRG2 := Hi9 hrg2; clear hrg2
       have HB9 := Hi9 hb9; clear hb9
       have HCUR := Hi9 hcur; clear hcur
       go_wp2_with fail
       refine ⟨rfl, hK _ _ ?_⟩; clear hK K
       (refine Ord.F9 ?_ (fun K w' hk => ?_) ?_; rotate_left; focus (go_step; exact hk))
       refine Ord.St.nil ?_
       go_wp2_with fail
       go_meet
       case rel => exact TS.mk HCUR.out HRG2.out hfr5 HB9.out hs9 hne rfl
      ·go_wp2_with fail
       refine ⟨rfl, hK _ _ ?_ ?_⟩
       ·exact hcur.alloc _
       clear hK K
       refine Ord.St.alw ?_; intro Wn hWn
       have hb9 := alw_blk (xs := [.int .i64 0, .slice none 0 0, .int .i64 0]) hWn
       have hs9 := hcur.size
       try have hne := rg_ne hrg2
       try replace hrg2 := hrg2.ch (alw_ch hWn) (by simp)
       replace hcur := hcur.al9 hWn
       clear hWn
       first | (have _t := hrg2; clear _t; generalize w7.heap.size = b9 at *) | generalize Wc.heap.size = b9 at *
       refine Ord.St.ef 6 [7, 8, 9, 11, 12] _ rfl (by kernel_rfl) (fun K hK => ?_)
       have HA := Hi9 (HM.out _ hcur)
       go_wp2_with fail
       refine HA.out.mono ?_
       rintro e w7 ⟨rb2, cap2, rfl, hrg2, hch, hfr3⟩
       go_wp2_with fail
       refine ⟨rfl, hK _ _ ?_⟩; clear hK K
       try have hne := rto_ne hb9 (by omega) hfr3
       try replace hb9 := hb9.ch hch (by simp)
       have hfr5 : rb2 = rbj ∨ wr.heap.size ≤ rb2 := by have := hcur.size; rcases hfr3 with e | e <;> omega
       replace hcur := hcur.trans hch (by simp)
       clear hch hfr3 HA
       iterate 3 (refine Ord.F9 ?_ (fun K w' hk => ?_) ?_; rotate_left; focus (go_step; exact hk))
       refine Ord.St.ef 11 [12] _ rfl (by kernel_rfl) (fun K hK => ?_)
       have z0 := hb9.cell (i := 0) rfl
       have z1 := hb9.cell (i := 1) rfl
       have z2 := hb9.cell (i := 2) rfl
       have g0 := hb9.frozen (i := 0)
       have g1 := hb9.frozen (i := 1)
       have g2 := hb9.frozen (i := 2)
       have HRG2 := Hi9 hrg2; clear hrg2
       have HB9 := Hi9 hb9; clear hb9
       have HCUR := Hi9 hcur; clear hcur
       go_wp2_with fail
       refine ⟨rfl, hK _ _ ?_⟩; clear hK K
       (refine Ord.F9 ?_ (fun K w' hk => ?_) ?_; rotate_left; focus (go_step; exact hk))
       refine Ord.St.nil ?_
       go_wp2_with fail
       go_meet
       case rel => exact TS.mk HCUR.out HRG2.out hfr5 HB9.out hs9 hne rfl
     case rest =>
      obtain ⟨rb5, cap5, b5, rfl, rfl, hc5, hrg5, hfr5, hb5, hlo5⟩ := hcut
      have x0 := hb5.cell (i := 0) rfl
      have x1 := hb5.cell (i := 1) rfl
      have x2 := hb5.cell (i := 2) rfl
      have hbp := (HS.out.same hc5).b4
      have f0 := hbp.frozen (i := 0)
      have f1 := hbp.frozen (i := 1)
      have f2 := hbp.frozen (i := 2)
      have y0 := hbp.cell (i := 0) rfl
      have y1 := hbp.cell (i := 1) rfl
      have y2 := hbp.cell (i := 2) rfl
      clear hbp hb5
      have HCX := Hi9 hc5; clear hc5
      have HRX := Hi9 hrg5; clear hrg5
      go_wp2_with fail
      go_roundw
      case rel =>
       refine ⟨k + 1, rb5, cap5, by omega, by go_num, by rw [HAA.out], ?_⟩
       rw [HAA.out]
       exact HS.out.put HCX.out HRX.out hfr5 rfl
      case measure => simp [intOf]; omega
    ·have hkn2 : k = nl := by omega
     rw [hkn2, HALL2.out] at hs
     rw [hkn2, HALL2.out]
     obtain ⟨⟨⟨G8, q8⟩, p8⟩, hE8⟩ : ∃ ES, ES = rallF (G2, q2) l2 := ⟨_, rfl⟩
     rw [← hE8] at hs ⊢
     simp only at hs
     have HE8 := Hi9 hE8; clear hE8 hkn2
     have y0 := hs.b4.cell (i := 0) rfl
     have y1 := hs.b4.cell (i := 1) rfl
     have y2 := hs.b4.cell (i := 2) rfl
     have v0 := hs.b8.cell (i := 0) rfl
     have v1 := hs.b8.cell (i := 1) rfl
     have v2 := hs.b8.cell (i := 2) rfl
     have g0 := hs.b8.frozen (i := 0)
     have g1 := hs.b8.frozen (i := 1)
     have g2 := hs.b8.frozen (i := 2)
     have hl8 := hs.b8.lt
     have HST := Hi9 hs; clear hs hk
     go_wp2_with fail
     refine bodyPost_ret (v := .tuple #[.agg #[.int .i64 G8.most, .slice (some ⟨rbj, 0, none⟩) G8.nodes.length capj, .int .i64 q8], .int .i64 p8]) (by simp [results, Tryz.results284, go_sem, v0, v1, v2]) rfl ?_
     show STo w rb (rallF (reqsF (G, qe) Z).1 (reqsF (G, qe) Z).2) _ _
     rw [← HES.out]
     show STo w rb (rallF (G2, q2) l2) _ _
     rw [← HE8.out]
     exact HST.out.finS rfl
end
theorem infoInts9 : (Tryz.prog.info? 26).map (fun i => (i.zero, i.size, i.bytes)) = some (some (.slice none 0 0), 1, 24) := by kernel_rfl
theorem slIntss9 : SliceTy Tryz.prog 29 26 1 24 (.slice none 0 0) := ⟨Tryz.underlying29, infoInts9, rfl, by decide⟩
def Wds (w W : World) (B0 B1 : Nat) (v : Value) (vs : List Value) (Z : List (List Nat)) : Prop := ∀ (i : Nat) z, Z[i]? = some z → ∃ a c, vs[i]? = some (.slice a z.length c) ∧ Sl W a (natInts z) ∧ (0 < z.length → ∀ p, a = some p → (p.block < B0 ∨ B1 ≤ p.block) ∧ v.ownBlock ≠ some p.block ∧ p.block < W.heap.size)
theorem Wds.ch {w W W' : World} {B0 B1 : Nat} {v : Value} {vs : List Value} {Z : List (List Nat)} {F : List Nat} (h : Wds w W B0 B1 v vs Z) (hc : Ch F W W') (hF : ∀ k ∈ F, ¬ k < B0 ∧ (k < B1 ∨ v.ownBlock = some k)) : Wds w W' B0 B1 v vs Z := fun i z hz => by
 obtain ⟨a, c, h1, h2, h3⟩ := h i z hz
 refine ⟨a, c, h1, h2.ch2 hc (fun h0 p hp hin => ?_), fun h0 p hp => ?_⟩
 ·have h4 := h3 (by rwa [natInts_pos] at h0) p hp
  obtain ⟨h5, h6⟩ := hF _ hin
  rcases h6 with h6 | h6
  ·omega
  ·exact h4.2.1 h6
 ·have h4 := h3 h0 p hp
  exact ⟨h4.1, h4.2.1, Nat.lt_of_lt_of_le h4.2.2 hc.size⟩
structure RSA (w W : World) (rb0 rb cap : Nat) (s : Mk) (ob nl oc : Nat) (vs : List Value) (Z : List (List Nat)) (B0 : Nat) : Prop where
 st : RSt w W rb0 rb cap s (.slice none 0 0) []
 rw : row W 26 1 (.slice (some ⟨ob, 0, none⟩) nl oc) nl vs
 own : w.heap.size + 2 ≤ ob ∧ ob ≠ rb
 len : Z.length = nl
 ws : Wds w W B0 (w.heap.size + 2) (.slice (some ⟨ob, 0, none⟩) nl oc) vs Z
def SLo (w : World) (rb B0 : Nat) (R : Mk × List (List Nat)) (e : Ending) (w' : World) : Prop := ∃ rb' cap' ob nl oc vs, e = .returned (.tuple #[.agg #[.int .i64 R.1.1.most, .slice (some ⟨rb', 0, none⟩) R.1.1.nodes.length cap', .int .i64 R.1.2], .slice (some ⟨ob, 0, none⟩) nl oc]) ∧ RG w' rb' cap' R.1.1 ∧ Ch [] w w' ∧ (rb' = rb ∨ w.heap.size ≤ rb') ∧ R.2.length = nl ∧ row w' 26 1 (.slice (some ⟨ob, 0, none⟩) nl oc) nl vs ∧ w.heap.size ≤ ob ∧ ob ≠ rb' ∧ Wds w w' B0 w.heap.size (.slice (some ⟨ob, 0, none⟩) nl oc) vs R.2
section
variable {w W W' : World} {rb0 rb cap B0 ob nl oc : Nat} {s : Mk} {vs : List Value} {Z : List (List Nat)}
theorem RSA.put {Wb : World} {rb' cap' q' : Nat} {G' : Gra} (h : RSA w Wb rb0 rb cap s ob nl oc vs Z B0) (hB : B0 ≤ w.heap.size) (hc : Ch [] Wb W) (hr : RG W rb' cap' G') (hf : rb' = rb ∨ Wb.heap.size ≤ rb')
  (hW : W' = ((W.setCell ⟨w.heap.size, 0, none⟩ (.int .i64 G'.most)).setCell ⟨w.heap.size, 1, none⟩ (.slice (some ⟨rb', 0, none⟩) G'.nodes.length cap')).setCell ⟨w.heap.size, 2, none⟩ (.int .i64 q')) : RSA w W' rb0 rb' cap' (G', q') ob nl oc vs Z B0 := by
 have hcs := set3_ch hW
 have ho := h.own
 have hol := (h.rw.lt ob rfl).2
 exact ⟨h.st.put hc hr hf hW, (h.rw.ch hc (by simp)).ch hcs (fun q hq => by simp at hq; simp; omega), ⟨ho.1, by rcases hf with e | e <;> omega⟩, h.len, (h.ws.ch hc (by simp)).ch hcs (fun k hk => by simp at hk; exact ⟨by omega, .inl (by omega)⟩)⟩
theorem RSA.set (h : RSA w W rb0 rb cap s ob nl oc vs Z B0) (hB : B0 ≤ w.heap.size) {i c : Nat} {a : Option Addr} {z : List Nat} (hi : i < nl) (hs : Sl W a (natInts z)) (hz : 0 < z.length → ∀ p, a = some p → w.heap.size + 2 ≤ p.block ∧ p.block ≠ ob ∧ p.block < W.heap.size) (hW : W' = W.setCell ⟨ob, i, none⟩ (.slice a z.length c)) :
  RSA w W' rb0 rb cap s ob nl oc (vs.set i (.slice a z.length c)) (Z.set i z) B0 := by
 have hc : Ch [ob] W W' := by rw [hW]; exact (Ch.refl [ob] _).setCell (by simp) _
 have ho := h.own
 have hst := h.st
 have hlt := hst.lt
 have hvl : vs.length = nl := by have := h.rw.1; simpa using this
 refine ⟨⟨hst.ch.trans hc (fun k hk => .inr (by simp at hk; omega)), hst.rg.ch hc (by simp; omega), hst.fr, hst.b4.ch hc (by simp; omega), hst.b8.ch hc (by simp; omega), hst.rw.ch hc (by simp [Value.ownBlock]), hst.own, hst.low⟩, by rw [hW]; exact row.set h.rw _, ho, by rw [List.length_set]; exact h.len, ?_⟩
 have hw := h.ws.ch hc (fun k hk => by simp at hk; subst hk; exact ⟨by omega, .inr rfl⟩)
 intro j y hy
 rw [List.getElem?_set] at hy
 by_cases hij : i = j
 ·subst hij
  rw [if_pos rfl, if_pos (by rw [h.len]; exact hi)] at hy
  cases hy
  refine ⟨a, c, by rw [List.getElem?_set]; simp [hvl, hi], hs.ch2 hc (fun h0 p hp => by have := hz (by rwa [natInts_pos] at h0) p hp; simp; omega), fun h0 p hp => ?_⟩
  have h4 := hz h0 p hp
  exact ⟨.inr h4.1, by simp; omega, Nat.lt_of_lt_of_le h4.2.2 hc.size⟩
 ·rw [if_neg hij] at hy
  obtain ⟨a', c', h1, h2, h3⟩ := hw j y hy
  exact ⟨a', c', by rw [List.getElem?_set, if_neg hij]; exact h1, h2, h3⟩
theorem RSA.fin (h : RSA w W rb0 rb cap s ob nl oc vs Z B0) (hB : B0 ≤ w.heap.size) (hW : W' = ((W.setCell ⟨w.heap.size + 1, 0, none⟩ (.int .i64 s.1.most)).setCell ⟨w.heap.size + 1, 1, none⟩ (.slice (some ⟨rb, 0, none⟩) s.1.nodes.length cap)).setCell ⟨w.heap.size + 1, 2, none⟩ (.int .i64 s.2)) :
  SLo w rb0 B0 (s, Z) (.returned (.tuple #[.agg #[.int .i64 s.1.most, .slice (some ⟨rb, 0, none⟩) s.1.nodes.length cap, .int .i64 s.2], .slice (some ⟨ob, 0, none⟩) nl oc])) W' := by
 have hcs := set3_ch hW
 have hfr := h.st.fr
 have hl0 := h.st.low
 have ho := h.own
 refine ⟨rb, cap, ob, nl, oc, vs, rfl, h.st.rg.ch hcs (by simp; omega), h.st.ch.trans hcs (fun k hk => .inr (by simp at hk; omega)), by omega, h.len, h.rw.ch hcs (fun q hq => by simp at hq; simp; omega), by omega, ho.2, fun i z hz => ?_⟩
 obtain ⟨a, c, h1, h2, h3⟩ := (h.ws.ch hcs (fun k hk => by simp at hk; exact ⟨by omega, .inl (by omega)⟩)) i z hz
 exact ⟨a, c, h1, h2, fun h0 p hp => by have := h3 h0 p hp; exact ⟨by omega, this.2⟩⟩
end
section
variable {w : World}
theorem r26Write_is {rb cap B0 : Nat} {G : Gra} (h : RG w rb cap G) {qe : Nat} (hqe : qe = 0 ∨ qe = 201) {la : Option Addr} {nl lc width : Nat} {Ls : List WV} {L : List (List Nat)} (hA : IA w la nl Ls L B0) (hB : B0 ≤ w.heap.size) (hL : WdsOk G width L) (hw : width ≤ 17) (hnl : 1 ≤ nl) (hnl2 : nl ≤ 1000)
  {c : Nat} (hc : c < 2 * G.nodes.length) {ya : Option Addr} {Y : List Nat} (n yc : Nat) (hY : Sl w ya (natInts Y)) (hn : Y.length = n) (hn0 : n ≤ 17) (hyr : ∀ r ∈ Y, r < 2 * G.nodes.length)
  {xa : Option Addr} {X : List Nat} (xc : Nat) (hX : Sl w xa (natInts X)) (hxl : X.length = width) (hxr : ∀ r ∈ X, r < 2 * G.nodes.length) :
  Calls Tryz.prog 282 #[.agg #[.int .i64 G.most, .slice (some ⟨rb, 0, none⟩) G.nodes.length cap, .int .i64 qe], .slice la nl lc, .int .i64 c, .slice ya n yc, .slice xa width xc] w (SLo w rb B0 (rwriteF (G, qe) c X L Y n (min nl (2 ^ n)))) := by
 have hok := h.ok
 have hs0 : SOk G (G, qe) := ⟨hok, .refl _, hqe⟩
 have hll := hA.len2
 obtain ⟨K, hK⟩ : ∃ K, K = min nl (2 ^ n) := ⟨_, rfl⟩
 have hKn : K ≤ nl := by omega
 have hFit := fun W => r26FitsQ_is W nl n (by omega)
 rw [← hK] at hFit ⊢
 have hRok := fun k (hk : k ≤ K) => rwriteF_ok hs0 hc hxr hxl hL hyr n k (by omega)
 have hRsn := fun k => rwriteF_succ (G, qe) c X L Y n k
 have hw0 : ∀ (i : Nat) z, L[i]? = some z → ∃ a c, (Ls.map WV.val)[i]? = some (.slice a z.length c) ∧ Sl w a (natInts z) ∧ (0 < z.length → ∀ p, a = some p → p.block < B0) := fun i z hz => by
  have hi := (List.getElem?_eq_some_iff.1 hz).1
  obtain ⟨x, hx⟩ : ∃ x, Ls[i]? = some x := ⟨_, List.getElem?_eq_getElem (by rw [hA.len, ← hll]; exact hi)⟩
  have hxm := List.mem_of_getElem? hx
  have hxe : x.l = natInts z := by
   have h1 := congrArg (fun z => z[i]?) hA.eq
   simp only [List.getElem?_map, hx, hz, Option.map_some, Option.some.injEq] at h1
   exact h1
  refine ⟨x.a, x.c, by rw [List.getElem?_map, hx]; simp [WV.val, hxe, natInts], by rw [← hxe]; exact hA.sl x hxm, fun h0 => hA.low x hxm (by rw [hxe, natInts_pos]; exact h0)⟩
 obtain ⟨lb, lo, a0, c0, hla, _, _, _⟩ := hA.at (i := 0) (by omega)
 subst hla
 have hnw : ∀ (W : World), Ch [] w W → ∀ j u, (Ls.map WV.val)[j]? = some u → W.cell? ((⟨lb, lo, none⟩ : Addr).add j) = some u := fun W hW j u hu => by
  rw [List.getElem?_map] at hu
  obtain ⟨x, hx, rfl⟩ := Option.map_eq_some_iff.1 hu
  obtain ⟨b', o', e, hc⟩ := hA.cells j x hx
  cases e
  rw [Addr.add_lit]
  exact (hW.cell (cell_lt hc) (by simp)).trans hc
 have hone : ∀ u ∈ Ls.map WV.val, u.oneCell' = true := fun u hu => by
  obtain ⟨x, _, rfl⟩ := List.mem_map.1 hu
  rfl
 have hvl : (Ls.map WV.val).length = nl := by rw [List.length_map]; exact hA.len
 obtain ⟨vs0, hvs0⟩ : ∃ vs0, vs0 = Ls.map WV.val := ⟨_, rfl⟩
 rw [← hvs0] at hnw hone hvl hw0
 clear hvs0 hK hs0 hok
 have HA := Hi9 hA; clear hA
 have HY := Hi9 hY; clear hY
 have HX := Hi9 hX; clear hX
 have HXL := Hi9 hxl; clear hxl
 have HN := Hi9 hn; clear hn
 have H := Hi9 h; clear h
 have HL := Hi9 hL; clear hL
 have HYR := Hi9 hyr; clear hyr
 have HXR := Hi9 hxr; clear hxr
 have HFIT := Hi9 hFit; clear hFit
 have HROK := Hi9 hRok; clear hRok
 have HRSN := Hi9 hRsn; clear hRsn
 have HLL := Hi9 hll; clear hll
 have HNW := Hi9 hnw; clear hnw
 have HONE := Hi9 hone; clear hone
 have HVL := Hi9 hvl; clear hvl
 have HW0 := Hi9 hw0; clear hw0
 have HCC := Hi9 hc; clear hc
 go_enter Tryz.func282, Tryz.ntmps282
 go_upto_region 1 with fail
 refine wp_alw ?_
 intro W0 hW0
 have hst := RSt.start H.out hW0 rfl
 clear hW0
 have he0 : row (W0.alloc (.cells #[] 26)) 26 1 (.slice (some ⟨W0.heap.size, 0, none⟩) 0 0) 0 [] := row.fresh9 [] _ rfl (by omega)
 have hnA := HNW.out (W0.alloc (.cells #[] 26)) (hst.ch.alloc _)
 have HST := Hi9 hst; clear hst
 have HE0 := Hi9 he0; clear he0
 have HNA := Hi9 hnA; clear hnA
 go_wp2_with (at_builtin; go_loud (refine wpList_append_row slIntss9 rfl _ _ rfl (v := .slice (some ⟨W0.heap.size, 0, none⟩) 0 0) (n := 0) (xs := []) rfl HE0.out (ad := ⟨lb, lo, none⟩) (m := nl) (c := lc) (news := vs0) rfl (by rw [HVL.out, Nat.mul_one]) HNA.out HONE.out (by omega) (by omega) ?_; intro v1 w1 hr1 hcA hf1; rw [Nat.zero_add, List.nil_append] at hr1; obtain ⟨ob, oc, rfl⟩ := hr1.parts (by omega); have HR1 := Hi9 hr1; clear hr1; have HC1 := Hi9 hcA; clear hcA; have HF1 := Hi9 hf1; clear hf1))
 have hc01 : Ch [] W0 w1 := (((Ch.refl [] W0).alloc (.cells #[] 26))).trans HC1.out (fun k hk => .inr (by simp at hk; omega))
 have hob : W0.heap.size ≤ ob := by
  rcases HF1.out ob rfl with e | e
  ·simp at e; omega
  ·have := ((Ch.refl [] W0).alloc (.cells #[] 26)).size; omega
 have hwl := HST.out.lt
 have hsa : RSA w w1 rb rb cap (G, qe) ob nl oc vs0 L B0 := ⟨HST.out.same hc01, HR1.out, ⟨by omega, by have := HST.out.low; omega⟩, HLL.out, fun i z hz => by
  obtain ⟨a, c, h1, h2, h3⟩ := HW0.out i z hz
  refine ⟨a, c, h1, h2.ch (HST.out.ch.trans hc01 (by simp)) (by simp), fun h0 p hp => ?_⟩
  have h4 := h3 h0 p hp
  have h5 := hc01.size
  exact ⟨.inl h4, by simp; omega, by omega⟩⟩
 have HSA := Hi9 hsa; clear hsa hc01 HR1 HC1 HF1 HE0 HNA HST hob hwl
 go_loopw [13] (fun i wr => ∃ (k rbk capk : Nat) (vs : List Value), k ≤ K ∧ i = .int .i64 k ∧ RSA w wr rb rbk capk (rwriteF (G, qe) c X L Y n k).1 ob nl oc vs (rwriteF (G, qe) c X L Y n k).2 B0) (fun i _ => K - (intOf i).toNat)
 case atStart => exact ⟨0, rb, cap, vs0, by omega, rfl, HSA.out⟩
 case round =>
  clear HSA
  obtain ⟨k, rbk, capk, vs, hk, rfl, hs⟩ := hrel
  by_cases hkK : k < K
  ·have hok := HROK.out k hk
   have hrw := HRSN.out k
   have hAr := HA.out.ch hs.st.ch
   obtain ⟨b8, o8, za, zc, hle, hcl, hslx, hxlow⟩ := hAr.at (i := k) (by omega)
   injection hle with hle
   injection hle with h1 h2 h3
   subst h1 h2
   obtain ⟨hzl, hzr⟩ := HL.out.at (i := k) (by rw [HLL.out]; omega)
   generalize hAA : rwriteF (G, qe) c X L Y n (k + 1) = AN at hrw
   generalize rwriteF (G, qe) c X L Y n k = AS at hrw hok hs
   obtain ⟨⟨G2, q2⟩, ol⟩ := AS
   obtain ⟨hok, hol, _⟩ := hok
   simp only at hs hol
   obtain ⟨x, hx⟩ : ∃ x, x = L.getD k [] := ⟨_, rfl⟩
   unfold rwriteS at hrw
   rw [← hx] at hcl hslx hzl hzr hxlow hrw
   rw [hzl] at hcl
   have hyr2 : ∀ r ∈ Y, r < 2 * G2.nodes.length := fun r hr => hok.ext.lt (HYR.out r hr)
   have hIs := fun (W : World) (hW : Ch [] wr W) => r26Is_is (hs.st.rg.ch hW (by simp)) hok.err n yc k (by omega) (HY.out.ch (hs.st.ch.trans hW (by simp)) (by simp)) HN.out hn0 hyr2
   have hio := ris_ok hok hyr2 n k
   simp only at hrw
   generalize ris (G2, q2) Y n k = IR at hrw hIs hio
   obtain ⟨⟨G3, q3⟩, c3⟩ := IR
   simp only at hrw
   have hcc3 : c < 2 * G3.nodes.length := hio.s.ext.lt (hok.ext.lt HCC.out)
   have hAn := fun (W : World) (rb2 cap2 : Nat) (hr : RG W rb2 cap2 G3) => r23And_is (q := q3) hr hcc3 hio.lt
   obtain ⟨ho5, hl5, he5⟩ := rstep_sok hio.s (Y := and G3 c c3) (fun _ => and_full hio.s.ok hcc3 hio.lt)
   simp only at ho5 hl5 he5
   generalize rstep (G3, q3) (and G3 c c3) = AR at hrw hAn ho5 hl5 he5
   obtain ⟨⟨G5, q5⟩, c5⟩ := AR
   simp only at hrw
   have hCh := fun (W : World) (rb2 cap2 : Nat) (hr : RG W rb2 cap2 G5) (s1 : Sl W xa (natInts X)) (s2 : Sl W za (natInts x)) => r26Choose_is hr ho5.err hl5 width xc zc s1 s2 HXL.out hzl (by omega) (fun r hr => ho5.ext.lt (hok.ext.lt (HXR.out r hr))) (fun r hr => ho5.ext.lt (hok.ext.lt (hzr r hr)))
   have hlen4 : (chF c5 (G5, q5) (X.zip x)).2.length = width := by rw [chF_len, List.length_zip, HXL.out, hzl]; omega
   generalize chF c5 (G5, q5) (X.zip x) = CR at hrw hCh hlen4
   obtain ⟨⟨G4, q4⟩, l4⟩ := CR
   simp only at hlen4 hrw
   subst hrw
   have hrlk := hs.st.rg.lt
   have hw2 := hs.st.lt
   have hobw := (hs.rw.lt ob rfl).2
   have HIS := Hi9 hIs; clear hIs
   have HAN := Hi9 hAn; clear hAn
   have HCH := Hi9 hCh; clear hCh
   have HS := Hi9 hs; clear hs
   have HCL := Hi9 hcl; clear hcl
   have HSLX := Hi9 hslx; clear hslx
   have HAA := Hi9 hAA; clear hAA
   have HL4 := Hi9 hlen4; clear hlen4
   have q1 : decide (k < K) = true := decide_eq_true hkK
   clear hAr h3 hok hio hxlow hzr hzl hx hol hyr2 hcc3 ho5 hl5 he5
   go_wp2_with fail
   refine (HFIT.out _).mono ?_
   rintro e w' ⟨rfl, rfl⟩
   have hI := HIS.out wr (Ch.refl _ _)
   have y0 := HS.out.st.b4.cell (i := 0) rfl
   have y1 := HS.out.st.b4.cell (i := 1) rfl
   have y2 := HS.out.st.b4.cell (i := 2) rfl
   have HI := Hi9 hI; clear hI HIS
   go_wp2_with fail
   refine HI.out.mono ?_
   rintro e w7 ⟨rbI, capI, rfl, hrg2, hch, hfr3⟩
   have HRG2 := Hi9 hrg2; clear hrg2
   have HCHH := Hi9 hch; clear hch y0 y1 y2 HI
   go_upto_region 6 with fail
   refine wp_alw ?_
   intro W6 hW6
   have hb8 : blk W6 w7.heap.size [.int .i64 G3.most, .slice (some ⟨rbI, 0, none⟩) G3.nodes.length capI, .int .i64 q3] := by rw [hW6]; exact blk.new' _ _ rfl
   have hc6 : Ch [] w7 W6 := by rw [hW6]; exact (Ch.refl _ _).alloc _
   clear hW6
   have hc16 := HCHH.out.trans hc6 (by simp)
   have hrg6 := HRG2.out.ch hc6 (by simp)
   have hA6 := HAN.out W6 rbI capI hrg6
   have x0 := hb8.cell (i := 0) rfl
   have x1 := hb8.cell (i := 1) rfl
   have x2 := hb8.cell (i := 2) rfl
   have hz6 := hc16.size
   have hrl6 := hrg6.lt
   have HA6 := Hi9 hA6; clear hA6 HAN
   have HC16 := Hi9 hc16; clear hc16 hc6 hrg6 HRG2 HCHH hb8
   go_wp2_with fail
   refine HA6.out.mono ?_
   rintro e w8 ⟨rbJ, capJ, rfl, hrg2, hch, hfr6⟩
   have HRG2 := Hi9 hrg2; clear hrg2
   have HCHH := Hi9 hch; clear hch x0 x1 x2 HA6
   go_upto_region 7 with fail
   refine wp_alw ?_
   intro W9 hW9
   have hb8 : blk W9 w8.heap.size [.int .i64 G5.most, .slice (some ⟨rbJ, 0, none⟩) G5.nodes.length capJ, .int .i64 q5] := by rw [hW9]; exact blk.new' _ _ rfl
   have hc6 : Ch [] w8 W9 := by rw [hW9]; exact (Ch.refl _ _).alloc _
   clear hW9
   have hc19 := (HC16.out.trans HCHH.out (by simp)).trans hc6 (by simp)
   have hrg6 := HRG2.out.ch hc6 (by simp)
   have hM := fun (W : World) (hW : Ch [] W9 W) => HCH.out W rbJ capJ (hrg6.ch hW (by simp)) (HX.out.ch ((HS.out.st.ch.trans hc19 (by simp)).trans hW (by simp)) (by simp)) (HSLX.out.ch (hc19.trans hW (by simp)) (by simp))
   have hcl6 := (hc19.cell (cell_lt HCL.out) (by simp)).trans HCL.out
   have hz9 := hc19.size
   have hfrJ : rbJ = rbk ∨ wr.heap.size ≤ rbJ := by rcases hfr6 with e | e <;> rcases hfr3 with e2 | e2 <;> omega
   have HM := Hi9 hM; clear hM
   have HB8 := Hi9 hb8; clear hb8
   have HCL6 := Hi9 hcl6; clear hcl6
   have hrl9 := hrg6.lt
   have HC19 := Hi9 hc19; clear hc19 hc6 hrg6 HRG2 HCHH HC16 hfr3 hfr6
   go_upto_region 7 with fail
   go_cut [18, 19] (fun p q wd => TSW W9 wd rbJ ((G4, q4), l4) p q)
   case first =>
    refine Ord.St.door (fun w' => Ch [] W9 w') [.ho, .fl, .fl, .fl, .fl, .fl, .ho, .ef, .fl, .fl, .fl, .ef, .ef, .fl] [0, 0, 0, 0, 0, 24, 56, 127, 255, 511, 511, 0, 3071, 8191] [0, 1, 2, 3, 4, 5, 6, 7, 8, 9, 10, 11, 12, 13] mixed (by kernel_rfl) rfl ?_
    obtain ⟨Wc, hWc⟩ : ∃ Wc, Wc = W9.drew := ⟨_, rfl⟩
    rw [← hWc]
    have hcur : Ch [] W9 Wc := by rw [hWc]; exact (Ch.refl _ _).drew
    clear hWc
    refine Ord.H9 ?_ 0 [1, 2, 3, 4, 5, 6, 7, 8, 9, 10, 11, 12, 13] ?_ (fun K w' hw' hk => ?_) ?_
    rotate_left
    ·trivial
    ·have hb8 := HB8.out.ch hw' (by simp); have y0 := hb8.cell (i := 0) rfl; have y1 := hb8.cell (i := 1) rfl; have y2 := hb8.cell (i := 2) rfl; have a0 := (hw'.cell (cell_lt HCL6.out) (by simp)).trans HCL6.out; clear hb8; go_step; exact hk
    iterate 5 (refine Ord.F9 ?_ (fun K w' hk => ?_) ?_; rotate_left; focus (go_step; exact hk))
    refine Ord.H9 ?_ 6 [7, 8, 9, 10, 11, 12, 13] ?_ (fun K w' hw' hk => ?_) ?_
    rotate_left
    ·trivial
    ·have hb8 := HB8.out.ch hw' (by simp); have y0 := hb8.cell (i := 0) rfl; have y1 := hb8.cell (i := 1) rfl; have y2 := hb8.cell (i := 2) rfl; have a0 := (hw'.cell (cell_lt HCL6.out) (by simp)).trans HCL6.out; clear hb8; go_step; exact hk
    refine Ord.St.two 7 11 [8, 9, 10, 11, 12, 13] [7, 8, 9, 10, 12, 13] _ _ (by kernel_rfl) rfl rfl (by kernel_rfl) (by kernel_rfl) (fun K hK => ?_) (fun K hK => ?_)
    ·have HA := Hi9 (HM.out _ hcur)
     go_wp2_with fail
     refine HA.out.mono ?_
     rintro e w7 ⟨rb2, cap2, a2, c2, rfl, hrg2, hch, hfr3, hrow2, hown2⟩
     have HROWQ := Hi9 hrow2; clear hrow2
     have HOWNQ := Hi9 hown2; clear hown2
     go_wp2_with fail
     refine ⟨rfl, hK _ _ ?_ ?_⟩
     ·exact hcur.trans hch (by simp)
     clear hK K
     try have hne := rto_ne hb9 (by omega) hfr3
     try have hno9 := tsw_ne hb9 HOWNQ.out
     try replace hb9 := hb9.ch hch (by simp)
     have hfr5 : rb2 = rbJ ∨ W9.heap.size ≤ rb2 := by have := hcur.size; rcases hfr3 with e | e <;> omega
     have hlo5 := tsw_lo hcur HOWNQ.out
     have hrow2 := HROWQ.out
     replace hcur := hcur.trans hch (by simp)
     clear hch hfr3 HA HROWQ HOWNQ
     iterate 3 (refine Ord.F9 ?_ (fun K w' hk => ?_) ?_; rotate_left; focus (go_step; exact hk))
     refine Ord.St.efC 11 [12, 13] _ rfl (by kernel_rfl) (fun K hK => ?_)
     go_wp2_with fail
     refine ⟨rfl, hK _ _ ?_ ?_⟩
     ·exact hcur.alloc _
     clear hK K
     refine Ord.St.alw ?_; intro Wn hWn
     have hb9 := alw_blk (xs := [.int .i64 0, .slice none 0 0, .int .i64 0]) hWn
     have hs9 := hcur.size
     try have hne := rg_ne hrg2
     try have hno9 := row_ne hrow2
     try replace hrg2 := hrg2.ch (alw_ch hWn) (by simp)
     try replace hrow2 := hrow2.ch (alw_ch hWn) (by simp)
     replace hcur := hcur.al9 hWn
     clear hWn
     first | (have _t := hrg2; clear _t; generalize w7.heap.size = b9 at *) | generalize Wc.heap.size = b9 at *
     refine Ord.St.ef 12 [13] _ rfl (by kernel_rfl) (fun K hK => ?_)
     have z0 := hb9.cell (i := 0) rfl
     have z1 := hb9.cell (i := 1) rfl
     have z2 := hb9.cell (i := 2) rfl
     have g0 := hb9.frozen (i := 0)
     have g1 := hb9.frozen (i := 1)
     have g2 := hb9.frozen (i := 2)
     have HRG2 := Hi9 hrg2; clear hrg2
     have HB9 := Hi9 hb9; clear hb9
     have HCUR := Hi9 hcur; clear hcur
     have HROW := Hi9 hrow2; clear hrow2
     have HLO5 := Hi9 hlo5; clear hlo5
     have HNO9 := Hi9 hno9; clear hno9
     go_wp2_with fail
     refine ⟨rfl, hK _ _ ?_⟩; clear hK K
     (refine Ord.F9 ?_ (fun K w' hk => ?_) ?_; rotate_left; focus (go_step; exact hk))
     refine Ord.St.nil ?_
     go_wp2_with fail
     go_meet
     case rel => exact TSW.mk HCUR.out HRG2.out hfr5 HB9.out hs9 hne HROW.out HLO5.out HNO9.out rfl
    ·go_wp2_with fail
     refine ⟨rfl, hK _ _ ?_ ?_⟩
     ·exact hcur.alloc _
     clear hK K
     refine Ord.St.alw ?_; intro Wn hWn
     have hb9 := alw_blk (xs := [.int .i64 0, .slice none 0 0, .int .i64 0]) hWn
     have hs9 := hcur.size
     try have hne := rg_ne hrg2
     try have hno9 := row_ne hrow2
     try replace hrg2 := hrg2.ch (alw_ch hWn) (by simp)
     try replace hrow2 := hrow2.ch (alw_ch hWn) (by simp)
     replace hcur := hcur.al9 hWn
     clear hWn
     first | (have _t := hrg2; clear _t; generalize w7.heap.size = b9 at *) | generalize Wc.heap.size = b9 at *
     refine Ord.St.ef 7 [8, 9, 10, 12, 13] _ rfl (by kernel_rfl) (fun K hK => ?_)
     have HA := Hi9 (HM.out _ hcur)
     go_wp2_with fail
     refine HA.out.mono ?_
     rintro e w7 ⟨rb2, cap2, a2, c2, rfl, hrg2, hch, hfr3, hrow2, hown2⟩
     have HROWQ := Hi9 hrow2; clear hrow2
     have HOWNQ := Hi9 hown2; clear hown2
     go_wp2_with fail
     refine ⟨rfl, hK _ _ ?_⟩; clear hK K
     try have hne := rto_ne hb9 (by omega) hfr3
     try have hno9 := tsw_ne hb9 HOWNQ.out
     try replace hb9 := hb9.ch hch (by simp)
     have hfr5 : rb2 = rbJ ∨ W9.heap.size ≤ rb2 := by have := hcur.size; rcases hfr3 with e | e <;> omega
     have hlo5 := tsw_lo hcur HOWNQ.out
     have hrow2 := HROWQ.out
     replace hcur := hcur.trans hch (by simp)
     clear hch hfr3 HA HROWQ HOWNQ
     iterate 3 (refine Ord.F9 ?_ (fun K w' hk => ?_) ?_; rotate_left; focus (go_step; exact hk))
     refine Ord.St.ef 12 [13] _ rfl (by kernel_rfl) (fun K hK => ?_)
     have z0 := hb9.cell (i := 0) rfl
     have z1 := hb9.cell (i := 1) rfl
     have z2 := hb9.cell (i := 2) rfl
     have g0 := hb9.frozen (i := 0)
     have g1 := hb9.frozen (i := 1)
     have g2 := hb9.frozen (i := 2)
     have HRG2 := Hi9 hrg2; clear hrg2
     have HB9 := Hi9 hb9; clear hb9
     have HCUR := Hi9 hcur; clear hcur
     have HROW := Hi9 hrow2; clear hrow2
     have HLO5 := Hi9 hlo5; clear hlo5
     have HNO9 := Hi9 hno9; clear hno9
     go_wp2_with fail
     refine ⟨rfl, hK _ _ ?_⟩; clear hK K
     (refine Ord.F9 ?_ (fun K w' hk => ?_) ?_; rotate_left; focus (go_step; exact hk))
     refine Ord.St.nil ?_
     go_wp2_with fail
     go_meet
     case rel => exact TSW.mk HCUR.out HRG2.out hfr5 HB9.out hs9 hne HROW.out HLO5.out HNO9.out rfl
   case rest =>
    obtain ⟨rb5, cap5, b5, a5, c9, rfl, rfl, hc5, hrg5, hfr5, hb5, hlo5, hrow5, hown5⟩ := hcut
    have hcF := HC19.out.trans hc5 (by simp)
    have hz5 := hc5.size
    have x0 := hb5.cell (i := 0) rfl
    have x1 := hb5.cell (i := 1) rfl
    have x2 := hb5.cell (i := 2) rfl
    have hbp := (HS.out.st.same hcF).b4
    have f0 := hbp.frozen (i := 0)
    have f1 := hbp.frozen (i := 1)
    have f2 := hbp.frozen (i := 2)
    have y0 := hbp.cell (i := 0) rfl
    have y1 := hbp.cell (i := 1) rfl
    have y2 := hbp.cell (i := 2) rfl
    clear hbp hb5
    have HCX := Hi9 hcF; clear hcF
    have HRX := Hi9 hrg5; clear hrg5
    have HROW5 := Hi9 hrow5; clear hrow5
    have HOWN5 := Hi9 hown5; clear hown5
    have hl4 := HL4.out
    try simp only at hl4
    go_upto_region 9 with fail
    refine wp_alw ?_
    intro W10 hW10
    have hs := HS.out.put hB HCX.out HRX.out (by omega) hW10
    have hcs := set3_ch hW10
    have hsl := (Sl.of_ints HROW5.out (by simp only [hl4]; omega)).ch2 hcs (fun _ p hp => by subst hp; have := HOWN5.out p.block rfl; simp; omega)
    have hwb : 0 < l4.length → ∀ p, a5 = some p → w.heap.size + 2 ≤ p.block ∧ p.block ≠ ob ∧ p.block < W10.heap.size := fun _ p hp => by
     subst hp
     have h1 := HOWN5.out p.block rfl
     have h2 := (HROW5.out.lt p.block rfl).2
     have h3 := hcs.size
     exact ⟨by omega, by omega, by omega⟩
    clear hW10 hcs x0 x1 x2 y0 y1 y2 f0 f1 f2
    have hvl2 : vs.length = nl := by have := hs.rw.1; simpa using this
    obtain ⟨old, hold⟩ : ∃ old, vs[k]? = some old := ⟨_, List.getElem?_eq_getElem (by omega)⟩
    have c0 := row.at9 hs.rw hold
    obtain ⟨rb9, ys, he9, hbk9, hyl9⟩ := rowBlk hs.rw k (by omega)
    injection he9 with he9
    injection he9 with he9 _ _
    subst he9
    have f0 := hbk9.frozen (i := k)
    have HS9 := Hi9 hs; clear hs hbk9 hyl9 hold hvl2
    have HSL := Hi9 hsl; clear hsl
    have HWB := Hi9 hwb; clear hwb
    go_wp2_with fail
    go_roundw
    case rel =>
     refine ⟨k + 1, rb5, cap5, vs.set k (.slice a5 l4.length c9), by omega, by go_num, ?_⟩
     rw [HAA.out]
     exact HS9.out.set hB (c := c9) (by omega) HSL.out HWB.out (by rw [hl4])
    case measure => simp [intOf]; omega
  ·have hkK2 : k = K := by omega
   rw [hkK2] at hs
   obtain ⟨⟨⟨G2, q2⟩, l2⟩, hES⟩ : ∃ ES, ES = rwriteF (G, qe) c X L Y n K := ⟨_, rfl⟩
   rw [← hES] at hs
   simp only at hs
   have HES := Hi9 hES; clear hES
   have y0 := hs.st.b4.cell (i := 0) rfl
   have y1 := hs.st.b4.cell (i := 1) rfl
   have y2 := hs.st.b4.cell (i := 2) rfl
   have v0 := hs.st.b8.cell (i := 0) rfl
   have v1 := hs.st.b8.cell (i := 1) rfl
   have v2 := hs.st.b8.cell (i := 2) rfl
   have g0 := hs.st.b8.frozen (i := 0)
   have g1 := hs.st.b8.frozen (i := 1)
   have g2 := hs.st.b8.frozen (i := 2)
   have hl8 := hs.st.b8.lt
   have HSW := Hi9 hs; clear hs
   have q1 : decide (k < K) = false := decide_eq_false hkK
   clear hkK2
   go_wp2_with fail
   refine (HFIT.out _).mono ?_
   rintro e w' ⟨rfl, rfl⟩
   go_wp2_with fail
   refine bodyPost_ret (v := .tuple #[.agg #[.int .i64 G2.most, .slice (some ⟨rbk, 0, none⟩) G2.nodes.length capk, .int .i64 q2], .slice (some ⟨ob, 0, none⟩) nl oc]) (by simp [results, Tryz.results282, go_sem, v0, v1, v2]) rfl ?_
   show SLo w rb B0 (rwriteF (G, qe) c X L Y n K) _ _
   rw [← HES.out]
   exact HSW.out.fin hB rfl
end
end Go.Proofs.YtehljgigebhddaaGreat
namespace Go.Aig
theorem rightB_269 (n : Int) : rightB n = right26 n := rfl
theorem chk26_order (G : Gra) (idx refs : List Int) (ws : List (List Int)) : chk26 G idx refs ws = if ws.any (bad26 (ws.headD []).length) then 260 else if badIn G (idx ++ refs ++ ws.flatten) then 200 else 0 := by
 unfold chk26
 have e : badIn G (refs ++ ws.flatten ++ idx) = badIn G (idx ++ refs ++ ws.flatten) := by
  simp only [badIn_app]
  cases badIn G idx <;> cases badIn G refs <;> cases badIn G ws.flatten <;> rfl
 rw [e]
end Go.Aig
namespace Go.Proofs.YtehljgigebhddaaGreat
open Go.RowKit Go.Mem Go.Aig
theorem run_append_nil9 {P : Program} (w : World) (t ty e : TypeId) (i : TypeInfo) (ht : P.underlying t = some (.slice e)) (hi : P.info? e = some i) (base : Option Addr) (n cap c : Nat) (h : n ≤ cap) : (Builtin.append_ #[t, t] ty #[.slice base n cap, .slice none 0 c]).run P w = .ok (.slice base n cap) w := by
 cases base <;> simp [Builtin.append_, run_underlying ht, sizeOf, typeInfo, hi, Builtin.lenOf, h, Builtin.firstCells, storeCells]
theorem wpList_append_any9 {P : Program} {w : World} {ops : Array Oper} {rest : List Oper} {o : Oper} {a : Act} {Q : Exit → Act → World → Prop} {t e : TypeId} {size bytes : Nat} {z : Value} (S : SliceTy P t e size bytes z) (hgd : o.guard = none) (s x : Operand)
  (ho : o.op = .call { callee := .builtin .append, args := #[s, x], argTypes := #[t, t] })
  {v : Value} {n : Nat} {xs : List Value} (hs : a.eval s = v) (hown : Go.Mem.row w e size v n xs) {ad : Option Addr} {m c : Nat} {news : List Value} (hx : a.eval x = .slice ad m c) (hl : news.length = m * size)
  (hnews : ∀ j u, news[j]? = some u → ∃ p, ad = some p ∧ w.cell? (p.add j) = some u) (h1 : ∀ u ∈ news, u.oneCell' = true)
  (hbytes : (n + m) * bytes ≤ 140737488355328) (h63 : n + m ≤ 9223372036854775807)
  (h : ∀ v' w', Go.Mem.row w' e size v' (n + m) (xs ++ news) → Ch v.ownBlock.toList w w' → (∀ k, v'.ownBlock = some k → v.ownBlock = some k ∨ w.heap.size ≤ k) → wpList P ops Q rest (a.put o.dst v') w') : wpList P ops Q (o :: rest) a w := by
 cases ad with
 | some p =>
  exact wpList_append_row S hgd s x ho hs hown hx hl (fun j u hu => by
   obtain ⟨q, e, h⟩ := hnews j u hu
   cases e
   exact h) h1 hbytes h63 h
 | none =>
  have hn0 : news = [] := by
   cases news with
   | nil => rfl
   | cons y l =>
    obtain ⟨q, e, _⟩ := hnews 0 y rfl
    cases e
  subst hn0
  have hsz := S.pos
  have hm : m = 0 := by
   rcases Nat.mul_eq_zero.1 (by simpa using hl.symm : m * size = 0) with h | h
   ·exact h
   ·omega
  subst hm
  obtain ⟨va, vc, rfl⟩ := row.shape hown
  obtain ⟨i, hi, _⟩ := Option.map_eq_some_iff.1 S.info
  have hcap : n ≤ vc := by
   rcases hown.2 with ⟨e, _⟩ | ⟨g, cap, cur, e, _, _, h1, _⟩
   ·cases e; exact Nat.le_refl _
   ·cases e; exact h1
  have hr := run_append_nil9 w t o.type e i S.under hi va n vc c hcap
  refine wpList_plain hgd fun K hK => ?_
  unfold Oper.wp execOp
  simp only [ho, resolve, invoke, builtin, Sem.run_bind, Sem.run_pure, Result.andThen_ok, List.map_toArray, List.map_cons, List.map_nil, hs, hx, hr]
  exact hK _ _ (h _ _ (by simpa using hown) (Ch.refl _ _) (fun k hk => .inl hk))
theorem Sl.news9 {w : World} {a : Option Addr} {l : List Int} (h : Sl w a l) : ∀ j u, (intCells l)[j]? = some u → ∃ p, a = some p ∧ w.cell? (p.add j) = some u := fun j u hu => by
 unfold intCells at hu
 rw [List.getElem?_map, Option.map_eq_some_iff] at hu
 obtain ⟨x, hx, rfl⟩ := hu
 obtain ⟨b, o, e, hc⟩ := h.cells j x hx
 refine ⟨_, e, ?_⟩
 rw [Addr.add_lit]
 exact hc
theorem ints_one9 (l : List Int) : ∀ u ∈ intCells l, u.oneCell' = true := fun u hu => by
 obtain ⟨r, _, rfl⟩ := List.mem_map.1 hu
 rfl
theorem ints_len9 (l : List Int) : (intCells l).length = l.length := by simp [intCells]
theorem ints_app9 (a b : List Int) : intCells (a ++ b) = intCells a ++ intCells b := by simp [intCells]
theorem own_lo9 {B : Nat} {w : World} {v v' : Value} (hl : ∀ q, v.ownBlock = some q → B ≤ q) (hf : ∀ k, v'.ownBlock = some k → v.ownBlock = some k ∨ w.heap.size ≤ k) (hB : B ≤ w.heap.size) : ∀ q, v'.ownBlock = some q → B ≤ q := fun q hq => (hf q hq).elim (hl q) (fun e => Nat.le_trans hB e)
structure IW (w : World) (la : Option Addr) (nl : Nat) (Ls : List WV) : Prop where
 len : Ls.length = nl
 cells : ∀ (i : Nat) x, Ls[i]? = some x → ∃ b o, la = some ⟨b, o, none⟩ ∧ w.cell? ⟨b, o + i, none⟩ = some x.val
 sl : ∀ x ∈ Ls, Sl w x.a x.l
 sm : ∀ x ∈ Ls, x.l.length ≤ 1000
theorem IW.ch {w w' : World} {la : Option Addr} {nl : Nat} {Ls : List WV} (h : IW w la nl Ls) (hc : Ch [] w w') : IW w' la nl Ls :=
 ⟨h.len, fun i x hx => by
  obtain ⟨b, o, e, hcl⟩ := h.cells i x hx
  exact ⟨b, o, e, (hc.cell (cell_lt hcl) (by simp)).trans hcl⟩, fun x hx => (h.sl x hx).ch hc (by simp), h.sm⟩
section
variable {w : World}
theorem r26Check_is {rb rcap : Nat} {G : Gra} (hr : RG w rb rcap G) {la : Option Addr} {nl lc : Nat} {Ls : List WV} (hA : IW w la nl Ls) (hnl : 1 ≤ nl) (hnl2 : nl ≤ 1000) {ia ra : Option Addr} {I R : List Int} (m ic k rc : Nat) (hI : Sl w ia I) (hm : I.length = m) (hm2 : m ≤ 1000) (hR : Sl w ra R) (hk : R.length = k) (hk2 : k ≤ 1000) :
  Calls Tryz.prog 276 #[.agg #[.int .i64 G.most, .slice (some ⟨rb, 0, none⟩) G.nodes.length rcap], .slice la nl lc, .slice ia m ic, .slice ra k rc] w fun e w' => e = .returned (.int .i64 (chk26 G I R (Ls.map WV.l))) ∧ Ch [] w w' := by
 obtain ⟨y0, hy0⟩ : ∃ y, Ls[0]? = some y := ⟨_, List.getElem?_eq_getElem (by rw [hA.len]; omega)⟩
 have hhd : ((Ls.map WV.l).headD []).length = y0.l.length := by
  cases Ls with
  | nil => simp at hy0
  | cons z zs => simp at hy0; subst hy0; rfl
 obtain ⟨lb, lo, hla, hcy⟩ := hA.cells 0 y0 hy0
 subst hla
 rw [Nat.add_zero] at hcy
 obtain ⟨ya, yl, yc⟩ := y0
 simp only [WV.val] at hcy hhd
 obtain ⟨m0, hm0⟩ : ∃ m0, m0 = yl.length := ⟨_, rfl⟩
 rw [← hm0] at hcy hhd
 rw [chk26_order, hhd]
 obtain ⟨WS, hWS⟩ : ∃ WS, WS = Ls.map WV.l := ⟨_, rfl⟩
 have hWSn : ∀ (i : Nat) x, Ls[i]? = some x → WS.take (i + 1) = WS.take i ++ [x.l] := fun i x hx => by rw [hWS, List.take_add_one, List.getElem?_map, hx]; rfl
 have hWSm : ∀ x ∈ Ls, x.l ∈ WS := fun x hx => by rw [hWS]; exact List.mem_map.2 ⟨x, hx, rfl⟩
 have hWSl : WS.length = nl := by rw [hWS, List.length_map]; exact hA.len
 rw [← hWS]
 obtain ⟨RES, hRES⟩ : ∃ RES, RES = if WS.any (bad26 m0) then 260 else if badIn G (I ++ R ++ WS.flatten) then 200 else 0 := ⟨_, rfl⟩
 rw [← hRES]
 clear hhd hm0 hWS
 have HRES := Hi9 hRES; clear hRES
 have HA := Hi9 hA; clear hA
 have HI := Hi9 hI; clear hI
 have HRF := Hi9 hR; clear hR
 have HM := Hi9 hm; clear hm
 have HK := Hi9 hk; clear hk
 have HR := Hi9 hr; clear hr
 have HCY := Hi9 hcy; clear hcy
 have HWSN := Hi9 hWSn; clear hWSn
 have HWSM := Hi9 hWSm; clear hWSm
 have HWSL := Hi9 hWSl; clear hWSl
 go_enter Tryz.func276, Tryz.ntmps276
 go_wp2_with fail
 refine wp_alw ?_
 intro W0 hW0
 have b2 := alw_blk (xs := [.int .i64 G.most, .slice (some ⟨rb, 0, none⟩) G.nodes.length rcap]) hW0
 have hc0 := alw_ch hW0
 clear hW0
 have B2 := Hi9 b2; clear b2
 have HC0 := Hi9 hc0; clear hc0
 go_loopw [9] (fun i wr => ∃ k : Nat, k ≤ nl ∧ i = .int .i64 k ∧ Ch [] W0 wr ∧ ∀ x ∈ WS.take k, bad26 m0 x = false) (fun i _ => nl - (intOf i).toNat)
 case atStart => exact ⟨0, by omega, rfl, Ch.refl _ _, by simp⟩
 case round =>
  obtain ⟨k1, hk1, rfl, hc, hall⟩ := hrel
  by_cases hlt : k1 < nl
  ·obtain ⟨x, hx⟩ : ∃ x, Ls[k1]? = some x := ⟨_, List.getElem?_eq_getElem (by rw [HA.out.len]; exact hlt)⟩
   have hcw := HC0.out.trans hc (by simp)
   obtain ⟨b8, o8, hle, hcl⟩ := (HA.out.ch hcw).cells k1 x hx
   injection hle with hle
   injection hle with h1 h2 h3
   subst h1 h2
   have d1 := (hcw.cell (cell_lt HCY.out) (by simp)).trans HCY.out
   have hsz := HA.out.sm x (List.mem_of_getElem? hx)
   have hsn := HWSN.out k1 x hx
   have hbad : bad26 m0 x.l = true → WS.any (bad26 m0) = true := fun e => List.any_eq_true.2 ⟨x.l, HWSM.out x (List.mem_of_getElem? hx), e⟩
   have hbe : bad26 m0 x.l = (!right26 x.l.length || (x.l.length : Int) != m0) := rfl
   obtain ⟨xa, xl, xc⟩ := x
   simp only [WV.val] at hcl
   obtain ⟨mx, hm⟩ : ∃ mx, mx = xl.length := ⟨_, rfl⟩
   simp only [← hm] at hcl hbe hsz
   have hRt := fun W => r25Right_is (w := W) (mx : Int)
   rw [rightB_269] at hRt
   obtain ⟨rt, hrt⟩ : ∃ rt, rt = right26 mx := ⟨_, rfl⟩
   obtain ⟨nq, hnq⟩ : ∃ nq, nq = ((mx : Int) != m0) := ⟨_, rfl⟩
   rw [← hrt] at hRt hbe
   rw [← hnq] at hbe
   clear hm hx h3
   obtain ⟨bad, hbd⟩ : ∃ bad, bad = bad26 m0 xl := ⟨_, rfl⟩
   rw [← hbd] at hbe hbad
   have HBDD := Hi9 hbd; clear hbd
   have HC := Hi9 hcw; clear hcw
   have HCW := Hi9 hc; clear hc
   have HALL := Hi9 hall; clear hall
   have HSN := Hi9 hsn; clear hsn
   have HBAD := Hi9 hbad; clear hbad
   have HBE := Hi9 hbe; clear hbe
   have HRT := Hi9 hRt; clear hRt hrt
   have HNQ := Hi9 hnq; clear hnq
   go_upto_region 4 with fail
   go_cut [37] (fun t wd => t = .bool bad ∧ Ch [] wr wd)
   case first =>
    have hnq := HNQ.out.symm
    cases rt
    ·have hq9 := hnq; clear hq9
     refine Ord.St.door (fun _ => True) [.fl, .fl, .fl, .rd, .rd, .ef, .fl, .fl, .fl, .fl, .fl, .rd, .rd, .fl, .fl, .rd, .rd, .fl, .fl] [0, 0, 3, 7, 15, 31, 63, 127, 255, 255, 1023, 2047, 4095, 255, 8447, 24831, 57599, 131071, 262143] [0, 1, 2, 3, 4, 5, 6, 7, 8, 9, 10, 11, 12, 13, 14, 15, 16, 17, 18] mixed (by kernel_rfl) rfl ?_
     iterate 3 (refine Ord.F9 ?_ (fun K w' hk => ?_) ?_; rotate_left; focus (go_step; exact hk))
     iterate 2 (refine Ord.Q9 ?_ (fun K hk => ?_) ?_; rotate_left; focus (go_step; exact hk))
     refine Ord.St.ef 5 [6, 7, 8, 9, 10, 11, 12, 13, 14, 15, 16, 17, 18] _ rfl (by kernel_rfl) (fun K hK => ?_)
     go_wp2_with fail
     refine (HRT.out _).mono ?_
     rintro e w5 ⟨rfl, rfl⟩
     go_wp2_with fail
     refine ⟨rfl, hK _ _ ?_⟩; clear hK K
     iterate 2 (refine Ord.F9 ?_ (fun K w' hk => ?_) ?_; rotate_left; focus (go_step; exact hk))
     first | (refine Ord.J9 ?_ 8 [9, 10, 11, 12, 13, 14, 15, 16, 17, 18] ?_ (fun K w' hk => ?_) ?_; rotate_left; (first | rfl | (simp [Region.wanted, yielded, *]; done)); focus (go_step; exact hk)) | (refine Ord.S9 8 [9, 10, 11, 12, 13, 14, 15, 16, 17, 18] ?_ (fun K hK => ?_); (first | rfl | (simp [Region.wanted, yielded, *]; done)); go_simp; refine hK _ ?_; clear hK K)
     first | (refine Ord.J9 ?_ 9 [10, 11, 12, 13, 14, 15, 16, 17, 18] ?_ (fun K w' hk => ?_) ?_; rotate_left; (first | rfl | (simp [Region.wanted, yielded, *]; done)); focus (go_step; exact hk)) | (refine Ord.S9 9 [10, 11, 12, 13, 14, 15, 16, 17, 18] ?_ (fun K hK => ?_); (first | rfl | (simp [Region.wanted, yielded, *]; done)); go_simp; refine hK _ ?_; clear hK K)
     first | (refine Ord.J9 ?_ 10 [11, 12, 13, 14, 15, 16, 17, 18] ?_ (fun K w' hk => ?_) ?_; rotate_left; (first | rfl | (simp [Region.wanted, yielded, *]; done)); focus (go_step; exact hk)) | (refine Ord.S9 10 [11, 12, 13, 14, 15, 16, 17, 18] ?_ (fun K hK => ?_); (first | rfl | (simp [Region.wanted, yielded, *]; done)); go_simp; refine hK _ ?_; clear hK K)
     first | (refine Ord.K9 ?_ 11 [12, 13, 14, 15, 16, 17, 18] ?_ (fun K hk => ?_) ?_; rotate_left; (first | rfl | (simp [Region.wanted, yielded, *]; done)); focus (go_step; exact hk)) | (refine Ord.T9 11 [12, 13, 14, 15, 16, 17, 18] ?_ (fun K hK => ?_); (first | rfl | (simp [Region.wanted, yielded, *]; done)); go_simp; refine hK _ ?_; clear hK K)
     first | (refine Ord.K9 ?_ 12 [13, 14, 15, 16, 17, 18] ?_ (fun K hk => ?_) ?_; rotate_left; (first | rfl | (simp [Region.wanted, yielded, *]; done)); focus (go_step; exact hk)) | (refine Ord.T9 12 [13, 14, 15, 16, 17, 18] ?_ (fun K hK => ?_); (first | rfl | (simp [Region.wanted, yielded, *]; done)); go_simp; refine hK _ ?_; clear hK K)
     first | (refine Ord.J9 ?_ 13 [14, 15, 16, 17, 18] ?_ (fun K w' hk => ?_) ?_; rotate_left; (first | rfl | (simp [Region.wanted, yielded, *]; done)); focus (go_step; exact hk)) | (refine Ord.S9 13 [14, 15, 16, 17, 18] ?_ (fun K hK => ?_); (first | rfl | (simp [Region.wanted, yielded, *]; done)); go_simp; refine hK _ ?_; clear hK K)
     first | (refine Ord.J9 ?_ 14 [15, 16, 17, 18] ?_ (fun K w' hk => ?_) ?_; rotate_left; (first | rfl | (simp [Region.wanted, yielded, *]; done)); focus (go_step; exact hk)) | (refine Ord.S9 14 [15, 16, 17, 18] ?_ (fun K hK => ?_); (first | rfl | (simp [Region.wanted, yielded, *]; done)); go_simp; refine hK _ ?_; clear hK K)
     first | (refine Ord.K9 ?_ 15 [16, 17, 18] ?_ (fun K hk => ?_) ?_; rotate_left; (first | rfl | (simp [Region.wanted, yielded, *]; done)); focus (go_step; exact hk)) | (refine Ord.T9 15 [16, 17, 18] ?_ (fun K hK => ?_); (first | rfl | (simp [Region.wanted, yielded, *]; done)); go_simp; refine hK _ ?_; clear hK K)
     first | (refine Ord.K9 ?_ 16 [17, 18] ?_ (fun K hk => ?_) ?_; rotate_left; (first | rfl | (simp [Region.wanted, yielded, *]; done)); focus (go_step; exact hk)) | (refine Ord.T9 16 [17, 18] ?_ (fun K hK => ?_); (first | rfl | (simp [Region.wanted, yielded, *]; done)); go_simp; refine hK _ ?_; clear hK K)
     first | (refine Ord.J9 ?_ 17 [18] ?_ (fun K w' hk => ?_) ?_; rotate_left; (first | rfl | (simp [Region.wanted, yielded, *]; done)); focus (go_step; exact hk)) | (refine Ord.S9 17 [18] ?_ (fun K hK => ?_); (first | rfl | (simp [Region.wanted, yielded, *]; done)); go_simp; refine hK _ ?_; clear hK K)
     (refine Ord.F9 ?_ (fun K w' hk => ?_) ?_; rotate_left; focus (go_step; exact hk))
     refine Ord.St.nil ?_
     go_wp2_with fail
     go_meet
     case rel => exact ⟨by rw [HBE.out]; rfl, (Ch.refl _ _).drew⟩
    ·have hcur : Ch [] wr wr.drew := (Ch.refl _ _).drew
     refine Ord.St.door (fun w' => Ch [] wr w') [.fl, .fl, .fl, .rd, .rd, .ef, .fl, .fl, .fl, .fl, .fl, .ho, .rd, .fl, .fl, .ho, .rd, .fl, .fl] [0, 0, 3, 7, 15, 31, 63, 127, 255, 255, 1023, 2047, 4095, 255, 8447, 24831, 57599, 131071, 262143] [0, 1, 2, 3, 4, 5, 6, 7, 8, 9, 10, 11, 12, 13, 14, 15, 16, 17, 18] mixed (by kernel_rfl) rfl ?_
     iterate 3 (refine Ord.F9 ?_ (fun K w' hk => ?_) ?_; rotate_left; focus (go_step; exact hk))
     iterate 2 (refine Ord.Q9 ?_ (fun K hk => ?_) ?_; rotate_left; focus (go_step; exact hk))
     refine Ord.St.ef 5 [6, 7, 8, 9, 10, 11, 12, 13, 14, 15, 16, 17, 18] _ rfl (by kernel_rfl) (fun K hK => ?_)
     go_wp2_with fail
     refine (HRT.out _).mono ?_
     rintro e w5 ⟨rfl, rfl⟩
     go_wp2_with fail
     refine ⟨rfl, hK _ _ ?_⟩; clear hK K
     iterate 2 (refine Ord.F9 ?_ (fun K w' hk => ?_) ?_; rotate_left; focus (go_step; exact hk))
     first | (refine Ord.J9 ?_ 8 [9, 10, 11, 12, 13, 14, 15, 16, 17, 18] ?_ (fun K w' hk => ?_) ?_; rotate_left; (first | rfl | (simp [Region.wanted, yielded, *]; done)); focus (go_step; exact hk)) | (refine Ord.S9 8 [9, 10, 11, 12, 13, 14, 15, 16, 17, 18] ?_ (fun K hK => ?_); (first | rfl | (simp [Region.wanted, yielded, *]; done)); go_simp; refine hK _ ?_; clear hK K)
     first | (refine Ord.J9 ?_ 9 [10, 11, 12, 13, 14, 15, 16, 17, 18] ?_ (fun K w' hk => ?_) ?_; rotate_left; (first | rfl | (simp [Region.wanted, yielded, *]; done)); focus (go_step; exact hk)) | (refine Ord.S9 9 [10, 11, 12, 13, 14, 15, 16, 17, 18] ?_ (fun K hK => ?_); (first | rfl | (simp [Region.wanted, yielded, *]; done)); go_simp; refine hK _ ?_; clear hK K)
     first | (refine Ord.J9 ?_ 10 [11, 12, 13, 14, 15, 16, 17, 18] ?_ (fun K w' hk => ?_) ?_; rotate_left; (first | rfl | (simp [Region.wanted, yielded, *]; done)); focus (go_step; exact hk)) | (refine Ord.S9 10 [11, 12, 13, 14, 15, 16, 17, 18] ?_ (fun K hK => ?_); (first | rfl | (simp [Region.wanted, yielded, *]; done)); go_simp; refine hK _ ?_; clear hK K)
     refine Ord.St.ho2 (T' := ?_) 11 [12, 13, 14, 15, 16, 17, 18] _ _ rfl (by kernel_rfl) (by first | rfl | simp [Region.wanted, yielded, *]) rfl rfl rfl ?_ (fun K w' hw' hk => ?_) ?_
     rotate_left
     ·trivial
     ·have d1' := (hw'.cell (cell_lt d1) (by simp)).trans d1; have hcl' := (hw'.cell (cell_lt hcl) (by simp)).trans hcl; go_step; exact hk
     first | (refine Ord.K9 ?_ 12 [13, 14, 15, 16, 17, 18] ?_ (fun K hk => ?_) ?_; rotate_left; (first | rfl | (simp [Region.wanted, yielded, *]; done)); focus (go_step; exact hk)) | (refine Ord.T9 12 [13, 14, 15, 16, 17, 18] ?_ (fun K hK => ?_); (first | rfl | (simp [Region.wanted, yielded, *]; done)); go_simp; refine hK _ ?_; clear hK K)
     first | (refine Ord.J9 ?_ 13 [14, 15, 16, 17, 18] ?_ (fun K w' hk => ?_) ?_; rotate_left; (first | rfl | (simp [Region.wanted, yielded, *]; done)); focus (go_step; exact hk)) | (refine Ord.S9 13 [14, 15, 16, 17, 18] ?_ (fun K hK => ?_); (first | rfl | (simp [Region.wanted, yielded, *]; done)); go_simp; refine hK _ ?_; clear hK K)
     first | (refine Ord.J9 ?_ 14 [15, 16, 17, 18] ?_ (fun K w' hk => ?_) ?_; rotate_left; (first | rfl | (simp [Region.wanted, yielded, *]; done)); focus (go_step; exact hk)) | (refine Ord.S9 14 [15, 16, 17, 18] ?_ (fun K hK => ?_); (first | rfl | (simp [Region.wanted, yielded, *]; done)); go_simp; refine hK _ ?_; clear hK K)
     refine Ord.St.ho2 (T' := ?_) 15 [16, 17, 18] _ _ rfl (by kernel_rfl) (by first | rfl | simp [Region.wanted, yielded, *]) rfl rfl rfl ?_ (fun K w' hw' hk => ?_) ?_
     rotate_left
     ·trivial
     ·have d1' := (hw'.cell (cell_lt d1) (by simp)).trans d1; have hcl' := (hw'.cell (cell_lt hcl) (by simp)).trans hcl; go_step; exact hk
     first | (refine Ord.K9 ?_ 16 [17, 18] ?_ (fun K hk => ?_) ?_; rotate_left; (first | rfl | (simp [Region.wanted, yielded, *]; done)); focus (go_step; exact hk)) | (refine Ord.T9 16 [17, 18] ?_ (fun K hK => ?_); (first | rfl | (simp [Region.wanted, yielded, *]; done)); go_simp; refine hK _ ?_; clear hK K)
     first | (refine Ord.J9 ?_ 17 [18] ?_ (fun K w' hk => ?_) ?_; rotate_left; (first | rfl | (simp [Region.wanted, yielded, *]; done)); focus (go_step; exact hk)) | (refine Ord.S9 17 [18] ?_ (fun K hK => ?_); (first | rfl | (simp [Region.wanted, yielded, *]; done)); go_simp; refine hK _ ?_; clear hK K)
     (refine Ord.F9 ?_ (fun K w' hk => ?_) ?_; rotate_left; focus (go_step; exact hk))
     refine Ord.St.nil ?_
     go_wp2_with fail
     go_meet
     case rel => exact ⟨by rw [HBE.out, HNQ.out]; rfl, (Ch.refl _ _).drew⟩
   case rest =>
    obtain ⟨rfl, hwd⟩ := hcut
    clear hcl d1
    have HWD := Hi9 hwd; clear hwd
    cases bad
    ·go_wp2_with fail
     go_roundw
     case rel => exact ⟨k1 + 1, by omega, by go_num, HCW.out.trans HWD.out (by simp), fun z hz => by
      rw [HSN.out] at hz
      rcases List.mem_append.1 hz with hz | hz
      ·exact HALL.out z hz
      ·rw [List.mem_singleton.1 hz]; exact HBDD.out.symm⟩
     case measure => simp [intOf]; omega
    ·go_wp2_with fail
     go_ret
     exact ⟨by rw [HRES.out, HBAD.out trivial]; rfl, HC.out.trans HWD.out (by simp)⟩
  ·have hno : WS.any (bad26 m0) = false := by
    rw [List.take_of_length_le (by rw [HWSL.out]; omega)] at hall
    rw [List.any_eq_false]
    intro l hl
    rw [hall l hl]; simp
   have hlen1 : ∀ x ∈ Ls, 1 ≤ x.l.length := fun x hx => by
    rw [List.take_of_length_le (by rw [HWSL.out]; omega)] at hall
    have := hall x.l (HWSM.out x hx)
    unfold bad26 right26 at this
    simp at this
    omega
   have hlen16 : ∀ x ∈ Ls, x.l.length ≤ 16 := fun x hx => by
    rw [List.take_of_length_le (by rw [HWSL.out]; omega)] at hall
    have := hall x.l (HWSM.out x hx)
    unfold bad26 right26 at this
    simp at this
    omega
   have hres2 : RES = if badIn G (I ++ R ++ WS.flatten) then 200 else 0 := by rw [HRES.out, hno]; rfl
   have HRES2 := Hi9 hres2; clear hres2 hno hall
   have HLEN1 := Hi9 hlen1; clear hlen1
   have HLEN16 := Hi9 hlen16; clear hlen16
   have hcw := HC0.out.trans hc (by simp)
   have HC := Hi9 hcw; clear hcw
   have HCW := Hi9 hc; clear hc
   go_upto_region 6 with fail
   have he0 : Go.Mem.row (wr.alloc (.cells #[] 3)) 3 1 (.slice (some ⟨wr.heap.size, 0, none⟩) 0 0) 0 [] := row.fresh9 [] _ rfl (by omega)
   have hnI := (HI.out.ch (HC.out.alloc (.cells #[] 3)) (by simp)).news9
   have hil : (intCells I).length = m := by rw [ints_len9]; exact HM.out
   have hrl : (intCells R).length = k := by rw [ints_len9]; exact HK.out
   have HE0 := Hi9 he0; clear he0
   have HNI := Hi9 hnI; clear hnI
   have HIL := Hi9 hil; clear hil
   have HRL := Hi9 hrl; clear hrl
   go_wp2_with (at_builtin; first | (go_loud (refine wpList_append_any9 slInts rfl _ _ rfl (v := .slice (some ⟨wr.heap.size, 0, none⟩) 0 0) (n := 0) (xs := []) rfl HE0.out (ad := ia) (m := m) (c := ic) (news := intCells I) rfl (by rw [HIL.out, Nat.mul_one]) HNI.out (ints_one9 I) (by omega) (by omega) ?_; intro v1 wA hr1 hcA hf1; rw [Nat.zero_add, List.nil_append] at hr1; obtain ⟨da, dc, rfl⟩ := row.shape hr1; have hcAA : Ch [] wr wA := ((((Ch.refl [] wr).alloc (.cells #[] 3))).trans hcA (fun k hk => .inr (by simp at hk; omega))); have hnR := (HRF.out.ch (HC.out.trans hcAA (by simp)) (by simp)).news9; have hdlo := own_lo9 (B := wr.heap.size) (v := .slice (some ⟨wr.heap.size, 0, none⟩) 0 0) (fun q hq => by simp at hq; omega) hf1 ((Ch.refl [] wr).alloc (.cells #[] 3)).size; have HR1 := Hi9 hr1; clear hr1; have HNR := Hi9 hnR; clear hnR; have HCA := Hi9 hcAA; clear hcAA hcA hf1; have HDLO := Hi9 hdlo; clear hdlo)) | (go_loud (refine wpList_append_any9 slInts rfl _ _ rfl (v := .slice da m dc) (n := m) (xs := intCells I) rfl HR1.out (ad := ra) (m := k) (c := rc) (news := intCells R) rfl (by rw [HRL.out, Nat.mul_one]) HNR.out (ints_one9 R) (by omega) (by omega) ?_; intro v2 wB hr2 hcB hf2; obtain ⟨ea, ec, rfl⟩ := row.shape hr2; have hcBB : Ch [] wr wB := HCA.out.trans hcB (fun q hq => .inr (HDLO.out q (by simpa using hq))); have helo := own_lo9 HDLO.out hf2 HCA.out.size; have HR2 := Hi9 hr2; clear hr2; have HCB := Hi9 hcBB; clear hcBB hcB hf2; have HELO := Hi9 helo; clear helo)))
   clear HR1 HNR HCA HDLO HE0 HNI
   go_loopw [10, 11] (fun o i wq => ∃ (k2 : Nat) (AL : List Int), k2 ≤ nl ∧ i = .int .i64 k2 ∧ Ch [] wr wq ∧ AL = I ++ R ++ (WS.take k2).flatten ∧ AL.length ≤ 2000 + 16 * k2 ∧ Go.Mem.row wq 3 1 o AL.length (intCells AL) ∧ ∀ q, o.ownBlock = some q → wr.heap.size ≤ q) (fun _ i _ => nl - (intOf i).toNat)
   case atStart =>
    refine ⟨0, I ++ R, by omega, rfl, HCB.out, by simp, by rw [List.length_append, HM.out, HK.out]; omega, ?_, HELO.out⟩
    rw [ints_app9, List.length_append, HM.out, HK.out]
    exact HR2.out
   case round =>
    clear HCB HR2 HELO
    obtain ⟨k2, AL, hk2, rfl, hc2, hAL, hALl, hrow, hlo⟩ := hrel
    obtain ⟨oa, oc, hoa⟩ := row.shape hrow
    subst hoa
    by_cases hlt2 : k2 < nl
    ·obtain ⟨x, hx⟩ : ∃ x, Ls[k2]? = some x := ⟨_, List.getElem?_eq_getElem (by rw [HA.out.len]; exact hlt2)⟩
     have hxm := List.mem_of_getElem? hx
     have hcw2 := HC.out.trans hc2 (by simp)
     have hAw := HA.out.ch hcw2
     obtain ⟨b8, o8, hle, hcl⟩ := hAw.cells k2 x hx
     injection hle with hle
     injection hle with h1 h2 h3
     subst h1 h2
     have hsn := HWSN.out k2 x hx
     have hl1 := HLEN1.out x hxm
     have hl16 := HLEN16.out x hxm
     have hnX := (hAw.sl x hxm).news9
     obtain ⟨xa, xl, xc⟩ := x
     simp only [WV.val] at hcl hsn hl1 hl16 hnX
     have hAN : AL ++ xl = I ++ R ++ (WS.take (k2 + 1)).flatten := by rw [hAL, hsn, List.flatten_append]; simp
     have hxl2 : (intCells xl).length = xl.length := ints_len9 xl
     obtain ⟨AN, hAN2⟩ : ∃ AN, AN = AL ++ xl := ⟨_, rfl⟩
     have hrowN : intCells AN = intCells AL ++ intCells xl := by rw [hAN2]; exact ints_app9 _ _
     have hANl : AN.length = AL.length + xl.length := by rw [hAN2, List.length_append]
     rw [← hAN2] at hAN
     clear hAN2 hAL hsn hx hxm hAw h3 hcw2
     obtain ⟨ALn, hALn⟩ : ∃ n, n = AL.length := ⟨_, rfl⟩
     obtain ⟨xn, hxn⟩ : ∃ n, n = xl.length := ⟨_, rfl⟩
     rw [← hALn] at hrow hALl hANl hlo ⊢
     rw [← hxn] at hcl hl1 hl16 hANl hxl2
     have HALN := Hi9 hALn; clear hALn hxn
     have HROW := Hi9 hrow; clear hrow
     have HLO := Hi9 hlo; clear hlo
     have HCC2 := Hi9 hc2; clear hc2
     have HNX := Hi9 hnX; clear hnX
     have HAN := Hi9 hAN; clear hAN
     have HXL2 := Hi9 hxl2; clear hxl2
     have HROWN := Hi9 hrowN; clear hrowN
     have HANL := Hi9 hANl; clear hANl
     go_wp2_with (at_builtin; go_loud (refine wpList_append_any9 slInts rfl _ _ rfl (v := .slice oa ALn oc) (n := ALn) (xs := intCells AL) rfl HROW.out (ad := xa) (m := xn) (c := xc) (news := intCells xl) rfl (by rw [HXL2.out, Nat.mul_one]) HNX.out (ints_one9 xl) (by omega) (by omega) ?_; intro v2 wB hr2 hcB hf2; have HR2 := Hi9 hr2; clear hr2; have HCB := Hi9 hcB; clear hcB; have HF2 := Hi9 hf2; clear hf2))
     go_roundw
     case rel =>
      refine ⟨k2 + 1, AN, by omega, by go_num, HCC2.out.trans HCB.out (fun q hq => .inr (HLO.out q (by simpa using hq))), HAN.out, by have := HANL.out; omega, by rw [HROWN.out, HANL.out]; exact HR2.out, fun q hq => ?_⟩
      rcases HF2.out q hq with e | e
      ·exact HLO.out q e
      ·have := HCC2.out.size; omega
     case measure => simp [intOf]; omega
    ·have hk2n : k2 = nl := by omega
     rw [hk2n, List.take_of_length_le (by rw [HWSL.out]; omega)] at hAL
     have hcw2 := HC.out.trans hc2 (by simp)
     rw [← hAL] at HRES2
     obtain ⟨ALn, hALn⟩ : ∃ n, n = AL.length := ⟨_, rfl⟩
     rw [← hALn] at hrow hALl hlo ⊢
     have hB2 := B2.out.ch (HCW.out.trans hc2 (by simp)) (by simp)
     have HB2 := Hi9 hB2; clear hB2
     have HALN := Hi9 hALn; clear hALn hk2n hAL
     have HROW := Hi9 hrow; clear hrow hlo
     have HC2 := Hi9 hcw2; clear hcw2 hc2
     go_wp2_with fail
     go_loopw [12] (fun i wq => ∃ j : Nat, j ≤ ALn ∧ i = .int .i64 j ∧ Ch [] wr wq ∧ ∀ r ∈ AL.take j, right G.nodes r = true) (fun i _ => ALn - (intOf i).toNat)
     case atStart => exact ⟨0, by omega, rfl, Ch.refl _ _, by simp⟩
     case round =>
      obtain ⟨j, hj, rfl, hc, hin⟩ := hrel
      by_cases hjm : j < ALn
      ·obtain ⟨r, hr⟩ : ∃ r, AL[j]? = some r := ⟨_, List.getElem?_eq_getElem (by have := HALN.out; omega)⟩
       obtain ⟨ob, oc2, hob⟩ := HROW.out.parts (by omega)
       have hrow := HROW.out
       rw [hob] at hrow
       have e0 := row.at9 (hrow.ch hc (by simp)) (j := j) (u := .int .i64 r) (by simp [intCells, hr])
       injection hob with hob1 hob2 hob3
       subst hob1
       have hb2 := HB2.out.ch hc (by simp)
       have z0 := hb2.cell (i := 0) rfl
       have z1 := hb2.cell (i := 1) rfl
       have hRr := rRight_is ((HR.out.ch (HC2.out.trans hc (by simp)) (by simp)).ch (Ch.refl [] wr).drew (by simp)) r
       have hsn2 : AL.take (j + 1) = AL.take j ++ [r] := by rw [List.take_add_one, hr]; rfl
       have hbr : right G.nodes r = false → badIn G AL = true := fun e => List.any_eq_true.2 ⟨r, List.mem_of_getElem? hr, by rw [e]; rfl⟩
       have HIN := Hi9 hin; clear hin
       have HSN2 := Hi9 hsn2; clear hsn2
       have HBR := Hi9 hbr; clear hbr hr hb2 hrow hob2 hob3
       have HCC := Hi9 hc; clear hc
       cases hrr : right G.nodes r
       ·rw [hrr] at hRr
        have HRR := Hi9 hRr; clear hRr
        have HQ := Hi9 hrr; clear hrr
        go_wp2_with fail
        refine Ord.St.door (fun _ => True) [.rd, .fl, .fl, .fl, .rd, .ef, .fl] [0, 0, 0, 6, 14, 31, 63] [0, 1, 2, 3, 4, 5, 6] mixed (by kernel_rfl) rfl ?_
        (refine Ord.Q9 ?_ (fun K hk => ?_) ?_; rotate_left; focus (go_step; exact hk))
        iterate 3 (refine Ord.F9 ?_ (fun K w' hk => ?_) ?_; rotate_left; focus (go_step; exact hk))
        (refine Ord.Q9 ?_ (fun K hk => ?_) ?_; rotate_left; focus (go_step; exact hk))
        refine Ord.St.ef 5 [6] _ rfl (by kernel_rfl) (fun K hK => ?_)
        go_wp2_with fail
        refine HRR.out.mono ?_
        rintro e w5 ⟨rfl, hc5⟩
        have HC5 := Hi9 hc5; clear hc5
        go_wp2_with fail
        refine ⟨rfl, hK _ _ ?_⟩; clear hK K
        (refine Ord.F9 ?_ (fun K w' hk => ?_) ?_; rotate_left; focus (go_step; exact hk))
        refine Ord.St.nil ?_
        go_wp2_with fail
        go_ret
        exact ⟨by rw [HRES2.out, HBR.out HQ.out]; rfl, (HC2.out.trans HCC.out (by simp)).trans ((Ch.refl [] wr).drew.trans HC5.out (by simp)) (by simp)⟩
       ·rw [hrr] at hRr
        have HRR := Hi9 hRr; clear hRr
        have HQ := Hi9 hrr; clear hrr
        go_wp2_with fail
        refine Ord.St.door (fun _ => True) [.rd, .fl, .fl, .fl, .rd, .ef, .fl] [0, 0, 0, 6, 14, 31, 63] [0, 1, 2, 3, 4, 5, 6] mixed (by kernel_rfl) rfl ?_
        (refine Ord.Q9 ?_ (fun K hk => ?_) ?_; rotate_left; focus (go_step; exact hk))
        iterate 3 (refine Ord.F9 ?_ (fun K w' hk => ?_) ?_; rotate_left; focus (go_step; exact hk))
        (refine Ord.Q9 ?_ (fun K hk => ?_) ?_; rotate_left; focus (go_step; exact hk))
        refine Ord.St.ef 5 [6] _ rfl (by kernel_rfl) (fun K hK => ?_)
        go_wp2_with fail
        refine HRR.out.mono ?_
        rintro e w5 ⟨rfl, hc5⟩
        have HC5 := Hi9 hc5; clear hc5
        go_wp2_with fail
        refine ⟨rfl, hK _ _ ?_⟩; clear hK K
        (refine Ord.F9 ?_ (fun K w' hk => ?_) ?_; rotate_left; focus (go_step; exact hk))
        refine Ord.St.nil ?_
        go_wp2_with fail
        go_roundw
        case rel => exact ⟨j + 1, by omega, by go_num, HCC.out.trans ((Ch.refl [] wr).drew.trans HC5.out (by simp)) (by simp), fun z hz => by
         rw [HSN2.out] at hz
         rcases List.mem_append.1 hz with hz | hz
         ·exact HIN.out z hz
         ·rw [List.mem_singleton.1 hz]; exact HQ.out⟩
        case measure => simp [intOf]; omega
      ·have hno : badIn G AL = false := by
        rw [List.take_of_length_le (by have := HALN.out; omega)] at hin
        unfold badIn
        rw [List.any_eq_false]
        intro r hr
        rw [hin r hr]; simp
       have HNO := Hi9 hno; clear hno hin
       have HCC := Hi9 hc; clear hc
       go_wp2_with fail
       go_ret
       exact ⟨by rw [HRES2.out, HNO.out]; rfl, HC2.out.trans HCC.out (by simp)⟩
end
end Go.Proofs.YtehljgigebhddaaGreat
namespace Go.Aig
structure MxA where
 C : Int
 X : List Int
 Y : List Int
 N : Nat
 gs : List Int
 L : List (List Int)
 M : List (List Int)
def RF26 (k : Nat) (G : Gra) (a : MxA) : Mk × List (List Nat) × Nat :=
 match k with
 | 0 => ((chF a.C.toNat (G, 0) ((nats a.X).zip (nats a.Y))).1, [(chF a.C.toNat (G, 0) ((nats a.X).zip (nats a.Y))).2], 0)
 | 1 => ((ris (G, 0) (nats a.Y) a.Y.length a.N).1, [], (ris (G, 0) (nats a.Y) a.Y.length a.N).2)
 | 2 => ((rreadF (G, 0) (a.L.map nats) (nats a.Y) a.Y.length (a.L.headD []).length (min a.L.length (2 ^ a.Y.length))).1, [(rreadF (G, 0) (a.L.map nats) (nats a.Y) a.Y.length (a.L.headD []).length (min a.L.length (2 ^ a.Y.length))).2], 0)
 | 3 => ((rwriteF (G, 0) a.C.toNat (nats a.X) (a.L.map nats) (nats a.Y) a.Y.length (min a.L.length (2 ^ a.Y.length))).1, (rwriteF (G, 0) a.C.toNat (nats a.X) (a.L.map nats) (nats a.Y) a.Y.length (min a.L.length (2 ^ a.Y.length))).2, 0)
 | 4 => ((pickF (a.L.map nats) ((G, 0), (a.L.map nats).getD a.gs.length []) (bwd (nats a.gs))).1, [(pickF (a.L.map nats) ((G, 0), (a.L.map nats).getD a.gs.length []) (bwd (nats a.gs))).2], 0)
 | _ => ((requalF (G, 0) ((a.L.map nats).zip (a.M.map nats))).1, [], (requalF (G, 0) ((a.L.map nats).zip (a.M.map nats))).2)
def f26 (k : Nat) (G : Gra) (a : MxA) : Nat :=
 match k with
 | 0 => chk26 G [] [a.C] [a.X, a.Y]
 | 1 => chk26 G [] [] [a.Y]
 | 2 => if array26 a.L.length = false then 261 else if right26 a.Y.length = false then 260 else chk26 G a.Y [] a.L
 | 3 => if array26 a.L.length = false then 261 else if right26 a.Y.length = false then 260 else chk26 G a.Y [a.C] (a.L ++ [a.X])
 | 4 => if array26 a.L.length = false then 261 else if a.gs.length + 1 ≠ a.L.length then 261 else chk26 G [] a.gs a.L
 | _ => if array26 a.L.length = false then 261 else if a.L.length ≠ a.M.length then 261 else chk26 G [] [] (a.L ++ a.M)
def fin26 (G : Gra) (R : Mk × List (List Nat) × Nat) : Gra × List (List Nat) × Nat × Nat := if R.1.2 ≠ 0 then (G, [], 0, R.1.2) else (R.1.1, R.2.1, R.2.2, 0)
def P26 (k : Nat) (G : Gra) (a : MxA) : Gra × List (List Nat) × Nat × Nat := if f26 k G a ≠ 0 then (G, [], 0, f26 k G a) else fin26 G (RF26 k G a)
def one26 (R : Gra × List Nat × Nat) : Gra × List (List Nat) × Nat × Nat := (R.1, if R.2.2 ≠ 0 then [] else [R.2.1], 0, R.2.2)
def bit26 (R : Res) : Gra × List (List Nat) × Nat × Nat := (R.1, [], R.2.1, R.2.2)
def all26 (R : Gra × List (List Nat) × Nat) : Gra × List (List Nat) × Nat × Nat := (R.1, R.2.1, 0, R.2.2)
theorem sameE_one {a b : Mk × List Nat} (h : SameE a b) (G : Gra) : one26 (wres G a) = fin26 G (b.1, [b.2], 0) := by
 unfold wres fin26 one26
 by_cases h0 : a.1.2 = 0
 ·rw [← h.2 h0]
  simp [h0]
 ·have h1 : b.1.2 ≠ 0 := by rw [← h.1]; exact h0
  rw [if_pos h0, if_pos h1, h.1]
  simp [h1]
theorem sameE_bit {a b : Mk × Nat} (h : SameE a b) (G : Gra) : bit26 (rres G a) = fin26 G (b.1, [], b.2) := by
 unfold rres fin26 bit26
 by_cases h0 : a.1.2 = 0
 ·rw [← h.2 h0]
  simp [h0]
 ·have h1 : b.1.2 ≠ 0 := by rw [← h.1]; exact h0
  rw [if_pos h0, if_pos h1, h.1]
theorem sameE_all {a b : Mk × List (List Nat)} (h : SameE a b) (G : Gra) : all26 (lres G a) = fin26 G (b.1, b.2, 0) := by
 unfold lres fin26 all26
 by_cases h0 : a.1.2 = 0
 ·rw [← h.2 h0]
  simp [h0]
 ·have h1 : b.1.2 ≠ 0 := by rw [← h.1]; exact h0
  rw [if_pos h0, if_pos h1, h.1]
theorem nats_len26 (l : List Int) : (nats l).length = l.length := by simp [nats]
theorem wds_map {G : Gra} {n0 : Nat} {L : List (List Int)} (h : ∀ x ∈ L, WOf G n0 x) : WdsOk G n0 (L.map nats) :=
 ⟨fun z hz => by
  obtain ⟨x, hx, rfl⟩ := List.mem_map.1 hz
  rw [nats_len26]; exact (h x hx).len, fun z hz => by
  obtain ⟨x, hx, rfl⟩ := List.mem_map.1 hz
  exact (h x hx).lt⟩
theorem P26_0 {G : Gra} (a : MxA) : P26 0 G a = one26 (chooseG G a.C a.X a.Y) := by
 unfold P26 chooseG
 by_cases h : f26 0 G a = 0
 ·have h' : chk26 G [] [a.C] [a.X, a.Y] = 0 := h
  rw [if_neg (by simp [h]), if_neg (by simp [h'])]
  exact (sameE_one (.refl _) G).symm
 ·have h' : chk26 G [] [a.C] [a.X, a.Y] ≠ 0 := h
  rw [if_pos h, if_pos h']
  unfold one26
  simp only
  rw [if_pos h']
  rfl
theorem P26_1 {G : Gra} (hG : Ok G) (a : MxA) : P26 1 G a = bit26 (isG G a.Y a.N) := by
 unfold P26 isG
 by_cases h : f26 1 G a = 0
 ·have h' : chk26 G [] [] [a.Y] = 0 := h
  have hc := chk26_ok h'
  have hw := hc.wds a.Y (by simp)
  rw [if_neg (by simp [h]), if_neg (by simp [h'])]
  exact (sameE_bit (is_same (.start hG) (nats_len26 a.Y) (by have := hc.r1 (by simp); have := hw.len; omega) (by have := hc.r2 (by simp); have := hw.len; omega) hw.lt a.N) G).symm
 ·have h' : chk26 G [] [] [a.Y] ≠ 0 := h
  rw [if_pos h, if_pos h']
  rfl
structure Rd26 (G : Gra) (a : MxA) : Prop where
 arr : 1 ≤ a.L.length ∧ a.L.length ≤ 256
 yl : 1 ≤ a.Y.length ∧ a.Y.length ≤ 16
 yr : ∀ r ∈ nats a.Y, r < 2 * G.nodes.length
 yc : natInts (nats a.Y) = a.Y
 wds : WdsOk G (a.L.headD []).length (a.L.map nats)
 w : 1 ≤ (a.L.headD []).length ∧ (a.L.headD []).length ≤ 16
 lc : ∀ x ∈ a.L, natInts (nats x) = x
theorem array26_yes {n : Nat} (h : array26 n = true) : 1 ≤ n ∧ n ≤ 256 := by unfold array26 at h; simp at h; omega
theorem right26_yes {n : Nat} (h : right26 n = true) : 1 ≤ n ∧ n ≤ 16 := by unfold right26 at h; simp at h; omega
theorem f26_read {G : Gra} {a : MxA} (h : f26 2 G a = 0) : Rd26 G a := by
 unfold f26 at h
 simp only at h
 split at h
 ·cases h
 ·rename_i h1
  split at h
  ·cases h
  ·rename_i h2
   have hc := chk26_ok h
   have ha := array26_yes (by simpa using h1)
   have hne : a.L ≠ [] := by intro e; rw [e] at ha; simp at ha
   exact ⟨ha, right26_yes (by simpa using h2), hc.ix.lt, hc.ix.cast, wds_map hc.wds, ⟨hc.r1 hne, hc.r2 hne⟩, fun x hx => (hc.wds x hx).cast⟩
theorem P26_2 {G : Gra} (hG : Ok G) (a : MxA) : P26 2 G a = one26 (readG G a.L a.Y) := by
 unfold P26
 by_cases h : f26 2 G a = 0
 ·have hr := f26_read h
  rw [if_neg (by simp [h])]
  unfold f26 at h
  simp only at h
  unfold readG
  split at h
  ·cases h
  ·rename_i h1
   rw [if_neg h1]
   split at h
   ·cases h
   ·rename_i h2
    rw [if_neg h2, if_neg (by simp [h])]
    exact (sameE_one (read_same hG hr.wds (nats_len26 a.Y) hr.yl.1 (by have := hr.yl.2; omega) hr.yr (by rw [List.length_map]; omega)) G).symm
 ·rw [if_pos h]
  unfold f26 at h ⊢
  simp only at h ⊢
  unfold readG
  split at h
  ·rename_i h1; rw [if_pos h1, if_pos h1]; rfl
  ·rename_i h1
   rw [if_neg h1, if_neg h1]
   split at h
   ·rename_i h2; rw [if_pos h2, if_pos h2]; rfl
   ·rename_i h2
    rw [if_neg h2, if_neg h2, if_pos h]
    unfold one26
    simp only
    rw [if_pos h]
structure Wr26 (G : Gra) (a : MxA) : Prop where
 arr : 1 ≤ a.L.length ∧ a.L.length ≤ 256
 yl : 1 ≤ a.Y.length ∧ a.Y.length ≤ 16
 yr : ∀ r ∈ nats a.Y, r < 2 * G.nodes.length
 yc : natInts (nats a.Y) = a.Y
 wds : WdsOk G (a.L.headD []).length (a.L.map nats)
 w : 1 ≤ (a.L.headD []).length ∧ (a.L.headD []).length ≤ 16
 lc : ∀ x ∈ a.L, natInts (nats x) = x
 xl : a.X.length = (a.L.headD []).length
 xr : ∀ r ∈ nats a.X, r < 2 * G.nodes.length
 xc : natInts (nats a.X) = a.X
 c : a.C.toNat < 2 * G.nodes.length ∧ (a.C.toNat : Int) = a.C
theorem headD_app {L : List (List Int)} (h : 1 ≤ L.length) (x : List Int) : (L ++ [x]).headD [] = L.headD [] := by
 cases L with
 | nil => simp at h
 | cons z L => rfl
theorem one_ref {G : Gra} {c : Int} {n : Nat} (h : WOf G n [c]) : c.toNat < 2 * G.nodes.length ∧ (c.toNat : Int) = c := by
 refine ⟨h.lt c.toNat (by simp [nats]), ?_⟩
 have := h.cast
 simp [nats, natInts] at this
 omega
theorem f26_write {G : Gra} {a : MxA} (h : f26 3 G a = 0) : Wr26 G a := by
 unfold f26 at h
 simp only at h
 split at h
 ·cases h
 ·rename_i h1
  split at h
  ·cases h
  ·rename_i h2
   have hc := chk26_ok h
   have ha := array26_yes (by simpa using h1)
   rw [headD_app ha.1] at hc
   have hne : a.L ++ [a.X] ≠ [] := by simp
   have hx := hc.wds a.X (by simp)
   exact ⟨ha, right26_yes (by simpa using h2), hc.ix.lt, hc.ix.cast, wds_map (fun x hx => hc.wds x (by simp [hx])), ⟨hc.r1 hne, hc.r2 hne⟩, fun x hx => (hc.wds x (by simp [hx])).cast, hx.len, hx.lt, hx.cast, one_ref hc.rf⟩
theorem P26_3 {G : Gra} (hG : Ok G) (a : MxA) : P26 3 G a = all26 (writeG G a.L a.C a.Y a.X) := by
 unfold P26
 by_cases h : f26 3 G a = 0
 ·have hr := f26_write h
  rw [if_neg (by simp [h])]
  unfold f26 at h
  simp only at h
  unfold writeG
  split at h
  ·cases h
  ·rename_i h1
   rw [if_neg h1]
   split at h
   ·cases h
   ·rename_i h2
    rw [if_neg h2, if_neg (by simp [h])]
    exact (sameE_all (write_same hG hr.c.1 hr.xr (by rw [nats_len26]; exact hr.xl) hr.wds (nats_len26 a.Y) hr.yl.1 (by have := hr.yl.2; omega) hr.yr (by rw [List.length_map]; omega)) G).symm
 ·rw [if_pos h]
  unfold f26 at h ⊢
  simp only at h ⊢
  unfold writeG
  split at h
  ·rename_i h1; rw [if_pos h1, if_pos h1]; rfl
  ·rename_i h1
   rw [if_neg h1, if_neg h1]
   split at h
   ·rename_i h2; rw [if_pos h2, if_pos h2]; rfl
   ·rename_i h2
    rw [if_neg h2, if_neg h2, if_pos h]
    rfl
structure Pk26 (G : Gra) (a : MxA) : Prop where
 arr : 1 ≤ a.L.length ∧ a.L.length ≤ 256
 gl : a.gs.length + 1 = a.L.length
 gr : ∀ r ∈ nats a.gs, r < 2 * G.nodes.length
 gc : natInts (nats a.gs) = a.gs
 wds : WdsOk G (a.L.headD []).length (a.L.map nats)
 w : 1 ≤ (a.L.headD []).length ∧ (a.L.headD []).length ≤ 16
 lc : ∀ x ∈ a.L, natInts (nats x) = x
theorem f26_pick {G : Gra} {a : MxA} (h : f26 4 G a = 0) : Pk26 G a := by
 unfold f26 at h
 simp only at h
 split at h
 ·cases h
 ·rename_i h1
  split at h
  ·cases h
  ·rename_i h2
   have hc := chk26_ok h
   have ha := array26_yes (by simpa using h1)
   have hne : a.L ≠ [] := by intro e; rw [e] at ha; simp at ha
   exact ⟨ha, by omega, hc.rf.lt, hc.rf.cast, wds_map hc.wds, ⟨hc.r1 hne, hc.r2 hne⟩, fun x hx => (hc.wds x hx).cast⟩
theorem P26_4 {G : Gra} (_hG : Ok G) (a : MxA) : P26 4 G a = one26 (pickG G a.gs a.L) := by
 unfold P26
 by_cases h : f26 4 G a = 0
 ·rw [if_neg (by simp [h])]
  unfold f26 at h
  simp only at h
  unfold pickG
  split at h
  ·cases h
  ·rename_i h1
   rw [if_neg h1]
   split at h
   ·cases h
   ·rename_i h2
    rw [if_neg h2, if_neg (by simp [h])]
    exact (sameE_one (.refl _) G).symm
 ·rw [if_pos h]
  unfold f26 at h ⊢
  simp only at h ⊢
  unfold pickG
  split at h
  ·rename_i h1; rw [if_pos h1, if_pos h1]; rfl
  ·rename_i h1
   rw [if_neg h1, if_neg h1]
   split at h
   ·rename_i h2; rw [if_pos h2, if_pos h2]; rfl
   ·rename_i h2
    rw [if_neg h2, if_neg h2, if_pos h]
    unfold one26
    simp only
    rw [if_pos h]
structure Eq26 (G : Gra) (a : MxA) : Prop where
 arr : 1 ≤ a.L.length ∧ a.L.length ≤ 256
 ml : a.M.length = a.L.length
 wds : WdsOk G (a.L.headD []).length (a.L.map nats)
 wds2 : WdsOk G (a.L.headD []).length (a.M.map nats)
 w : 1 ≤ (a.L.headD []).length ∧ (a.L.headD []).length ≤ 16
 lc : ∀ x ∈ a.L, natInts (nats x) = x
 mc : ∀ x ∈ a.M, natInts (nats x) = x
theorem headD_app2 {L M : List (List Int)} (h : 1 ≤ L.length) : (L ++ M).headD [] = L.headD [] := by
 cases L with
 | nil => simp at h
 | cons z L => rfl
theorem prs26 {G : Gra} {width : Nat} {L M : List (List Nat)} (hL : WdsOk G width L) (hM : WdsOk G width M) : PrsOk G width (L.zip M) :=
 ⟨fun _ hp => ⟨hL.len _ (List.of_mem_zip hp).1, hM.len _ (List.of_mem_zip hp).2⟩, fun _ hp => ⟨hL.lt _ (List.of_mem_zip hp).1, hM.lt _ (List.of_mem_zip hp).2⟩⟩
theorem f26_equal {G : Gra} {a : MxA} (h : f26 5 G a = 0) : Eq26 G a := by
 unfold f26 at h
 simp only at h
 split at h
 ·cases h
 ·rename_i h1
  split at h
  ·cases h
  ·rename_i h2
   have hc := chk26_ok h
   have ha := array26_yes (by simpa using h1)
   rw [headD_app2 ha.1] at hc
   have hne : a.L ++ a.M ≠ [] := by intro e; have := congrArg List.length e; simp at this; rw [this.1] at ha; simp at ha
   exact ⟨ha, by omega, wds_map (fun x hx => hc.wds x (by simp [hx])), wds_map (fun x hx => hc.wds x (by simp [hx])), ⟨hc.r1 hne, hc.r2 hne⟩, fun x hx => (hc.wds x (by simp [hx])).cast, fun x hx => (hc.wds x (by simp [hx])).cast⟩
theorem P26_5 {G : Gra} (hG : Ok G) (a : MxA) : P26 5 G a = bit26 (equalG G a.L a.M) := by
 unfold P26
 by_cases h : f26 5 G a = 0
 ·have hr := f26_equal h
  rw [if_neg (by simp [h])]
  unfold f26 at h
  simp only at h
  unfold equalG
  split at h
  ·cases h
  ·rename_i h1
   rw [if_neg h1]
   split at h
   ·cases h
   ·rename_i h2
    rw [if_neg h2, if_neg (by simp [h])]
    exact (sameE_bit (equal_same hG hr.w.1 (by have := hr.w.2; omega) (prs26 hr.wds hr.wds2)) G).symm
 ·rw [if_pos h]
  unfold f26 at h ⊢
  simp only at h ⊢
  unfold equalG
  split at h
  ·rename_i h1; rw [if_pos h1, if_pos h1]; rfl
  ·rename_i h1
   rw [if_neg h1, if_neg h1]
   split at h
   ·rename_i h2; rw [if_pos h2, if_pos h2]; rfl
   ·rename_i h2
    rw [if_neg h2, if_neg h2, if_pos h]
    rfl
end Go.Aig
namespace Go.Proofs.YtehljgigebhddaaGreat
open Go.RowKit Go.Mem Go.Aig
structure MxV where
 kind : Nat
 C : Int
 x : WV
 y : WV
 N : Nat
 gs : WV
 la : Option Addr
 lc : Nat
 Ls : List WV
 ma : Option Addr
 mc : Nat
 Ms : List WV
def MxV.cells (v : MxV) : List Value := [.int .u8 v.kind, .int .i64 v.C, v.x.val, v.y.val, .int .u32 v.N, v.gs.val, .slice v.la v.Ls.length v.lc, .slice v.ma v.Ms.length v.mc]
def MxV.a (v : MxV) : MxA := ⟨v.C, v.x.l, v.y.l, v.N, v.gs.l, v.Ls.map WV.l, v.Ms.map WV.l⟩
structure MxIn (w : World) (v : MxV) (B0 : Nat) : Prop where
 x : Sl w v.x.a v.x.l
 y : Sl w v.y.a v.y.l
 gs : Sl w v.gs.a v.gs.l
 ls : IW w v.la v.Ls.length v.Ls
 ms : IW w v.ma v.Ms.length v.Ms
 low : ∀ z ∈ v.Ls ++ v.Ms, 0 < z.l.length → ∀ p, z.a = some p → p.block < B0
theorem IA.of {w : World} {la : Option Addr} {nl B0 : Nat} {Ls : List WV} (h : IW w la nl Ls) (hl : ∀ z ∈ Ls, 0 < z.l.length → ∀ p, z.a = some p → p.block < B0) (hc : ∀ x ∈ Ls.map WV.l, natInts (nats x) = x) : IA w la nl Ls ((Ls.map WV.l).map nats) B0 :=
 ⟨h.len, h.cells, h.sl, hl, by
  have key : ∀ l : List (List Int), (∀ x ∈ l, natInts (nats x) = x) → l = (l.map nats).map natInts := by
   intro l
   induction l with
   | nil => intro _; rfl
   | cons x l ih =>
    intro hx
    rw [List.map_cons, List.map_cons, hx x (by simp), ← ih (fun z hz => hx z (by simp [hz]))]
  exact key _ hc⟩
def ArrR (w' : World) (B0 B1 : Nat) (v : Value) (Z : List (List Nat)) : Prop := ∃ oa oc, v = .slice oa Z.length oc ∧ ∀ (i : Nat) z, Z[i]? = some z → ∃ b a c, oa = some ⟨b, 0, none⟩ ∧ B1 ≤ b ∧ w'.cell? ⟨b, i, none⟩ = some (.slice a z.length c) ∧ Sl w' a (natInts z) ∧ (0 < z.length → ∀ p, a = some p → p.block < B0 ∨ B1 ≤ p.block)
theorem ArrR.nil (w' : World) (B0 B1 : Nat) : ArrR w' B0 B1 (.slice none 0 0) [] := ⟨none, 0, rfl, fun i z hz => by simp at hz⟩
theorem ArrR.ch {w w' : World} {B0 B1 : Nat} {v : Value} {Z : List (List Nat)} {F : List Nat} (h : ArrR w B0 B1 v Z) (hc : Ch F w w') (hF : ∀ k ∈ F, B0 ≤ k ∧ k < B1) : ArrR w' B0 B1 v Z := by
 obtain ⟨oa, oc, e, h⟩ := h
 refine ⟨oa, oc, e, fun i z hz => ?_⟩
 obtain ⟨b, a, c, h1, h2, h3, h4, h5⟩ := h i z hz
 refine ⟨b, a, c, h1, h2, (hc.cell (cell_lt h3) (fun hin => by have := hF _ hin; simp at this; omega)).trans h3, h4.ch2 hc (fun h0 p hp hin => ?_), h5⟩
 have := h5 (by rwa [natInts_pos] at h0) p hp
 have := hF _ hin
 omega
theorem ArrR.up {w : World} {B0 B1 B2 : Nat} {v : Value} {Z : List (List Nat)} (h : ArrR w B0 B1 v Z) (hB : B2 ≤ B1) : ArrR w B0 B2 v Z := by
 obtain ⟨oa, oc, e, h⟩ := h
 refine ⟨oa, oc, e, fun i z hz => ?_⟩
 obtain ⟨b, a, c, h1, h2, h3, h4, h5⟩ := h i z hz
 exact ⟨b, a, c, h1, by omega, h3, h4, fun h0 p hp => by have := h5 h0 p hp; omega⟩
theorem LTo.swo {w : World} {rb B0 : Nat} {R : Mk × List Nat} {e : Ending} {w' : World} (h : LTo w rb R e w') (hl : R.2.length ≤ 1000000) : SWo w rb B0 R e w' := by
 obtain ⟨rb', cap', a, c, h1, h2, h3, h4, h5, h6⟩ := h
 exact ⟨rb', cap', a, c, h1, h2, h3, h4, Sl.of_ints h5 hl, fun _ p hp => by subst hp; exact .inr (h6 p.block rfl).1⟩
def FTo26 (w : World) (rb B0 : Nat) (R : Mk × List (List Nat) × Nat) (e : Ending) (w' : World) : Prop := ∃ rb' cap' v, e = .returned (.tuple #[.agg #[.int .i64 R.1.1.most, .slice (some ⟨rb', 0, none⟩) R.1.1.nodes.length cap', .int .i64 R.1.2], v, .int .i64 R.2.2]) ∧ RG w' rb' cap' R.1.1 ∧ Ch [] w w' ∧ (rb' = rb ∨ w.heap.size ≤ rb') ∧ ArrR w' B0 w.heap.size v R.2.1
theorem FTo26.mk {w W W2 W3 : World} {rb rb' cap' b B0 : Nat} {R : Mk × List (List Nat) × Nat} {v : Value} (hc0 : Ch [] w W) (hc2 : Ch [] W W2) (hr : RG W2 rb' cap' R.1.1) (hf : rb' = rb ∨ W.heap.size ≤ rb') (hl : rb < w.heap.size) (ha : ArrR W2 B0 W.heap.size v R.2.1) (hB : B0 ≤ w.heap.size)
  (hb : w.heap.size ≤ b) (hb2 : b < W.heap.size) (hcs : Ch [b] W2 W3) : FTo26 w rb B0 R (.returned (.tuple #[.agg #[.int .i64 R.1.1.most, .slice (some ⟨rb', 0, none⟩) R.1.1.nodes.length cap', .int .i64 R.1.2], v, .int .i64 R.2.2])) W3 := by
 have hz := hc0.size
 exact ⟨rb', cap', v, rfl, hr.ch hcs (by simp; omega), (hc0.trans hc2 (by simp)).trans hcs (fun k hk => .inr (by simp at hk; omega)), by omega, (ha.ch hcs (fun k hk => by simp at hk; omega)).up hz⟩
theorem bodyPost_alw {P : Program} {f : Func} {Q : Ending → World → Prop} {x : Exit} {a : Act} {w : World} (h : ∀ W, W = w → bodyPost P f Q x a W) : bodyPost P f Q x a w := h w rfl
section
variable {w : World} {rb cap B0 : Nat} {G : Gra}
theorem reference26_0 (h : RG w rb cap G) (v : MxV) (hk : (v.kind : Int) % 6 = 0) (hN : v.N < 4294967296) (hv : MxIn w v B0) (hB : B0 ≤ w.heap.size) (hf : f26 0 G v.a = 0) :
  Calls Tryz.prog 200 #[.agg #[.int .i64 G.most, .slice (some ⟨rb, 0, none⟩) G.nodes.length cap, .int .i64 0], .agg #[.int .u8 v.kind, .int .i64 v.C, v.x.val, v.y.val, .int .u32 v.N, v.gs.val, .slice v.la v.Ls.length v.lc, .slice v.ma v.Ms.length v.mc]] w (FTo26 w rb B0 (RF26 0 G v.a)) := by
 have hlt := h.lt
 have hok := h.ok
 obtain ⟨kind, C, ⟨xa, xl, xc⟩, ⟨ya, yl, yc⟩, N, ⟨ga, gl, gc⟩, la, lc, Ls, ma, mc, Ms⟩ := v
 obtain ⟨hx, hy, hgs, hls, hms, hlow⟩ := hv
 simp only [WV.val] at *
 unfold MxV.a at hf ⊢
 simp only at hf ⊢
 have hc := chk26_ok (show chk26 G [] [C] [xl, yl] = 0 from hf)
 have wx := hc.wds xl (by simp)
 have wy := hc.wds yl (by simp)
 obtain ⟨cl, ce⟩ := one_ref hc.rf
 have hr2 := hc.r2 (by simp)
 obtain ⟨n, hn⟩ : ∃ n, n = xl.length := ⟨_, rfl⟩
 have hyn : yl.length = n := by have := wx.len; have := wy.len; omega
 obtain ⟨cn, hcn⟩ : ∃ cn : Nat, cn = C.toNat := ⟨_, rfl⟩
 have hCn : C = cn := by omega
 subst hCn
 have hx' : Sl w xa (natInts (nats xl)) := by rw [wx.cast]; exact hx
 have hy' : Sl w ya (natInts (nats yl)) := by rw [wy.cast]; exact hy
 have hn17 : n ≤ 17 := by have := wx.len; omega
 rw [Int.toNat_natCast] at cl
 unfold RF26
 simp only [Int.toNat_natCast]
 rw [← hn, hyn]
 have hC := fun (W : World) (hW : Ch [] w W) => (r26Choose_is (h.ch hW (by simp)) (.inl rfl) cl n xc yc (hx'.ch hW (by simp)) (hy'.ch hW (by simp)) (by rw [nats_len26]; omega) (by rw [nats_len26]; omega) (by omega) wx.lt wy.lt).mono (fun e w' h' => h'.swo (B0 := B0) (by rw [chF_len, List.length_zip, nats_len26, nats_len26]; omega))
 generalize chF cn (G, 0) ((nats xl).zip (nats yl)) = R at *
 obtain ⟨⟨G1, q1⟩, l1⟩ := R
 clear hc wx wy ce cl hr2 hcn hx' hy' hn hyn hf
 have HCC := Hi9 hC; clear hC
 clear h hok hx hy hgs hls hms hlow
 go_enter Tryz.func200, Tryz.ntmps200
 go_wp2_with fail
 refine calls_named fun W hW => ?_
 have b4 : blk W (w.heap.size + 2) [.int .i64 0, .slice none 0 0, .int .i64 0] := by rw [hW]; exact blk.new' _ _ (by simp)
 have b2 : blk W w.heap.size [.int .i64 G.most, .slice (some ⟨rb, 0, none⟩) G.nodes.length cap, .int .i64 0] := by rw [hW]; exact ((blk.new' _ _ rfl).alloc _).alloc _
 have hc : Ch [] w W := by rw [hW]; exact (((Ch.refl _ _).alloc _).alloc _).alloc _
 clear hW
 have HC := Hi9 hc; clear hc
 refine (HCC.out W HC.out).mono ?_
 rintro e w1 ⟨rb', cap', a, c, rfl, hrg, hch, hfr, hsl, hlow⟩
 have hl2 := b4.lt
 have hz := hch.size
 have hzc := HC.out.size
 have B4 := b4.ch hch (by simp)
 have HRG := Hi9 hrg; clear hrg b2
 have HCH := Hi9 hch; clear hch
 have HSL := Hi9 hsl; clear hsl
 have HLOW := Hi9 hlow; clear hlow
 have BB4 := Hi9 B4; clear B4 b4
 go_upto_region 4 with fail
 refine wp_alw ?_
 intro W2 hW2
 have hb9 : blk W2 w1.heap.size [.int .i64 G1.most, .slice (some ⟨rb', 0, none⟩) G1.nodes.length cap', .int .i64 q1] := by rw [hW2]; exact blk.new' _ _ rfl
 have hcA : Ch [] w1 W2 := by rw [hW2]; exact (Ch.refl _ _).alloc _
 clear hW2
 have B4 := BB4.out.ch hcA (by simp)
 have y0 := hb9.cell (i := 0) rfl
 have y1 := hb9.cell (i := 1) rfl
 have y2 := hb9.cell (i := 2) rfl
 have z0 := B4.cell (i := 0) rfl
 have z1 := B4.cell (i := 1) rfl
 have z2 := B4.cell (i := 2) rfl
 have g0 := B4.frozen (i := 0)
 have g1 := B4.frozen (i := 1)
 have g2 := B4.frozen (i := 2)
 have hzz := BB4.out.lt
 have hz2 := hcA.size
 have HCA := Hi9 hcA; clear hcA hb9
 have HB4 := Hi9 B4; clear B4
 have hW2l : w.heap.size + 2 < W2.heap.size := by omega
 go_wp2_with fail
 refine bodyPost_alw ?_
 intro W3 hW3
 have b5 : blk W3 (w.heap.size + 2) [.int .i64 G1.most, .slice (some ⟨rb', 0, none⟩) G1.nodes.length cap', .int .i64 q1] := by rw [hW3]; exact (set3_blk HB4.out rfl).alloc _
 have hbn : blk W3 W2.heap.size [.slice a l1.length c] := by rw [hW3]; exact blk.new' _ _ (by simp)
 have hc3 : Ch [w.heap.size + 2] W2 W3 := by rw [hW3]; exact (set3_ch rfl).alloc _
 clear hW3 z0 z1 z2 g0 g1 g2
 have z0 := b5.cell (i := 0) rfl
 have z1 := b5.cell (i := 1) rfl
 have z2 := b5.cell (i := 2) rfl
 refine bodyPost_ret (v := .tuple #[.agg #[.int .i64 G1.most, .slice (some ⟨rb', 0, none⟩) G1.nodes.length cap', .int .i64 q1], .slice (some ⟨W2.heap.size, 0, none⟩) 1 1, .int .i64 0]) (by simp [results, Tryz.results200, go_sem, z0, z1, z2]) rfl ?_
 refine ⟨rb', cap', _, rfl, (HRG.out.ch HCA.out (by simp)).ch hc3 (by simp; omega), ((HC.out.trans HCH.out (by simp)).trans HCA.out (by simp)).trans hc3 (fun k hk => .inr (by simp at hk; omega)), by omega, some ⟨W2.heap.size, 0, none⟩, 1, rfl, fun i z hz => ?_⟩
 match i, hz with
 | 0, hz =>
  cases hz
  exact ⟨_, a, c, rfl, by omega, hbn.cell rfl, (HSL.out.ch HCA.out (by simp)).ch2 hc3 (fun h0 p hp => by have := HLOW.out (by rwa [natInts_pos] at h0) p hp; simp; omega), fun h0 p hp => by have := HLOW.out h0 p hp; omega⟩
theorem reference26_1 (h : RG w rb cap G) (v : MxV) (hk : (v.kind : Int) % 6 = 1) (hN : v.N < 4294967296) (hv : MxIn w v B0) (hB : B0 ≤ w.heap.size) (hf : f26 1 G v.a = 0) :
  Calls Tryz.prog 200 #[.agg #[.int .i64 G.most, .slice (some ⟨rb, 0, none⟩) G.nodes.length cap, .int .i64 0], .agg #[.int .u8 v.kind, .int .i64 v.C, v.x.val, v.y.val, .int .u32 v.N, v.gs.val, .slice v.la v.Ls.length v.lc, .slice v.ma v.Ms.length v.mc]] w (FTo26 w rb B0 (RF26 1 G v.a)) := by
 have hlt := h.lt
 have hok := h.ok
 obtain ⟨kind, C, ⟨xa, xl, xc⟩, ⟨ya, yl, yc⟩, N, ⟨ga, gl, gc⟩, la, lc, Ls, ma, mc, Ms⟩ := v
 obtain ⟨hx, hy, hgs, hls, hms, hlow⟩ := hv
 simp only [WV.val] at *
 unfold MxV.a at hf ⊢
 simp only at hf ⊢
 have hc := chk26_ok (show chk26 G [] [] [yl] = 0 from hf)
 have wy := hc.wds yl (by simp)
 have hr2 := hc.r2 (by simp)
 obtain ⟨n, hn⟩ : ∃ n, n = yl.length := ⟨_, rfl⟩
 have hy' : Sl w ya (natInts (nats yl)) := by rw [wy.cast]; exact hy
 have hn17 : n ≤ 17 := by have := wy.len; omega
 unfold RF26
 simp only
 rw [← hn]
 have hC := fun (W : World) (hW : Ch [] w W) => r26Is_is (h.ch hW (by simp)) (.inl rfl) n yc N hN (hy'.ch hW (by simp)) (by rw [nats_len26]; omega) hn17 wy.lt
 generalize ris (G, 0) (nats yl) n N = R at *
 obtain ⟨⟨G1, q1⟩, p1⟩ := R
 clear hc wy hr2 hy' hn hf
 have HCC := Hi9 hC; clear hC
 clear h hok hx hy hgs hls hms hlow
 go_enter Tryz.func200, Tryz.ntmps200
 go_wp2_with fail
 refine calls_named fun W hW => ?_
 have b4 : blk W (w.heap.size + 2) [.int .i64 0, .slice none 0 0, .int .i64 0] := by rw [hW]; exact blk.new' _ _ (by simp)
 have b2 : blk W w.heap.size [.int .i64 G.most, .slice (some ⟨rb, 0, none⟩) G.nodes.length cap, .int .i64 0] := by rw [hW]; exact ((blk.new' _ _ rfl).alloc _).alloc _
 have hc : Ch [] w W := by rw [hW]; exact (((Ch.refl _ _).alloc _).alloc _).alloc _
 clear hW
 have HC := Hi9 hc; clear hc
 refine (HCC.out W HC.out).mono ?_
 rintro e w1 ⟨rb', cap', rfl, hrg, hch, hfr⟩
 have hl2 := b4.lt
 have hz := hch.size
 have hzc := HC.out.size
 have B4 := b4.ch hch (by simp)
 have HRG := Hi9 hrg; clear hrg b2
 have HCH := Hi9 hch; clear hch
 have BB4 := Hi9 B4; clear B4 b4
 go_upto_region 7 with fail
 refine wp_alw ?_
 intro W2 hW2
 have hb9 : blk W2 w1.heap.size [.int .i64 G1.most, .slice (some ⟨rb', 0, none⟩) G1.nodes.length cap', .int .i64 q1] := by rw [hW2]; exact blk.new' _ _ rfl
 have hcA : Ch [] w1 W2 := by rw [hW2]; exact (Ch.refl _ _).alloc _
 clear hW2
 have B4 := BB4.out.ch hcA (by simp)
 have y0 := hb9.cell (i := 0) rfl
 have y1 := hb9.cell (i := 1) rfl
 have y2 := hb9.cell (i := 2) rfl
 have z0 := B4.cell (i := 0) rfl
 have z1 := B4.cell (i := 1) rfl
 have z2 := B4.cell (i := 2) rfl
 have g0 := B4.frozen (i := 0)
 have g1 := B4.frozen (i := 1)
 have g2 := B4.frozen (i := 2)
 have hzz := B4.lt
 have HCA := Hi9 hcA; clear hcA hb9 B4
 go_wp2_with fail
 refine bodyPost_ret (v := .tuple #[.agg #[.int .i64 G1.most, .slice (some ⟨rb', 0, none⟩) G1.nodes.length cap', .int .i64 q1], .slice none 0 0, .int .i64 p1]) (by simp [results, Tryz.results200, go_sem, z0, z1, z2]) rfl ?_
 exact FTo26.mk (R := ((G1, q1), [], p1)) HC.out (HCH.out.trans HCA.out (by simp)) (HRG.out.ch HCA.out (by simp)) hfr hlt (ArrR.nil _ _ _) hB (by omega) hl2 (set3_ch rfl)
theorem reference26_2 (h : RG w rb cap G) (v : MxV) (hk : (v.kind : Int) % 6 = 2) (hN : v.N < 4294967296) (hv : MxIn w v B0) (hB : B0 ≤ w.heap.size) (hf : f26 2 G v.a = 0) :
  Calls Tryz.prog 200 #[.agg #[.int .i64 G.most, .slice (some ⟨rb, 0, none⟩) G.nodes.length cap, .int .i64 0], .agg #[.int .u8 v.kind, .int .i64 v.C, v.x.val, v.y.val, .int .u32 v.N, v.gs.val, .slice v.la v.Ls.length v.lc, .slice v.ma v.Ms.length v.mc]] w (FTo26 w rb B0 (RF26 2 G v.a)) := by
 have hlt := h.lt
 have hok := h.ok
 obtain ⟨kind, C, ⟨xa, xl, xc⟩, ⟨ya, yl, yc⟩, N, ⟨ga, gl, gc⟩, la, lc, Ls, ma, mc, Ms⟩ := v
 obtain ⟨hx, hy, hgs, hls, hms, hlow⟩ := hv
 simp only [WV.val] at *
 unfold MxV.a at hf ⊢
 simp only at hf ⊢
 have hd := f26_read hf
 obtain ⟨n, hn⟩ : ∃ n, n = yl.length := ⟨_, rfl⟩
 obtain ⟨nl, hnl⟩ : ∃ nl, nl = Ls.length := ⟨_, rfl⟩
 have hy' : Sl w ya (natInts (nats yl)) := by rw [hd.yc]; exact hy
 have ha := hd.arr
 have hyl := hd.yl
 simp only at hyl
 simp only [List.length_map] at ha
 have hIA := IA.of (B0 := B0) hls (fun z hz => hlow z (by simp [hz])) hd.lc
 unfold RF26
 simp only [List.length_map]
 rw [← hn, ← hnl]
 rw [← hnl] at ha hIA
 have hC := fun (W : World) (hW : Ch [] w W) => r26Read_is (lc := lc) (h.ch hW (by simp)) (.inl rfl) (hIA.ch hW) (Nat.le_trans hB hW.size) hd.wds (by have := hd.w; omega) ha.1 (by omega) n yc (hy'.ch hW (by simp)) (by rw [nats_len26]; omega) (by omega) hd.yr
 generalize rreadF (G, 0) ((Ls.map WV.l).map nats) (nats yl) n ((Ls.map WV.l).headD []).length (min nl (2 ^ n)) = R at *
 obtain ⟨⟨G1, q1⟩, l1⟩ := R
 clear hd ha hyl hy' hIA hf hn hnl
 have HCC := Hi9 hC; clear hC
 clear h hok hx hy hgs hls hms hlow
 go_enter Tryz.func200, Tryz.ntmps200
 go_wp2_with fail
 refine calls_named fun W hW => ?_
 have b4 : blk W (w.heap.size + 2) [.int .i64 0, .slice none 0 0, .int .i64 0] := by rw [hW]; exact blk.new' _ _ (by simp)
 have b2 : blk W w.heap.size [.int .i64 G.most, .slice (some ⟨rb, 0, none⟩) G.nodes.length cap, .int .i64 0] := by rw [hW]; exact ((blk.new' _ _ rfl).alloc _).alloc _
 have hc : Ch [] w W := by rw [hW]; exact (((Ch.refl _ _).alloc _).alloc _).alloc _
 clear hW
 have HC := Hi9 hc; clear hc
 refine (HCC.out W HC.out).mono ?_
 rintro e w1 ⟨rb', cap', a, c, rfl, hrg, hch, hfr, hsl, hlow⟩
 have hl2 := b4.lt
 have hz := hch.size
 have hzc := HC.out.size
 have B4 := b4.ch hch (by simp)
 have HRG := Hi9 hrg; clear hrg b2
 have HCH := Hi9 hch; clear hch
 have HSL := Hi9 hsl; clear hsl
 have HLOW := Hi9 hlow; clear hlow
 have BB4 := Hi9 B4; clear B4 b4
 go_upto_region 10 with fail
 refine wp_alw ?_
 intro W2 hW2
 have hb9 : blk W2 w1.heap.size [.int .i64 G1.most, .slice (some ⟨rb', 0, none⟩) G1.nodes.length cap', .int .i64 q1] := by rw [hW2]; exact blk.new' _ _ rfl
 have hcA : Ch [] w1 W2 := by rw [hW2]; exact (Ch.refl _ _).alloc _
 clear hW2
 have B4 := BB4.out.ch hcA (by simp)
 have y0 := hb9.cell (i := 0) rfl
 have y1 := hb9.cell (i := 1) rfl
 have y2 := hb9.cell (i := 2) rfl
 have z0 := B4.cell (i := 0) rfl
 have z1 := B4.cell (i := 1) rfl
 have z2 := B4.cell (i := 2) rfl
 have g0 := B4.frozen (i := 0)
 have g1 := B4.frozen (i := 1)
 have g2 := B4.frozen (i := 2)
 have hzz := BB4.out.lt
 have hz2 := hcA.size
 have HCA := Hi9 hcA; clear hcA hb9
 have HB4 := Hi9 B4; clear B4
 have hW2l : w.heap.size + 2 < W2.heap.size := by omega
 go_wp2_with fail
 refine bodyPost_alw ?_
 intro W3 hW3
 have b5 : blk W3 (w.heap.size + 2) [.int .i64 G1.most, .slice (some ⟨rb', 0, none⟩) G1.nodes.length cap', .int .i64 q1] := by rw [hW3]; exact (set3_blk HB4.out rfl).alloc _
 have hbn : blk W3 W2.heap.size [.slice a l1.length c] := by rw [hW3]; exact blk.new' _ _ (by simp)
 have hc3 : Ch [w.heap.size + 2] W2 W3 := by rw [hW3]; exact (set3_ch rfl).alloc _
 clear hW3 z0 z1 z2 g0 g1 g2
 have z0 := b5.cell (i := 0) rfl
 have z1 := b5.cell (i := 1) rfl
 have z2 := b5.cell (i := 2) rfl
 refine bodyPost_ret (v := .tuple #[.agg #[.int .i64 G1.most, .slice (some ⟨rb', 0, none⟩) G1.nodes.length cap', .int .i64 q1], .slice (some ⟨W2.heap.size, 0, none⟩) 1 1, .int .i64 0]) (by simp [results, Tryz.results200, go_sem, z0, z1, z2]) rfl ?_
 refine ⟨rb', cap', _, rfl, (HRG.out.ch HCA.out (by simp)).ch hc3 (by simp; omega), ((HC.out.trans HCH.out (by simp)).trans HCA.out (by simp)).trans hc3 (fun k hk => .inr (by simp at hk; omega)), by omega, some ⟨W2.heap.size, 0, none⟩, 1, rfl, fun i z hz => ?_⟩
 match i, hz with
 | 0, hz =>
  cases hz
  exact ⟨_, a, c, rfl, by omega, hbn.cell rfl, (HSL.out.ch HCA.out (by simp)).ch2 hc3 (fun h0 p hp => by have := HLOW.out (by rwa [natInts_pos] at h0) p hp; simp; omega), fun h0 p hp => by have := HLOW.out h0 p hp; omega⟩
theorem reference26_3 (h : RG w rb cap G) (v : MxV) (hk : (v.kind : Int) % 6 = 3) (hN : v.N < 4294967296) (hv : MxIn w v B0) (hB : B0 ≤ w.heap.size) (hf : f26 3 G v.a = 0) :
  Calls Tryz.prog 200 #[.agg #[.int .i64 G.most, .slice (some ⟨rb, 0, none⟩) G.nodes.length cap, .int .i64 0], .agg #[.int .u8 v.kind, .int .i64 v.C, v.x.val, v.y.val, .int .u32 v.N, v.gs.val, .slice v.la v.Ls.length v.lc, .slice v.ma v.Ms.length v.mc]] w (FTo26 w rb B0 (RF26 3 G v.a)) := by
 have hlt := h.lt
 have hok := h.ok
 obtain ⟨kind, C, ⟨xa, xl, xc⟩, ⟨ya, yl, yc⟩, N, ⟨ga, gl, gc⟩, la, lc, Ls, ma, mc, Ms⟩ := v
 obtain ⟨hx, hy, hgs, hls, hms, hlow⟩ := hv
 simp only [WV.val] at *
 unfold MxV.a at hf ⊢
 simp only at hf ⊢
 have hd := f26_write hf
 obtain ⟨n, hn⟩ : ∃ n, n = yl.length := ⟨_, rfl⟩
 obtain ⟨nl, hnl⟩ : ∃ nl, nl = Ls.length := ⟨_, rfl⟩
 obtain ⟨xn, hxn⟩ : ∃ xn, xn = xl.length := ⟨_, rfl⟩
 have hy' : Sl w ya (natInts (nats yl)) := by rw [hd.yc]; exact hy
 have hx' : Sl w xa (natInts (nats xl)) := by rw [hd.xc]; exact hx
 have ha := hd.arr
 have hyl := hd.yl
 simp only at hyl
 have hxw : xn = ((Ls.map WV.l).headD []).length := by have := hd.xl; simp only at this; omega
 obtain ⟨cl, ce⟩ := hd.c
 simp only at cl ce
 obtain ⟨cn, hcn⟩ : ∃ cn : Nat, cn = C.toNat := ⟨_, rfl⟩
 have hCn : C = cn := by omega
 subst hCn
 rw [Int.toNat_natCast] at cl
 simp only [List.length_map] at ha
 have hIA := IA.of (B0 := B0) hls (fun z hz => hlow z (by simp [hz])) hd.lc
 have hwd := hd.wds
 have hww := hd.w
 simp only at hwd hww
 unfold RF26
 simp only [List.length_map, Int.toNat_natCast]
 rw [← hxw] at hwd hww
 rw [← hn, ← hnl, ← hxn]
 rw [← hnl] at ha hIA
 have hC := fun (W : World) (hW : Ch [] w W) => r26Write_is (lc := lc) (h.ch hW (by simp)) (.inl rfl) (hIA.ch hW) (Nat.le_trans hB hW.size) hwd (by omega) ha.1 (by omega) cl n yc (hy'.ch hW (by simp)) (by rw [nats_len26]; omega) (by omega) hd.yr xc (hx'.ch hW (by simp)) (by rw [nats_len26]; omega) hd.xr
 generalize rwriteF (G, 0) cn (nats xl) ((Ls.map WV.l).map nats) (nats yl) n (min nl (2 ^ n)) = R at *
 obtain ⟨⟨G1, q1⟩, l1⟩ := R
 clear hd ha hyl hy' hx' hIA hf hn hnl hxn hxw hwd hww cl ce hcn
 have HCC := Hi9 hC; clear hC
 clear h hok hx hy hgs hls hms hlow
 go_enter Tryz.func200, Tryz.ntmps200
 go_wp2_with fail
 refine calls_named fun W hW => ?_
 have b4 : blk W (w.heap.size + 2) [.int .i64 0, .slice none 0 0, .int .i64 0] := by rw [hW]; exact blk.new' _ _ (by simp)
 have b2 : blk W w.heap.size [.int .i64 G.most, .slice (some ⟨rb, 0, none⟩) G.nodes.length cap, .int .i64 0] := by rw [hW]; exact ((blk.new' _ _ rfl).alloc _).alloc _
 have hc : Ch [] w W := by rw [hW]; exact (((Ch.refl _ _).alloc _).alloc _).alloc _
 clear hW
 have HC := Hi9 hc; clear hc
 refine (HCC.out W HC.out).mono ?_
 rintro e w1 ⟨rb', cap', ob, nl, oc, vs, rfl, hrg, hch, hfr, hlen, hrow, hob, hobr, hwds⟩
 have hl2 := b4.lt
 have hz := hch.size
 have hzc := HC.out.size
 have hobl := (hrow.lt ob rfl).2
 have B4 := b4.ch hch (by simp)
 have HRG := Hi9 hrg; clear hrg b2
 have HCH := Hi9 hch; clear hch
 have HLEN := Hi9 hlen; clear hlen
 have HROW := Hi9 hrow; clear hrow
 have HWDS := Hi9 hwds; clear hwds
 have BB4 := Hi9 B4; clear B4 b4
 go_upto_region 13 with fail
 refine wp_alw ?_
 intro W2 hW2
 have hb9 : blk W2 w1.heap.size [.int .i64 G1.most, .slice (some ⟨rb', 0, none⟩) G1.nodes.length cap', .int .i64 q1] := by rw [hW2]; exact blk.new' _ _ rfl
 have hcA : Ch [] w1 W2 := by rw [hW2]; exact (Ch.refl _ _).alloc _
 clear hW2
 have B4 := BB4.out.ch hcA (by simp)
 have y0 := hb9.cell (i := 0) rfl
 have y1 := hb9.cell (i := 1) rfl
 have y2 := hb9.cell (i := 2) rfl
 have z0 := B4.cell (i := 0) rfl
 have z1 := B4.cell (i := 1) rfl
 have z2 := B4.cell (i := 2) rfl
 have g0 := B4.frozen (i := 0)
 have g1 := B4.frozen (i := 1)
 have g2 := B4.frozen (i := 2)
 have hzz := B4.lt
 have HCA := Hi9 hcA; clear hcA hb9 B4
 go_wp2_with fail
 refine bodyPost_ret (v := .tuple #[.agg #[.int .i64 G1.most, .slice (some ⟨rb', 0, none⟩) G1.nodes.length cap', .int .i64 q1], .slice (some ⟨ob, 0, none⟩) nl oc, .int .i64 0]) (by simp [results, Tryz.results200, go_sem, z0, z1, z2]) rfl ?_
 refine FTo26.mk (R := ((G1, q1), l1, 0)) HC.out (HCH.out.trans HCA.out (by simp)) (HRG.out.ch HCA.out (by simp)) hfr hlt ⟨some ⟨ob, 0, none⟩, oc, by rw [show l1.length = nl from HLEN.out], fun i z hz => ?_⟩ hB (by omega) hl2 (set3_ch rfl)
 obtain ⟨a, c, h1, h2, h3⟩ := (HWDS.out.ch HCA.out (by simp)) i z hz
 exact ⟨ob, a, c, rfl, hob, row.at9 (HROW.out.ch HCA.out (by simp)) h1, h2, fun h0 p hp => (h3 h0 p hp).1⟩
theorem reference26_4 (h : RG w rb cap G) (v : MxV) (hk : (v.kind : Int) % 6 = 4) (hN : v.N < 4294967296) (hv : MxIn w v B0) (hB : B0 ≤ w.heap.size) (hf : f26 4 G v.a = 0) :
  Calls Tryz.prog 200 #[.agg #[.int .i64 G.most, .slice (some ⟨rb, 0, none⟩) G.nodes.length cap, .int .i64 0], .agg #[.int .u8 v.kind, .int .i64 v.C, v.x.val, v.y.val, .int .u32 v.N, v.gs.val, .slice v.la v.Ls.length v.lc, .slice v.ma v.Ms.length v.mc]] w (FTo26 w rb B0 (RF26 4 G v.a)) := by
 have hlt := h.lt
 have hok := h.ok
 obtain ⟨kind, C, ⟨xa, xl, xc⟩, ⟨ya, yl, yc⟩, N, ⟨ga, gl, gc⟩, la, lc, Ls, ma, mc, Ms⟩ := v
 obtain ⟨hx, hy, hgs, hls, hms, hlow⟩ := hv
 simp only [WV.val] at *
 unfold MxV.a at hf ⊢
 simp only at hf ⊢
 have hd := f26_pick hf
 obtain ⟨n, hn⟩ : ∃ n, n = gl.length := ⟨_, rfl⟩
 obtain ⟨nl, hnl⟩ : ∃ nl, nl = Ls.length := ⟨_, rfl⟩
 have hg' : Sl w ga (natInts (nats gl)) := by rw [hd.gc]; exact hgs
 have ha := hd.arr
 have hgl := hd.gl
 simp only [List.length_map] at ha hgl
 have hIA := IA.of (B0 := B0) hls (fun z hz => hlow z (by simp [hz])) hd.lc
 unfold RF26
 simp only
 rw [← hn, ← hnl]
 rw [← hnl] at ha hIA
 have hC := fun (W : World) (hW : Ch [] w W) => r26Pick_is (lc := lc) (h.ch hW (by simp)) (.inl rfl) (hIA.ch hW) (Nat.le_trans hB hW.size) hd.wds (by have := hd.w; omega) n gc (by omega) (by omega) (hg'.ch hW (by simp)) (by rw [nats_len26]; omega) hd.gr
 generalize pickF ((Ls.map WV.l).map nats) ((G, 0), ((Ls.map WV.l).map nats).getD n []) (bwd (nats gl)) = R at *
 obtain ⟨⟨G1, q1⟩, l1⟩ := R
 clear hd ha hgl hg' hIA hf hn hnl
 have HCC := Hi9 hC; clear hC
 clear h hok hx hy hgs hls hms hlow
 go_enter Tryz.func200, Tryz.ntmps200
 go_wp2_with fail
 refine calls_named fun W hW => ?_
 have b4 : blk W (w.heap.size + 2) [.int .i64 0, .slice none 0 0, .int .i64 0] := by rw [hW]; exact blk.new' _ _ (by simp)
 have b2 : blk W w.heap.size [.int .i64 G.most, .slice (some ⟨rb, 0, none⟩) G.nodes.length cap, .int .i64 0] := by rw [hW]; exact ((blk.new' _ _ rfl).alloc _).alloc _
 have hc : Ch [] w W := by rw [hW]; exact (((Ch.refl _ _).alloc _).alloc _).alloc _
 clear hW
 have HC := Hi9 hc; clear hc
 refine (HCC.out W HC.out).mono ?_
 rintro e w1 ⟨rb', cap', a, c, rfl, hrg, hch, hfr, hsl, hlow⟩
 have hl2 := b4.lt
 have hz := hch.size
 have hzc := HC.out.size
 have B4 := b4.ch hch (by simp)
 have HRG := Hi9 hrg; clear hrg b2
 have HCH := Hi9 hch; clear hch
 have HSL := Hi9 hsl; clear hsl
 have HLOW := Hi9 hlow; clear hlow
 have BB4 := Hi9 B4; clear B4 b4
 go_upto_region 16 with fail
 refine wp_alw ?_
 intro W2 hW2
 have hb9 : blk W2 w1.heap.size [.int .i64 G1.most, .slice (some ⟨rb', 0, none⟩) G1.nodes.length cap', .int .i64 q1] := by rw [hW2]; exact blk.new' _ _ rfl
 have hcA : Ch [] w1 W2 := by rw [hW2]; exact (Ch.refl _ _).alloc _
 clear hW2
 have B4 := BB4.out.ch hcA (by simp)
 have y0 := hb9.cell (i := 0) rfl
 have y1 := hb9.cell (i := 1) rfl
 have y2 := hb9.cell (i := 2) rfl
 have z0 := B4.cell (i := 0) rfl
 have z1 := B4.cell (i := 1) rfl
 have z2 := B4.cell (i := 2) rfl
 have g0 := B4.frozen (i := 0)
 have g1 := B4.frozen (i := 1)
 have g2 := B4.frozen (i := 2)
 have hzz := BB4.out.lt
 have hz2 := hcA.size
 have HCA := Hi9 hcA; clear hcA hb9
 have HB4 := Hi9 B4; clear B4
 have hW2l : w.heap.size + 2 < W2.heap.size := by omega
 go_wp2_with fail
 refine bodyPost_alw ?_
 intro W3 hW3
 have b5 : blk W3 (w.heap.size + 2) [.int .i64 G1.most, .slice (some ⟨rb', 0, none⟩) G1.nodes.length cap', .int .i64 q1] := by rw [hW3]; exact (set3_blk HB4.out rfl).alloc _
 have hbn : blk W3 W2.heap.size [.slice a l1.length c] := by rw [hW3]; exact blk.new' _ _ (by simp)
 have hc3 : Ch [w.heap.size + 2] W2 W3 := by rw [hW3]; exact (set3_ch rfl).alloc _
 clear hW3 z0 z1 z2 g0 g1 g2
 have z0 := b5.cell (i := 0) rfl
 have z1 := b5.cell (i := 1) rfl
 have z2 := b5.cell (i := 2) rfl
 refine bodyPost_ret (v := .tuple #[.agg #[.int .i64 G1.most, .slice (some ⟨rb', 0, none⟩) G1.nodes.length cap', .int .i64 q1], .slice (some ⟨W2.heap.size, 0, none⟩) 1 1, .int .i64 0]) (by simp [results, Tryz.results200, go_sem, z0, z1, z2]) rfl ?_
 refine ⟨rb', cap', _, rfl, (HRG.out.ch HCA.out (by simp)).ch hc3 (by simp; omega), ((HC.out.trans HCH.out (by simp)).trans HCA.out (by simp)).trans hc3 (fun k hk => .inr (by simp at hk; omega)), by omega, some ⟨W2.heap.size, 0, none⟩, 1, rfl, fun i z hz => ?_⟩
 match i, hz with
 | 0, hz =>
  cases hz
  exact ⟨_, a, c, rfl, by omega, hbn.cell rfl, (HSL.out.ch HCA.out (by simp)).ch2 hc3 (fun h0 p hp => by have := HLOW.out (by rwa [natInts_pos] at h0) p hp; simp; omega), fun h0 p hp => by have := HLOW.out h0 p hp; omega⟩
theorem reference26_5 (h : RG w rb cap G) (v : MxV) (hk : (v.kind : Int) % 6 = 5) (hN : v.N < 4294967296) (hv : MxIn w v B0) (hB : B0 ≤ w.heap.size) (hf : f26 5 G v.a = 0) :
  Calls Tryz.prog 200 #[.agg #[.int .i64 G.most, .slice (some ⟨rb, 0, none⟩) G.nodes.length cap, .int .i64 0], .agg #[.int .u8 v.kind, .int .i64 v.C, v.x.val, v.y.val, .int .u32 v.N, v.gs.val, .slice v.la v.Ls.length v.lc, .slice v.ma v.Ms.length v.mc]] w (FTo26 w rb B0 (RF26 5 G v.a)) := by
 have hlt := h.lt
 have hok := h.ok
 obtain ⟨kind, C, ⟨xa, xl, xc⟩, ⟨ya, yl, yc⟩, N, ⟨ga, gl, gc⟩, la, lc, Ls, ma, mc, Ms⟩ := v
 obtain ⟨hx, hy, hgs, hls, hms, hlow⟩ := hv
 simp only [WV.val] at *
 unfold MxV.a at hf ⊢
 simp only at hf ⊢
 have hd := f26_equal hf
 obtain ⟨nl, hnl⟩ : ∃ nl, nl = Ls.length := ⟨_, rfl⟩
 have ha := hd.arr
 have hml := hd.ml
 simp only [List.length_map] at ha hml
 have hIA := IA.of (B0 := B0) hls (fun z hz => hlow z (by simp [hz])) hd.lc
 have hIB := IA.of (B0 := B0) hms (fun z hz => hlow z (by simp [hz])) hd.mc
 unfold RF26
 simp only
 rw [hml, ← hnl]
 rw [← hnl] at ha hIA
 rw [hml, ← hnl] at hIB
 have hC := fun (W : World) (hW : Ch [] w W) => r26Equal_is (lc := lc) (mc := mc) (h.ch hW (by simp)) (.inl rfl) (hIA.ch hW) (hIB.ch hW) hd.wds hd.wds2 (by have := hd.w; omega) (by omega)
 generalize requalF (G, 0) (((Ls.map WV.l).map nats).zip ((Ms.map WV.l).map nats)) = R at *
 obtain ⟨⟨G1, q1⟩, p1⟩ := R
 clear hd ha hml hIA hIB hf hnl
 have HCC := Hi9 hC; clear hC
 clear h hok hx hy hgs hls hms hlow
 go_enter Tryz.func200, Tryz.ntmps200
 go_wp2_with fail
 refine calls_named fun W hW => ?_
 have b4 : blk W (w.heap.size + 2) [.int .i64 0, .slice none 0 0, .int .i64 0] := by rw [hW]; exact blk.new' _ _ (by simp)
 have b2 : blk W w.heap.size [.int .i64 G.most, .slice (some ⟨rb, 0, none⟩) G.nodes.length cap, .int .i64 0] := by rw [hW]; exact ((blk.new' _ _ rfl).alloc _).alloc _
 have hc : Ch [] w W := by rw [hW]; exact (((Ch.refl _ _).alloc _).alloc _).alloc _
 clear hW
 have HC := Hi9 hc; clear hc
 refine (HCC.out W HC.out).mono ?_
 rintro e w1 ⟨rb', cap', rfl, hrg, hch, hfr⟩
 have hl2 := b4.lt
 have hz := hch.size
 have hzc := HC.out.size
 have B4 := b4.ch hch (by simp)
 have B2 := b2.ch hch (by simp)
 have y0 := B2.cell (i := 0) rfl
 have y1 := B2.cell (i := 1) rfl
 have y2 := B2.cell (i := 2) rfl
 have f0 := B2.frozen (i := 0)
 have f1 := B2.frozen (i := 1)
 have f2 := B2.frozen (i := 2)
 have HRG := Hi9 hrg; clear hrg b2
 have HCH := Hi9 hch; clear hch
 have BB4 := Hi9 B4; clear B4 b4
 have BB2 := Hi9 B2; clear B2
 go_upto_region 18 with fail
 refine wp_alw ?_
 intro W2 hW2
 have hb9 := set3_blk BB2.out hW2
 have hcs := set3_ch hW2
 clear hW2 y0 y1 y2 f0 f1 f2
 have B4 := BB4.out.ch hcs (by simp)
 have hrg := HRG.out.ch hcs (by simp; omega)
 have y0 := hb9.cell (i := 0) rfl
 have y1 := hb9.cell (i := 1) rfl
 have y2 := hb9.cell (i := 2) rfl
 have z0 := B4.cell (i := 0) rfl
 have z1 := B4.cell (i := 1) rfl
 have z2 := B4.cell (i := 2) rfl
 have g0 := B4.frozen (i := 0)
 have g1 := B4.frozen (i := 1)
 have g2 := B4.frozen (i := 2)
 have hzz := B4.lt
 have HCS := Hi9 hcs; clear hcs hb9 B4
 have HRG2 := Hi9 hrg; clear hrg HRG
 go_wp2_with fail
 refine bodyPost_ret (v := .tuple #[.agg #[.int .i64 G1.most, .slice (some ⟨rb', 0, none⟩) G1.nodes.length cap', .int .i64 q1], .slice none 0 0, .int .i64 p1]) (by simp [results, Tryz.results200, go_sem, z0, z1, z2]) rfl ?_
 have hcs2 := set3_ch (w := W2) (b := w.heap.size + 2) (u := .int .i64 G1.most) (v := .slice (some ⟨rb', 0, none⟩) G1.nodes.length cap') (x := .int .i64 q1) rfl
 exact ⟨rb', cap', _, rfl, HRG2.out.ch hcs2 (by simp; omega), ((HC.out.trans HCH.out (by simp)).trans HCS.out (fun k hk => .inr (by simp at hk; omega))).trans hcs2 (fun k hk => .inr (by simp at hk; omega)), by omega, ArrR.nil _ _ _⟩
theorem reference26_is (h : RG w rb cap G) (v : MxV) (hN : v.N < 4294967296) (hv : MxIn w v B0) (hB : B0 ≤ w.heap.size) (hf : f26 (v.kind % 6) G v.a = 0) :
  Calls Tryz.prog 200 #[.agg #[.int .i64 G.most, .slice (some ⟨rb, 0, none⟩) G.nodes.length cap, .int .i64 0], .agg #[.int .u8 v.kind, .int .i64 v.C, v.x.val, v.y.val, .int .u32 v.N, v.gs.val, .slice v.la v.Ls.length v.lc, .slice v.ma v.Ms.length v.mc]] w (FTo26 w rb B0 (RF26 (v.kind % 6) G v.a)) := by
 have hlt : v.kind % 6 < 6 := Nat.mod_lt _ (by omega)
 obtain ⟨k, hk⟩ : ∃ k, v.kind % 6 = k := ⟨_, rfl⟩
 rw [hk] at hlt hf ⊢
 have hki : (v.kind : Int) % 6 = k := by omega
 match k, hlt, hki with
 | 0, _, hki => exact reference26_0 h v hki hN hv hB hf
 | 1, _, hki => exact reference26_1 h v hki hN hv hB hf
 | 2, _, hki => exact reference26_2 h v hki hN hv hB hf
 | 3, _, hki => exact reference26_3 h v hki hN hv hB hf
 | 4, _, hki => exact reference26_4 h v hki hN hv hB hf
 | 5, _, hki => exact reference26_5 h v hki hN hv hB hf
end
end Go.Proofs.YtehljgigebhddaaGreat
namespace Go.Aig
theorem wres_nil (G : Gra) (a : Mk × List Nat) (h : (wres G a).2.2 ≠ 0) : (wres G a).2.1 = [] := by
 unfold wres at h ⊢
 split
 ·rfl
 ·rename_i h0; rw [if_neg h0] at h; exact absurd rfl h
theorem chooseG_nil (G : Gra) (c : Int) (x y : List Int) (h : (chooseG G c x y).2.2 ≠ 0) : (chooseG G c x y).2.1 = [] := by
 unfold chooseG at h ⊢
 split
 ·rfl
 ·rename_i h0; rw [if_neg h0] at h; exact wres_nil _ _ h
theorem readG_nil (G : Gra) (L : List (List Int)) (y : List Int) (h : (readG G L y).2.2 ≠ 0) : (readG G L y).2.1 = [] := by
 unfold readG at h ⊢
 split
 ·rfl
 ·rename_i h0
  rw [if_neg h0] at h
  split
  ·rfl
  ·rename_i h1
   rw [if_neg h1] at h
   split
   ·rfl
   ·rename_i h2; rw [if_neg h2] at h; exact wres_nil _ _ h
theorem pickG_nil (G : Gra) (gs : List Int) (L : List (List Int)) (h : (pickG G gs L).2.2 ≠ 0) : (pickG G gs L).2.1 = [] := by
 unfold pickG at h ⊢
 split
 ·rfl
 ·rename_i h0
  rw [if_neg h0] at h
  split
  ·rfl
  ·rename_i h1
   rw [if_neg h1] at h
   split
   ·rfl
   ·rename_i h2; rw [if_neg h2] at h; exact wres_nil _ _ h
end Go.Aig
namespace Go.Proofs.YtehljgigebhddaaGreat
open Go.RowKit Go.Mem Go.Aig
def GLx (w : World) (g : Nat) (G : Gra) (F : List Nat) (v : Value) (ls : List (List Nat)) (w' : World) : Prop :=
 ∃ F', GIn w' g G F' ∧ Ch F w w' ∧ (∀ k ∈ F', k ∈ F ∨ w.heap.size ≤ k) ∧ F'[2]? = F[2]? ∧ ∃ vs, row w' 45 1 v ls.length vs ∧ (∀ k, v.ownBlock = some k → w.heap.size ≤ k ∧ k ∉ F') ∧
  ∀ (i : Nat) (u : Value), vs[i]? = some u → ∃ l, ls[i]? = some l ∧ row w' 52 1 u l.length (refsCells l) ∧ ∀ k, u.ownBlock = some k → w.heap.size ≤ k ∧ k ∉ F' ∧ v.ownBlock ≠ some k
def PTo26 (w : World) (g : Nat) (F : List Nat) (R : Gra × List (List Nat) × Nat × Nat) (e : Ending) (w' : World) : Prop := ∃ v, e = .returned (.tuple #[v, .int .i64 R.2.2.1, .int .i64 R.2.2.2]) ∧ GLx w g R.1 F v R.2.1 w'
theorem GLo.x {w w' : World} {g : Nat} {G : Gra} {F : List Nat} {v : Value} {ls : List (List Nat)} (h : GLo w g G F v ls w') : GLx w g G F v ls w' := by
 obtain ⟨F', h1, h2, h3, h4, vs, h5, h6, h7⟩ := h
 refine ⟨F', h1, h2, h3, h4, vs, h5, h6, fun i u hu => ?_⟩
 obtain ⟨l, k1, _, k3, k4⟩ := h7 i u hu
 exact ⟨l, k1, k3, k4⟩
theorem GLx.since {w w1 w' : World} {g : Nat} {G : Gra} {F : List Nat} {v : Value} {ls : List (List Nat)} (hc : Ch [] w w1) (h : GLx w1 g G F v ls w') : GLx w g G F v ls w' := by
 obtain ⟨F', h1, h2, h3, h4, vs, h5, h6, h7⟩ := h
 refine ⟨F', h1, (hc.mono (by simp)).trans h2 (fun k hk => .inl hk), fun k hk => (h3 k hk).imp id (fun e => Nat.le_trans hc.size e), h4, vs, h5, fun k hk => ⟨Nat.le_trans hc.size (h6 k hk).1, (h6 k hk).2⟩, fun i u hu => ?_⟩
 obtain ⟨l, k1, k3, k4⟩ := h7 i u hu
 exact ⟨l, k1, k3, fun k hk => ⟨Nat.le_trans hc.size (k4 k hk).1, (k4 k hk).2⟩⟩
theorem glx_nil {w w' : World} {g : Nat} {G : Gra} {F F' : List Nat} (h1 : GIn w' g G F') (h2 : Ch F w w') (h3 : ∀ k ∈ F', k ∈ F ∨ w.heap.size ≤ k) (h4 : F'[2]? = F[2]?) : GLx w g G F (.slice none 0 0) [] w' :=
 ⟨F', h1, h2, h3, h4, [], ⟨rfl, .inl ⟨rfl, rfl⟩⟩, by simp [Value.ownBlock], fun i u hu => by simp at hu⟩
theorem glx_one {w w1 w' : World} {g : Nat} {G : Gra} {F : List Nat} {a : Option Addr} {c : Nat} {l : List Nat} (h : GVo w g G [] F (.slice a l.length c) l w1) (hW : w' = w1.alloc (.cells #[.slice a l.length c] 45)) : GLx w g G F (.slice (some ⟨w1.heap.size, 0, none⟩) 1 1) [l] w' := by
 obtain ⟨F', h1, h2, h3, h4, h5, h6⟩ := h
 have hc : Ch [] w1 w' := by rw [hW]; exact (Ch.refl _ _).alloc _
 have hlt := h1.lt
 have hz : w.heap.size ≤ w1.heap.size := h2.size
 refine ⟨F', h1.same hc (by simp), by have := h2.trans hc (by simp); simpa using this, h3, h4, [.slice a l.length c], by rw [hW]; exact row.fresh9 _ _ rfl (by omega), fun k hk => ?_, fun i u hu => ?_⟩
 ·simp at hk; subst hk; exact ⟨hz, fun hin => Nat.lt_irrefl _ (hlt _ hin)⟩
 ·match i, hu with
  | 0, hu =>
   cases hu
   exact ⟨l, rfl, h5.ch hc (by simp), fun k hk => ⟨(h6 k hk).1, (h6 k hk).2, by have := (h5.lt k hk).2; simp; omega⟩⟩
theorem WA.ch9 {w w' : World} {F : List Nat} {la : Option Addr} {nl : Nat} {L : List WV} (h : WA w F la nl L) (hc : Ch [] w w') : WA w' F la nl L := ⟨h.len, fun h1 => by
 obtain ⟨lb, e, hl⟩ := h.at_ h1
 exact ⟨lb, e, hl.ch hc⟩⟩
section
variable {w : World} {g : Nat} {G : Gra} {F : List Nat}
theorem program26_0 (h : GIn w g G F) {x y gs : WV} (hx : WVin w F x) (hy : WVin w F y) (hyc : y.l.length ≤ y.c) (hg : WVin w F gs) (hgc : gs.l.length ≤ gs.c) {la ma : Option Addr} {nl nm : Nat} (lc mc : Nat) {Ls Ms : List WV} (hA : WA w F la nl Ls) (hB : WA w F ma nm Ms) (hnm : nm ≤ 1000000) (C : Int) (hC : I64' C) (N : Nat) (hN : N < 4294967296)
  (a1 : Option Addr) (n1 c1 : Nat) (a2 : Option Addr) (n2 c2 : Nat) (a3 : Option Addr) (n3 c3 : Nat) (a4 : Option Addr) (n4 c4 : Nat) (a5 : Option Addr) (n5 c5 : Nat) (kind : Nat) (hk : (kind : Int) % 6 = 0) :
  Calls Tryz.prog 98 #[.pointer (some ⟨g, 0, none⟩), .agg #[.int .u8 kind, .int .i64 C, .slice a1 n1 c1, .slice a2 n2 c2, .int .u32 N, .slice a3 n3 c3, .slice a4 n4 c4, .slice a5 n5 c5], x.val, y.val, gs.val, .slice la nl lc, .slice ma nm mc] w (PTo26 w g F (P26 0 G ⟨C, x.l, y.l, N, gs.l, Ls.map WV.l, Ms.map WV.l⟩)) := by
 rw [P26_0]
 have hCa := fun (W : World) (hW : Ch [] w W) => mChoose_is (h.same hW (by simp)) C hC (hx.ch hW) (hy.ch hW)
 have hnil := chooseG_nil G C x.l y.l
 obtain ⟨xa, xl, xc⟩ := x
 obtain ⟨ya, yl, yc⟩ := y
 obtain ⟨ga, gl, gc⟩ := gs
 simp only [WV.val] at *
 generalize chooseG G C xl yl = R at *
 obtain ⟨G1, l1, e1⟩ := R
 simp only at hnil
 have HNIL := Hi9 hnil; clear hnil
 have HK := Hi9 hCa; clear hCa h hx hy hg hA hB hyc hgc hnm hC
 go_enter Tryz.func98, Tryz.ntmps98
 go_wp2_with fail
 refine calls_named fun W hW => ?_
 have hc : Ch [] w W := by rw [hW]; exact (Ch.refl _ _).alloc _
 clear hW
 have HC := Hi9 hc; clear hc
 refine (HK.out W HC.out).mono ?_
 rintro e w1 ⟨v, rfl, hv⟩
 have hv2 := GVo.since HC.out hv
 obtain ⟨va, vc, rfl⟩ : ∃ a c, v = .slice a l1.length c := by obtain ⟨_, _, _, _, _, h5, _⟩ := hv; exact row.shape h5
 have HV := Hi9 hv2; clear hv hv2
 by_cases he : e1 = 0
 ·subst he
  go_wp2_with fail
  refine bodyPost_alw ?_
  intro W3 hW3
  go_ret3
  refine ⟨_, rfl, ?_⟩
  show GLx w g G1 F _ [l1] W3
  exact glx_one HV.out hW3
 ·have hl0 := HNIL.out he
  subst hl0
  simp only [List.length_nil] at *
  have e4 : ((e1 : Int) != 0) = true := bne_iff_ne.2 (by omega)
  have HE := Hi9 he; clear he
  go_wp2_with fail
  go_ret3
  refine ⟨_, rfl, ?_⟩
  show GLx w g G1 F (.slice none 0 0) (if e1 ≠ 0 then [] else [[]]) _
  rw [if_pos HE.out]
  obtain ⟨F2, k1, k2, k3, k4, _, _⟩ := HV.out
  exact glx_nil k1 (by simpa using k2) k3 k4
theorem program26_1 (h : GIn w g G F) {x y gs : WV} (hx : WVin w F x) (hy : WVin w F y) (hyc : y.l.length ≤ y.c) (hg : WVin w F gs) (hgc : gs.l.length ≤ gs.c) {la ma : Option Addr} {nl nm : Nat} (lc mc : Nat) {Ls Ms : List WV} (hA : WA w F la nl Ls) (hB : WA w F ma nm Ms) (hnm : nm ≤ 1000000) (C : Int) (hC : I64' C) (N : Nat) (hN : N < 4294967296)
  (a1 : Option Addr) (n1 c1 : Nat) (a2 : Option Addr) (n2 c2 : Nat) (a3 : Option Addr) (n3 c3 : Nat) (a4 : Option Addr) (n4 c4 : Nat) (a5 : Option Addr) (n5 c5 : Nat) (kind : Nat) (hk : (kind : Int) % 6 = 1) :
  Calls Tryz.prog 98 #[.pointer (some ⟨g, 0, none⟩), .agg #[.int .u8 kind, .int .i64 C, .slice a1 n1 c1, .slice a2 n2 c2, .int .u32 N, .slice a3 n3 c3, .slice a4 n4 c4, .slice a5 n5 c5], x.val, y.val, gs.val, .slice la nl lc, .slice ma nm mc] w (PTo26 w g F (P26 1 G ⟨C, x.l, y.l, N, gs.l, Ls.map WV.l, Ms.map WV.l⟩)) := by
 rw [P26_1 h.ok]
 have hCa := fun (W : World) (hW : Ch [] w W) => mIs_is (h.same hW (by simp)) (hy.ch hW) N hN
 obtain ⟨xa, xl, xc⟩ := x
 obtain ⟨ya, yl, yc⟩ := y
 obtain ⟨ga, gl, gc⟩ := gs
 simp only [WV.val] at *
 generalize isG G yl N = R at *
 obtain ⟨G1, r1, e1⟩ := R
 have HK := Hi9 hCa; clear hCa h hx hy hg hA hB hyc hgc hnm hC
 go_enter Tryz.func98, Tryz.ntmps98
 go_wp2_with fail
 refine calls_named fun W hW => ?_
 have hc : Ch [] w W := by rw [hW]; exact (Ch.refl _ _).alloc _
 clear hW
 have HC := Hi9 hc; clear hc
 refine (HK.out W HC.out).mono ?_
 rintro e w1 ⟨rfl, hv⟩
 have HV := Hi9 (GTo.since HC.out hv); clear hv
 go_wp2_with fail
 go_ret3
 obtain ⟨F2, k1, k2, k3, k4⟩ := HV.out
 exact ⟨_, rfl, glx_nil k1 k2 k3 k4⟩
theorem program26_2 (h : GIn w g G F) {x y gs : WV} (hx : WVin w F x) (hy : WVin w F y) (hyc : y.l.length ≤ y.c) (hg : WVin w F gs) (hgc : gs.l.length ≤ gs.c) {la ma : Option Addr} {nl nm : Nat} (lc mc : Nat) {Ls Ms : List WV} (hA : WA w F la nl Ls) (hB : WA w F ma nm Ms) (hnm : nm ≤ 1000000) (C : Int) (hC : I64' C) (N : Nat) (hN : N < 4294967296)
  (a1 : Option Addr) (n1 c1 : Nat) (a2 : Option Addr) (n2 c2 : Nat) (a3 : Option Addr) (n3 c3 : Nat) (a4 : Option Addr) (n4 c4 : Nat) (a5 : Option Addr) (n5 c5 : Nat) (kind : Nat) (hk : (kind : Int) % 6 = 2) :
  Calls Tryz.prog 98 #[.pointer (some ⟨g, 0, none⟩), .agg #[.int .u8 kind, .int .i64 C, .slice a1 n1 c1, .slice a2 n2 c2, .int .u32 N, .slice a3 n3 c3, .slice a4 n4 c4, .slice a5 n5 c5], x.val, y.val, gs.val, .slice la nl lc, .slice ma nm mc] w (PTo26 w g F (P26 2 G ⟨C, x.l, y.l, N, gs.l, Ls.map WV.l, Ms.map WV.l⟩)) := by
 rw [P26_2 h.ok]
 have hCa := fun (W : World) (hW : Ch [] w W) => mRead_is (lc := lc) (h.same hW (by simp)) (hA.ch9 hW) (hy.ch hW) hyc
 have hnil := readG_nil G (Ls.map WV.l) y.l
 obtain ⟨xa, xl, xc⟩ := x
 obtain ⟨ya, yl, yc⟩ := y
 obtain ⟨ga, gl, gc⟩ := gs
 simp only [WV.val] at *
 generalize readG G (Ls.map WV.l) yl = R at *
 obtain ⟨G1, l1, e1⟩ := R
 simp only at hnil
 have HNIL := Hi9 hnil; clear hnil
 have HK := Hi9 hCa; clear hCa h hx hy hg hA hB hyc hgc hnm hC
 go_enter Tryz.func98, Tryz.ntmps98
 go_wp2_with fail
 refine calls_named fun W hW => ?_
 have hc : Ch [] w W := by rw [hW]; exact (Ch.refl _ _).alloc _
 clear hW
 have HC := Hi9 hc; clear hc
 refine (HK.out W HC.out).mono ?_
 rintro e w1 ⟨v, rfl, hv⟩
 have hv2 := GVo.since HC.out hv
 obtain ⟨va, vc, rfl⟩ : ∃ a c, v = .slice a l1.length c := by obtain ⟨_, _, _, _, _, h5, _⟩ := hv; exact row.shape h5
 have HV := Hi9 hv2; clear hv hv2
 by_cases he : e1 = 0
 ·subst he
  go_wp2_with fail
  refine bodyPost_alw ?_
  intro W3 hW3
  go_ret3
  refine ⟨_, rfl, ?_⟩
  show GLx w g G1 F _ [l1] W3
  exact glx_one HV.out hW3
 ·have hl0 := HNIL.out he
  subst hl0
  simp only [List.length_nil] at *
  have e4 : ((e1 : Int) != 0) = true := bne_iff_ne.2 (by omega)
  have HE := Hi9 he; clear he
  go_wp2_with fail
  go_ret3
  refine ⟨_, rfl, ?_⟩
  show GLx w g G1 F (.slice none 0 0) (if e1 ≠ 0 then [] else [[]]) _
  rw [if_pos HE.out]
  obtain ⟨F2, k1, k2, k3, k4, _, _⟩ := HV.out
  exact glx_nil k1 (by simpa using k2) k3 k4
theorem program26_3 (h : GIn w g G F) {x y gs : WV} (hx : WVin w F x) (hy : WVin w F y) (hyc : y.l.length ≤ y.c) (hg : WVin w F gs) (hgc : gs.l.length ≤ gs.c) {la ma : Option Addr} {nl nm : Nat} (lc mc : Nat) {Ls Ms : List WV} (hA : WA w F la nl Ls) (hB : WA w F ma nm Ms) (hnm : nm ≤ 1000000) (C : Int) (hC : I64' C) (N : Nat) (hN : N < 4294967296)
  (a1 : Option Addr) (n1 c1 : Nat) (a2 : Option Addr) (n2 c2 : Nat) (a3 : Option Addr) (n3 c3 : Nat) (a4 : Option Addr) (n4 c4 : Nat) (a5 : Option Addr) (n5 c5 : Nat) (kind : Nat) (hk : (kind : Int) % 6 = 3) :
  Calls Tryz.prog 98 #[.pointer (some ⟨g, 0, none⟩), .agg #[.int .u8 kind, .int .i64 C, .slice a1 n1 c1, .slice a2 n2 c2, .int .u32 N, .slice a3 n3 c3, .slice a4 n4 c4, .slice a5 n5 c5], x.val, y.val, gs.val, .slice la nl lc, .slice ma nm mc] w (PTo26 w g F (P26 3 G ⟨C, x.l, y.l, N, gs.l, Ls.map WV.l, Ms.map WV.l⟩)) := by
 rw [P26_3 h.ok]
 have hCa := fun (W : World) (hW : Ch [] w W) => mWrite_is (lc := lc) (h.same hW (by simp)) (hA.ch9 hW) C hC (hy.ch hW) hyc (hx.ch hW)
 obtain ⟨xa, xl, xc⟩ := x
 obtain ⟨ya, yl, yc⟩ := y
 obtain ⟨ga, gl, gc⟩ := gs
 simp only [WV.val] at *
 generalize writeG G (Ls.map WV.l) C yl xl = R at *
 obtain ⟨G1, l1, e1⟩ := R
 have HK := Hi9 hCa; clear hCa h hx hy hg hA hB hyc hgc hnm hC
 go_enter Tryz.func98, Tryz.ntmps98
 go_wp2_with fail
 refine calls_named fun W hW => ?_
 have hc : Ch [] w W := by rw [hW]; exact (Ch.refl _ _).alloc _
 clear hW
 have HC := Hi9 hc; clear hc
 refine (HK.out W HC.out).mono ?_
 rintro e w1 ⟨v, rfl, hv⟩
 obtain ⟨va, vc, rfl⟩ : ∃ a c, v = .slice a l1.length c := by obtain ⟨_, _, _, _, _, _, h5, _⟩ := hv; exact row.shape h5
 have HV := Hi9 ((GLx.since HC.out hv.x)); clear hv
 go_wp2_with fail
 go_ret3
 exact ⟨_, rfl, HV.out⟩
theorem program26_4 (h : GIn w g G F) {x y gs : WV} (hx : WVin w F x) (hy : WVin w F y) (hyc : y.l.length ≤ y.c) (hg : WVin w F gs) (hgc : gs.l.length ≤ gs.c) {la ma : Option Addr} {nl nm : Nat} (lc mc : Nat) {Ls Ms : List WV} (hA : WA w F la nl Ls) (hB : WA w F ma nm Ms) (hnm : nm ≤ 1000000) (C : Int) (hC : I64' C) (N : Nat) (hN : N < 4294967296)
  (a1 : Option Addr) (n1 c1 : Nat) (a2 : Option Addr) (n2 c2 : Nat) (a3 : Option Addr) (n3 c3 : Nat) (a4 : Option Addr) (n4 c4 : Nat) (a5 : Option Addr) (n5 c5 : Nat) (kind : Nat) (hk : (kind : Int) % 6 = 4) :
  Calls Tryz.prog 98 #[.pointer (some ⟨g, 0, none⟩), .agg #[.int .u8 kind, .int .i64 C, .slice a1 n1 c1, .slice a2 n2 c2, .int .u32 N, .slice a3 n3 c3, .slice a4 n4 c4, .slice a5 n5 c5], x.val, y.val, gs.val, .slice la nl lc, .slice ma nm mc] w (PTo26 w g F (P26 4 G ⟨C, x.l, y.l, N, gs.l, Ls.map WV.l, Ms.map WV.l⟩)) := by
 rw [P26_4 h.ok]
 have hCa := fun (W : World) (hW : Ch [] w W) => mPick_is (lc := lc) (h.same hW (by simp)) (hA.ch9 hW) (hg.ch hW) hgc
 have hnil := pickG_nil G gs.l (Ls.map WV.l)
 obtain ⟨xa, xl, xc⟩ := x
 obtain ⟨ya, yl, yc⟩ := y
 obtain ⟨ga, gl, gc⟩ := gs
 simp only [WV.val] at *
 generalize pickG G gl (Ls.map WV.l) = R at *
 obtain ⟨G1, l1, e1⟩ := R
 simp only at hnil
 have HNIL := Hi9 hnil; clear hnil
 have HK := Hi9 hCa; clear hCa h hx hy hg hA hB hyc hgc hnm hC
 go_enter Tryz.func98, Tryz.ntmps98
 go_wp2_with fail
 refine calls_named fun W hW => ?_
 have hc : Ch [] w W := by rw [hW]; exact (Ch.refl _ _).alloc _
 clear hW
 have HC := Hi9 hc; clear hc
 refine (HK.out W HC.out).mono ?_
 rintro e w1 ⟨v, rfl, hv⟩
 have hv2 := GVo.since HC.out hv
 obtain ⟨va, vc, rfl⟩ : ∃ a c, v = .slice a l1.length c := by obtain ⟨_, _, _, _, _, h5, _⟩ := hv; exact row.shape h5
 have HV := Hi9 hv2; clear hv hv2
 by_cases he : e1 = 0
 ·subst he
  go_wp2_with fail
  refine bodyPost_alw ?_
  intro W3 hW3
  go_ret3
  refine ⟨_, rfl, ?_⟩
  show GLx w g G1 F _ [l1] W3
  exact glx_one HV.out hW3
 ·have hl0 := HNIL.out he
  subst hl0
  simp only [List.length_nil] at *
  have e4 : ((e1 : Int) != 0) = true := bne_iff_ne.2 (by omega)
  have HE := Hi9 he; clear he
  go_wp2_with fail
  go_ret3
  refine ⟨_, rfl, ?_⟩
  show GLx w g G1 F (.slice none 0 0) (if e1 ≠ 0 then [] else [[]]) _
  rw [if_pos HE.out]
  obtain ⟨F2, k1, k2, k3, k4, _, _⟩ := HV.out
  exact glx_nil k1 (by simpa using k2) k3 k4
theorem program26_5 (h : GIn w g G F) {x y gs : WV} (hx : WVin w F x) (hy : WVin w F y) (hyc : y.l.length ≤ y.c) (hg : WVin w F gs) (hgc : gs.l.length ≤ gs.c) {la ma : Option Addr} {nl nm : Nat} (lc mc : Nat) {Ls Ms : List WV} (hA : WA w F la nl Ls) (hB : WA w F ma nm Ms) (hnm : nm ≤ 1000000) (C : Int) (hC : I64' C) (N : Nat) (hN : N < 4294967296)
  (a1 : Option Addr) (n1 c1 : Nat) (a2 : Option Addr) (n2 c2 : Nat) (a3 : Option Addr) (n3 c3 : Nat) (a4 : Option Addr) (n4 c4 : Nat) (a5 : Option Addr) (n5 c5 : Nat) (kind : Nat) (hk : (kind : Int) % 6 = 5) :
  Calls Tryz.prog 98 #[.pointer (some ⟨g, 0, none⟩), .agg #[.int .u8 kind, .int .i64 C, .slice a1 n1 c1, .slice a2 n2 c2, .int .u32 N, .slice a3 n3 c3, .slice a4 n4 c4, .slice a5 n5 c5], x.val, y.val, gs.val, .slice la nl lc, .slice ma nm mc] w (PTo26 w g F (P26 5 G ⟨C, x.l, y.l, N, gs.l, Ls.map WV.l, Ms.map WV.l⟩)) := by
 rw [P26_5 h.ok]
 have hCa := fun (W : World) (hW : Ch [] w W) => mEqual_is (ac := lc) (bc := mc) (h.same hW (by simp)) (hA.ch9 hW) (hB.ch9 hW) hnm
 obtain ⟨xa, xl, xc⟩ := x
 obtain ⟨ya, yl, yc⟩ := y
 obtain ⟨ga, gl, gc⟩ := gs
 simp only [WV.val] at *
 generalize equalG G (Ls.map WV.l) (Ms.map WV.l) = R at *
 obtain ⟨G1, r1, e1⟩ := R
 have HK := Hi9 hCa; clear hCa h hx hy hg hA hB hyc hgc hnm hC
 go_enter Tryz.func98, Tryz.ntmps98
 go_wp2_with fail
 refine calls_named fun W hW => ?_
 have hc : Ch [] w W := by rw [hW]; exact (Ch.refl _ _).alloc _
 clear hW
 have HC := Hi9 hc; clear hc
 refine (HK.out W HC.out).mono ?_
 rintro e w1 ⟨rfl, hv⟩
 have HV := Hi9 (GTo.since HC.out hv); clear hv
 go_wp2_with fail
 go_ret3
 obtain ⟨F2, k1, k2, k3, k4⟩ := HV.out
 exact ⟨_, rfl, glx_nil k1 k2 k3 k4⟩
theorem program26_is (h : GIn w g G F) {x y gs : WV} (hx : WVin w F x) (hy : WVin w F y) (hyc : y.l.length ≤ y.c) (hg : WVin w F gs) (hgc : gs.l.length ≤ gs.c) {la ma : Option Addr} {nl nm : Nat} (lc mc : Nat) {Ls Ms : List WV} (hA : WA w F la nl Ls) (hB : WA w F ma nm Ms) (hnm : nm ≤ 1000000) (C : Int) (hC : I64' C) (N : Nat) (hN : N < 4294967296)
  (a1 : Option Addr) (n1 c1 : Nat) (a2 : Option Addr) (n2 c2 : Nat) (a3 : Option Addr) (n3 c3 : Nat) (a4 : Option Addr) (n4 c4 : Nat) (a5 : Option Addr) (n5 c5 : Nat) (kind : Nat) :
  Calls Tryz.prog 98 #[.pointer (some ⟨g, 0, none⟩), .agg #[.int .u8 kind, .int .i64 C, .slice a1 n1 c1, .slice a2 n2 c2, .int .u32 N, .slice a3 n3 c3, .slice a4 n4 c4, .slice a5 n5 c5], x.val, y.val, gs.val, .slice la nl lc, .slice ma nm mc] w (PTo26 w g F (P26 (kind % 6) G ⟨C, x.l, y.l, N, gs.l, Ls.map WV.l, Ms.map WV.l⟩)) := by
 have hlt : kind % 6 < 6 := Nat.mod_lt _ (by omega)
 obtain ⟨k, hk⟩ : ∃ k, kind % 6 = k := ⟨_, rfl⟩
 rw [hk] at hlt ⊢
 have hki : (kind : Int) % 6 = k := by omega
 match k, hlt, hki with
 | 0, _, hki => exact program26_0 h hx hy hyc hg hgc lc mc hA hB hnm C hC N hN a1 n1 c1 a2 n2 c2 a3 n3 c3 a4 n4 c4 a5 n5 c5 kind hki
 | 1, _, hki => exact program26_1 h hx hy hyc hg hgc lc mc hA hB hnm C hC N hN a1 n1 c1 a2 n2 c2 a3 n3 c3 a4 n4 c4 a5 n5 c5 kind hki
 | 2, _, hki => exact program26_2 h hx hy hyc hg hgc lc mc hA hB hnm C hC N hN a1 n1 c1 a2 n2 c2 a3 n3 c3 a4 n4 c4 a5 n5 c5 kind hki
 | 3, _, hki => exact program26_3 h hx hy hyc hg hgc lc mc hA hB hnm C hC N hN a1 n1 c1 a2 n2 c2 a3 n3 c3 a4 n4 c4 a5 n5 c5 kind hki
 | 4, _, hki => exact program26_4 h hx hy hyc hg hgc lc mc hA hB hnm C hC N hN a1 n1 c1 a2 n2 c2 a3 n3 c3 a4 n4 c4 a5 n5 c5 kind hki
 | 5, _, hki => exact program26_5 h hx hy hyc hg hgc lc mc hA hB hnm C hC N hN a1 n1 c1 a2 n2 c2 a3 n3 c3 a4 n4 c4 a5 n5 c5 kind hki
end
structure CpW (w : World) (lo : Nat) (x : WV) : Prop where
 row : Go.Mem.row w 52 1 x.val x.l.length (intCells x.l)
 own : ∀ q, x.val.ownBlock = some q → lo ≤ q
 bd : ∀ r ∈ x.l, -9223372036854775808 ≤ r ∧ r ≤ 9223372036854775807
 len : x.l.length ≤ 1000000
theorem CpW.ch {F : List Nat} {w w' : World} {lo : Nat} {x : WV} (h : CpW w lo x) (hc : Ch F w w') (hF : ∀ k ∈ F, k < lo ∨ w.heap.size ≤ k) : CpW w' lo x :=
 ⟨h.row.ch hc (fun k hk hin => by have := h.own k hk; have := (h.row.lt k hk).2; have := hF k hin; omega), h.own, h.bd, h.len⟩
theorem CpW.sl {w : World} {lo : Nat} {x : WV} (h : CpW w lo x) : Sl w x.a x.l := Sl.of_ints h.row h.len
theorem CpW.cap {w : World} {lo : Nat} {x : WV} (h : CpW w lo x) : x.l.length ≤ x.c := (row_cap h.row).1
theorem CpW.wv {w : World} {lo : Nat} {x : WV} {F : List Nat} (h : CpW w lo x) (hF : ∀ k ∈ F, k < lo) : WVin w F x := by
 refine ⟨⟨h.sl, h.bd, h.len⟩, fun k hk => ?_⟩
 have ho := h.own
 have hl := h.row.lt
 obtain ⟨a, l, c⟩ := x
 cases a with
 | none => simp [ablk] at hk
 | some p =>
  simp only [ablk, List.mem_singleton] at hk
  subst hk
  have h1 := ho p.block rfl
  exact ⟨fun hin => by have := hF _ hin; omega, (hl p.block rfl).2⟩
structure CpA (w : World) (lo : Nat) (v : Value) (zs : List WV) : Prop where
 row : Go.Mem.row w 45 1 v zs.length (zs.map WV.val)
 own : ∀ q, v.ownBlock = some q → lo ≤ q
 ws : ∀ x ∈ zs, CpW w lo x
 ap : ∀ x ∈ zs, ∀ q, x.val.ownBlock = some q → v.ownBlock ≠ some q
theorem CpA.ch {F : List Nat} {w w' : World} {lo : Nat} {v : Value} {ws : List WV} (h : CpA w lo v ws) (hc : Ch F w w') (hF : ∀ k ∈ F, k < lo ∨ w.heap.size ≤ k) : CpA w' lo v ws :=
 ⟨h.row.ch hc (fun k hk hin => by have := h.own k hk; have := (h.row.lt k hk).2; have := hF k hin; omega), h.own, fun x hx => (h.ws x hx).ch hc hF, h.ap⟩
theorem CpA.up {w : World} {lo lo' : Nat} {v : Value} {ws : List WV} (h : CpA w lo v ws) (hl : lo' ≤ lo) : CpA w lo' v ws :=
 ⟨h.row, fun q hq => Nat.le_trans hl (h.own q hq), fun x hx => ⟨(h.ws x hx).row, fun q hq => Nat.le_trans hl ((h.ws x hx).own q hq), (h.ws x hx).bd, (h.ws x hx).len⟩, h.ap⟩
theorem CpA.wa {w : World} {lo n c : Nat} {a : Option Addr} {ws : List WV} {F : List Nat} (h : CpA w lo (.slice a n c) ws) (hn : ws.length = n) (hF : ∀ k ∈ F, k < lo) : WA w F a n ws := by
 refine ⟨hn, fun h1 => ?_⟩
 have hr := h.row
 obtain ⟨b, c', e⟩ := hr.parts (by omega)
 injection e with e1 e2 e3
 subst e1
 have hl := (hr.lt b rfl).2
 have ho := h.own b rfl
 refine ⟨b, rfl, hn, fun i x hx => row.at9 hr (by simp [hx]), fun x hx => (h.ws x hx).wv hF, fun hin => by have := hF _ hin; omega, hl⟩
section
variable {w : World}
theorem lists26_is {la : Option Addr} {lc nl : Nat} {Ls : List WV} (h : IW w la nl Ls) (hm : nl ≤ 1000000) (hbd : ∀ x ∈ Ls, ∀ r ∈ x.l, -9223372036854775808 ≤ r ∧ r ≤ 9223372036854775807) :
  Calls Tryz.prog 198 #[.slice la nl lc] w fun e w' => ∃ a c ws, e = .returned (.slice a nl c) ∧ Ch [] w w' ∧ ws.map WV.l = Ls.map WV.l ∧ CpA w' w.heap.size (.slice a nl c) ws := by
 have HA := Hi9 h; clear h
 have HBD := Hi9 hbd; clear hbd
 go_enter Tryz.func198, Tryz.ntmps198
 go_wp2_with fail
 go_loopw [3, 8] (fun o i wr => ∃ (k : Nat) (ws : List WV), k ≤ nl ∧ i = .int .i64 k ∧ ws.length = k ∧ Ch [] w wr ∧ ws.map WV.l = (Ls.map WV.l).take k ∧ CpA wr w.heap.size o ws) (fun _ i _ => nl - (intOf i).toNat)
 case atStart => exact ⟨0, [], by omega, rfl, rfl, Ch.refl _ _, by simp, ⟨⟨rfl, .inl ⟨rfl, rfl⟩⟩, by simp [Value.ownBlock], by simp, by simp⟩⟩
 case round =>
  obtain ⟨k, ws, hk, rfl, hwk, hc, hws, hcp⟩ := hrel
  obtain ⟨oa, oc, rfl⟩ := row.shape hcp.row
  rw [hwk] at hcp ⊢
  by_cases hlt : k < nl
  ·obtain ⟨x, hx⟩ : ∃ x, Ls[k]? = some x := ⟨_, List.getElem?_eq_getElem (by rw [HA.out.len]; exact hlt)⟩
   have hxm := List.mem_of_getElem? hx
   obtain ⟨xb, xo, rfl, hcl⟩ := (HA.out.ch hc).cells k x hx
   have hR := Refs23_is (w := wr) x.l.length x.c rfl (((HA.out.ch hc).sl x hxm)) (by have := HA.out.sm x hxm; omega)
   have hsu : (Ls.map WV.l).take (k + 1) = ws.map WV.l ++ [x.l] := by rw [hws, List.take_add_one, List.getElem?_map, hx]; rfl
   have hb9 := HBD.out x hxm
   have hs9 := HA.out.sm x hxm
   obtain ⟨xa, xl, xc⟩ := x
   simp only [WV.val] at hcl hR hsu hb9 hs9
   have HR := Hi9 hR; clear hR
   have HSU := Hi9 hsu; clear hsu hx hxm hws
   have HB9 := Hi9 hb9; clear hb9
   have HC := Hi9 hc; clear hc
   have HCP := Hi9 hcp; clear hcp
   have HWK := Hi9 hwk; clear hwk
   go_wp2_with fail
   refine HR.out.mono ?_
   rintro e w2 ⟨v, rfl, hro, hlo, hc2⟩
   obtain ⟨pa, pc, rfl⟩ := row.shape hro
   have hcpw : CpW w2 wr.heap.size ⟨pa, xl, pc⟩ := ⟨by rw [show (WV.mk pa xl pc).val = .slice pa xl.length pc from rfl]; exact hro, fun q hq => hlo q (by simpa [WV.val] using hq), HB9.out, by show xl.length ≤ 1000000; omega⟩
   have hcA : Ch [] w2 (w2.alloc (.cells #[.slice pa xl.length pc] 45)) := (Ch.refl _ _).alloc _
   have hcA0 : Ch [] wr (w2.alloc (.cells #[.slice pa xl.length pc] 45)) := hc2.trans hcA (by simp)
   have hrA := (HCP.out.ch hcA0 (by simp)).row
   have hbA : blk (w2.alloc (.cells #[.slice pa xl.length pc] 45)) w2.heap.size [.slice pa xl.length pc] := blk.new' _ _ rfl
   rw [HWK.out] at hrA
   have hz2 := hc2.size
   have HRA := Hi9 hrA; clear hrA
   have HBA := Hi9 hbA; clear hbA
   have HCA := Hi9 hcA; clear hcA
   have HCA0 := Hi9 hcA0; clear hcA0
   have HPW := Hi9 hcpw; clear hcpw hro hlo
   have HC2 := Hi9 hc2; clear hc2 hcl
   go_wp2_with (at_builtin; go_loud (refine wpList_append_row slRows rfl _ _ rfl (v := .slice oa k oc) (n := k) (xs := ws.map WV.val) rfl HRA.out (ad := ⟨w2.heap.size, 0, none⟩) (m := 1) (c := 1) (news := [.slice pa xl.length pc]) rfl rfl (news_blk HBA.out) (by simp [Value.oneCell']) (by omega) (by omega) ?_; intro v' w4 hown4 hC4 hf4; have HO4 := Hi9 hown4; clear hown4; have HC4 := Hi9 hC4; clear hC4; have HF4 := Hi9 hf4; clear hf4))
   go_roundw
   case rel =>
    have hz0 := HC.out.size
    obtain ⟨q1, q2⟩ := app_step HC.out HCA0.out (fun q hq => HCP.out.own q (by simpa using hq)) HC4.out HF4.out
    have hF9 : ∀ q ∈ (Value.slice oa k oc).ownBlock.toList, q < wr.heap.size := fun q hq => (HCP.out.row.lt q (by simpa [HWK.out] using hq)).2
    have hpw := (HPW.out.ch HCA.out (by simp)).ch HC4.out (fun q hq => .inl (hF9 q hq))
    have hvA : ∀ q, (Value.slice pa xl.length pc).ownBlock = some q → wr.heap.size ≤ q ∧ q < w2.heap.size := fun q hq => ⟨HPW.out.own q hq, (HPW.out.row.lt q hq).2⟩
    have hzA := HCA.out.size
    refine ⟨k + 1, ws ++ [⟨pa, xl, pc⟩], by omega, by go_num, by simp [HWK.out], q1, by rw [HSU.out]; simp, ⟨?_, fun q hq => q2 q (by simpa using hq), fun z hz => ?_, fun z hz q hq hq9 => ?_⟩⟩
    ·rw [List.length_append, HWK.out, List.map_append]; exact HO4.out
    ·rcases List.mem_append.1 hz with hz | hz
     ·have h9 := (HCP.out.ws z hz).ch HCA0.out (by simp)
      exact ⟨h9.row.ch HC4.out (fun q hq hin => HCP.out.ap z hz q hq (by simpa using hin)), h9.own, h9.bd, h9.len⟩
     ·rw [List.mem_singleton.1 hz]
      exact ⟨hpw.row, fun q hq => Nat.le_trans hz0 (hpw.own q hq), hpw.bd, hpw.len⟩
    ·rcases List.mem_append.1 hz with hz | hz
     ·have h8 := ((HCP.out.ws z hz).row.lt q hq).2
      have h7 := HC2.out.size
      rcases HF4.out q hq9 with e | e
      ·exact HCP.out.ap z hz q hq e
      ·omega
     ·rw [List.mem_singleton.1 hz] at hq
      have h8 := hvA q hq
      rcases HF4.out q hq9 with e | e
      ·have := hF9 q (by simpa using e); omega
      ·omega
   case measure => simp [intOf]; omega
  ·have hkn : k = nl := by omega
   rw [hkn, List.take_of_length_le (by rw [List.length_map, HA.out.len]; omega)] at hws
   rw [hkn] at hcp ⊢
   have HC := Hi9 hc; clear hc
   have HCP := Hi9 hcp; clear hcp hkn
   have HWS := Hi9 hws; clear hws
   go_wp2_with fail
   go_ret
   exact ⟨oa, oc, ws, rfl, HC.out, HWS.out, HCP.out⟩
end
def AI (w : World) (a : Option Addr) (L : List (List Int)) : Prop := ∀ (i : Nat) (l : List Int), L[i]? = some l → ∃ b o xa xc, a = some ⟨b, o, none⟩ ∧ w.cell? ⟨b, o + i, none⟩ = some (.slice xa l.length xc) ∧ Sl w xa l
theorem AI.ch {w w' : World} {a : Option Addr} {L : List (List Int)} (h : AI w a L) (hc : Ch [] w w') : AI w' a L := fun i l hl => by
 obtain ⟨b, o, xa, xc, h1, h2, h3⟩ := h i l hl
 exact ⟨b, o, xa, xc, h1, (hc.cell (cell_lt h2) (by simp)).trans h2, h3.ch hc (by simp)⟩
theorem IW.ai {w : World} {la : Option Addr} {nl : Nat} {Ls : List WV} (h : IW w la nl Ls) : AI w la (Ls.map WV.l) := fun i l hl => by
 rw [List.getElem?_map] at hl
 cases hx : Ls[i]? with
 | none => rw [hx] at hl; cases hl
 | some x =>
  rw [hx] at hl
  cases hl
  obtain ⟨b, o, h1, h2⟩ := h.cells i x hx
  exact ⟨b, o, x.a, x.c, h1, h2, h.sl x (List.mem_of_getElem? hx)⟩
theorem CpA.ai {w : World} {lo n c : Nat} {a : Option Addr} {ws : List WV} (h : CpA w lo (.slice a n c) ws) : AI w a (ws.map WV.l) := fun i l hl => by
 rw [List.getElem?_map] at hl
 cases hx : ws[i]? with
 | none => rw [hx] at hl; cases hl
 | some x =>
  rw [hx] at hl
  cases hl
  have hr := h.row
  obtain ⟨b, c', e⟩ := hr.parts (by have := (List.getElem?_eq_some_iff.1 hx).1; omega)
  injection e with e1 e2 e3
  subst e1
  exact ⟨b, 0, x.a, x.c, rfl, by rw [Nat.zero_add]; exact row.at9 hr (by simp [hx, WV.val]), (h.ws x (List.mem_of_getElem? hx)).sl⟩
theorem ArrR.ai {w' : World} {B0 B1 : Nat} {a : Option Addr} {n c : Nat} {Z : List (List Nat)} (h : ArrR w' B0 B1 (.slice a n c) Z) : AI w' a (Z.map natInts) := fun i l hl => by
 obtain ⟨oa, oc, e, h⟩ := h
 injection e with e1 e2 e3
 subst e1
 rw [List.getElem?_map] at hl
 cases hx : Z[i]? with
 | none => rw [hx] at hl; cases hl
 | some z =>
  rw [hx] at hl
  cases hl
  obtain ⟨b, xa, xc, h1, h2, h3, h4, h5⟩ := h i z hx
  exact ⟨b, 0, xa, xc, h1, by rw [Nat.zero_add, natInts_len]; exact h3, h4⟩
section
variable {w : World}
theorem same261_is {a b : Option Addr} {l : List Int} (n ca cb : Nat) (hn : l.length = n) (hm : n ≤ 1000000) (h : Sl w a l) (h2 : Sl w b l) : Calls Tryz.prog 286 #[.slice a n ca, .slice b n cb] w fun e w' => e = .returned (.bool true) ∧ Ch [] w w' := by
 have hI := Ints23_is n ca hn h hm
 have HI := Hi9 hI; clear hI h
 have H2 := Hi9 h2; clear h2
 have HN := Hi9 hn; clear hn
 go_enter Tryz.func286, Tryz.ntmps286
 go_wp2_with fail
 refine HI.out.mono ?_
 rintro e w1 ⟨v, rfl, hro, hlo, hc⟩
 obtain ⟨pa, pc, rfl⟩ := row.shape hro
 have hE := Eqint_same (a := pa) (b := b) pc cb HN.out (Sl.of_ints hro hm) (H2.out.ch hc (by simp))
 have HE := Hi9 hE; clear hE hro hlo
 have HC := Hi9 hc; clear hc
 go_wp2_with fail
 refine HE.out.mono ?_
 rintro e w2 ⟨rfl, hc2⟩
 have HC2 := Hi9 hc2; clear hc2
 go_wp2_with fail
 go_ret
 exact ⟨rfl, HC.out.trans HC2.out (by simp)⟩
theorem fnvsame261 : Fnv 286 := fnv_of Tryz.func286 (by simp [Tryz.f286]) (by simp [Tryz.f286])
theorem EFwints_yes {a b : Option Addr} {P : List (List Int)} (n ca cb : Nat) (hn : n ≤ 1000000) (hA : AI w a P) (hB : AI w b P) (hp : P.length = n) (hl : ∀ l ∈ P, l.length ≤ 1000000) :
  Calls Tryz.prog 285 #[.slice a n ca, .slice b n cb, .func (.func 286) #[] #[]] w fun e w' => e = .returned (.bool true) ∧ Ch [] w w' := by
 have hcf : ∀ args w, (callFunc 286 args).run Tryz.prog w = .ok (.enter 286 args) w := fnvsame261
 have HA := Hi9 hA; clear hA
 have HB := Hi9 hB; clear hB
 have HP := Hi9 hp; clear hp
 have HL := Hi9 hl; clear hl
 go_enter Tryz.func285, Tryz.ntmps285
 go_wp2_with fail
 go_loopw [17] (fun i wr => ∃ k : Nat, k ≤ n ∧ i = .int .i64 k ∧ Ch [] w wr) (fun i _ => n - (intOf i).toNat)
 case atStart => exact ⟨0, Nat.zero_le _, rfl, Ch.refl _ _⟩
 case round =>
  obtain ⟨k, hk, rfl, hc⟩ := hrel
  by_cases hlt : k < n
  ·obtain ⟨x, hx⟩ : ∃ x, P[k]? = some x := ⟨_, List.getElem?_eq_getElem (by rw [HP.out]; exact hlt)⟩
   obtain ⟨ab, ao, xa, xc, rfl, c0, hxo⟩ := (HA.out.ch hc) k x hx
   obtain ⟨bb, bo, ya, yc, rfl, c1, hyo⟩ := (HB.out.ch hc) k x hx
   have hE := same261_is x.length xc yc rfl (HL.out x (List.mem_of_getElem? hx)) hxo hyo
   have HE := Hi9 hE; clear hE
   have HC := Hi9 hc; clear hc
   clear hx hxo hyo
   go_wp2_with fail
   refine HE.out.mono ?_
   rintro e w1 ⟨rfl, hc1⟩
   have HC1 := Hi9 hc1; clear hc1
   go_wp2_with fail
   go_roundw
   case rel => exact ⟨k + 1, by omega, by go_num, HC.out.trans HC1.out (by simp)⟩
   case measure => simp [intOf]; omega
  ·have HC := Hi9 hc; clear hc
   go_wp2_with fail
   go_ret
   exact ⟨rfl, HC.out⟩
theorem same26_yes {a b : Option Addr} {P : List (List Int)} (n ca cb : Nat) (hn : n ≤ 1000000) (hA : AI w a P) (hB : AI w b P) (hp : P.length = n) (hl : ∀ l ∈ P, l.length ≤ 1000000) :
  Calls Tryz.prog 201 #[.slice a n ca, .slice b n cb] w fun e w' => e = .returned (.bool true) ∧ Ch [] w w' := by
 have hE := EFwints_yes n ca cb hn hA hB hp hl
 have HE := Hi9 hE; clear hE hA hB hp hl
 go_enter Tryz.func201, Tryz.ntmps201
 go_wp2_with fail
 refine HE.out.mono ?_
 rintro e w1 ⟨rfl, hc1⟩
 have HC1 := Hi9 hc1; clear hc1
 go_wp2_with fail
 go_ret
 exact ⟨rfl, HC1.out⟩
end
section
variable {w : World}
theorem run_zerosIts (w : World) (ty : TypeId) (n : Nat) (h0 : 0 < n) (hn : n ≤ 1000000) : ∃ c W, (Builtin.append_ #[29, 3] ty #[.slice none 0 0, .int .i64 n]).run Tryz.prog w = .ok (.slice (some ⟨w.heap.size, 0, none⟩) n c) W ∧ row W 26 1 (.slice (some ⟨w.heap.size, 0, none⟩) 0 c) 0 [] ∧ Ch [] w W ∧ n ≤ c ∧ c ≤ maxLen := by
 obtain ⟨i, hi, hz, hs, hb⟩ := info_parts infoInts9
 have hr := Go.Lib.run_append_nil_zeros (P := Tryz.prog) w 29 3 ty 26 i zLst .i64 .i64 Tryz.underlying29 Tryz.underlying3 hi hz n h0 (by rw [hs]; omega) (by omega) (by rw [hb]; omega)
 have h1 := grownCap_ge w n 0 26
 have h2 := grownCap_le_maxLen w n 0 26 (by unfold maxLen; omega)
 refine ⟨_, _, hr, ⟨rfl, .inr ⟨_, _, _, rfl, Nat.zero_le _, heap_alloc_new w.drew _, Nat.zero_le _, h2, ?_, by simp⟩⟩, ((Ch.refl [] w).drew).alloc _, h1, h2⟩
 simp [Value.cells, Builtin.zeroCells]
 omega
theorem GrowIts_nil (n : Nat) (h0 : 0 < n) (hn : n ≤ 1000000) : Calls Tryz.prog 331 #[.slice none 0 0, .int .i64 n] w fun e w' => ∃ v, e = .returned v ∧ row w' 26 1 v 0 [] ∧ (∀ q ∈ v.ownBlock.toList, w.heap.size ≤ q) ∧ Ch [] w w' := by
 obtain ⟨c, W, hr, hrow, hch, h1, h2⟩ := run_zerosIts w 29 n h0 hn
 have HROW := Hi9 hrow; clear hrow
 have HCH := Hi9 hch; clear hch
 go_enter Tryz.func331, Tryz.ntmps331
 have HR := Hi9 hr; clear hr
 go_wp2_with (at_builtin; go_loud (refine Go.Lib.wpList_append_run w rfl _ _ _ _ rfl (.slice none 0 0) (.int .i64 n) rfl rfl _ _ HR.out ?_))
 go_ret
 exact ⟨_, rfl, HROW.out, by simp, HCH.out⟩
theorem ConcatIts_is {q : Nat} {ps : List (Option Addr × List Value × Nat)} (n c : Nat) (h : Pco w q ps) (hn : ps.length = n) (hnc : n ≤ 1000) (h1 : 0 < (pcoL ps).length) (h2 : (pcoL ps).length ≤ 1000000) :
  Calls Tryz.prog 278 #[.slice (some ⟨q, 0, none⟩) n c] w fun e w' => ∃ v, e = .returned v ∧ row w' 26 1 v (pcoL ps).length (pcoL ps) ∧ (∀ q ∈ v.ownBlock.toList, w.heap.size ≤ q) ∧ Ch [] w w' := by
 have HN := fun W => GrowIts_nil (w := W) (pcoL ps).length h1 h2
 have H := Hi9 h; clear h
 go_enter Tryz.func278, Tryz.ntmps278
 go_wp2_with fail
 go_loopw [3, 11] (fun s i wr => ∃ k : Nat, k ≤ n ∧ i = .int .i64 k ∧ s = .int .i64 (pcoL (ps.take k)).length ∧ wr = w) (fun _ i _ => n - (intOf i).toNat)
 case atStart => exact ⟨0, by omega, rfl, by simp [pcoL], rfl⟩
 case round =>
  obtain ⟨k, hk, rfl, rfl, hww⟩ := hrel
  subst wr
  have hle := pcoL_le ps k
  by_cases hlt : k < n
  ·obtain ⟨⟨p, l, lc⟩, hp⟩ : ∃ x, ps[k]? = some x := ⟨_, List.getElem?_eq_getElem (by omega)⟩
   have c0 := H.out.hd k p l lc hp
   have hsu := pcoL_succ hp
   have hle2 := pcoL_le ps (k + 1)
   rw [hsu, List.length_append] at hle2
   have HSU := Hi9 hsu; clear hsu
   generalize hA : (pcoL (ps.take k)).length = A at *
   have hnn : decide ((A : Int) + l.length < 0) = false := decide_eq_false (by omega)
   go_wp2_with fail
   go_roundw
   case rel => exact ⟨k + 1, by omega, by go_num, by rw [HSU.out, List.length_append, hA]; push_cast; rfl, by trivial⟩
   case measure => simp [intOf]; omega
  ·have hkn : k = n := by omega
   have hall : ps.take k = ps := List.take_of_length_le (by omega)
   rw [hall] at hle ⊢
   clear hall hkn
   have HNN := Hi9 HN; clear HN
   go_wp2_with fail
   refine (HNN.out _).mono ?_
   rintro e w1 ⟨v, rfl, hrow, hlo, hch⟩
   have HROW := Hi9 hrow; clear hrow
   have HLO := Hi9 hlo; clear hlo
   have HCH := Hi9 hch; clear hch hle
   clear hlt
   go_wp2_with fail
   go_loopw [6, 27] (fun o i wr => ∃ k : Nat, k ≤ n ∧ i = .int .i64 k ∧ Ch [] w wr ∧ row wr 26 1 o (pcoL (ps.take k)).length (pcoL (ps.take k)) ∧ ∀ q ∈ o.ownBlock.toList, w.heap.size ≤ q) (fun _ i _ => n - (intOf i).toNat)
   case atStart => exact ⟨0, by omega, rfl, HCH.out, by simpa [pcoL] using HROW.out, HLO.out⟩
   case round =>
    obtain ⟨k, hk, rfl, hc, hrow, hlo⟩ := hrel
    obtain ⟨oa, oc, rfl⟩ := row.shape hrow
    by_cases hlt : k < n
    ·obtain ⟨⟨p, l, lc⟩, hp⟩ : ∃ x, ps[k]? = some x := ⟨_, List.getElem?_eq_getElem (by omega)⟩
     have hP := H.out.ch hc
     have c0 := hP.hd k p l lc hp
     have hcl := hP.cl k p l lc hp
     have h1o := hP.o1 k p l lc hp
     have hsu := pcoL_succ hp
     have hle2 := pcoL_le ps (k + 1)
     rw [hsu, List.length_append] at hle2
     have HSU := Hi9 hsu; clear hsu
     have H1O := Hi9 h1o; clear h1o
     generalize hA : pcoL (ps.take k) = A at *
     have HA := Hi9 hA; clear hA
     have HRA := Hi9 hrow; clear hrow
     have HC := Hi9 hc; clear hc
     have HLO2 := Hi9 hlo; clear hlo
     clear hp hP
     cases p with
     | none =>
      have hl0 : l = [] := by
       cases l with
       | nil => rfl
       | cons u l =>
        obtain ⟨a, e, _⟩ := hcl 0 u rfl
        cases e
      subst hl0
      clear hcl
      have hrn : (Builtin.append_ #[29, 29] 29 #[.slice oa A.length oc, .slice none 0 lc]).run Tryz.prog wr = .ok (.slice oa A.length oc) wr := by
       obtain ⟨i, hi, _⟩ := info_parts infoInts9
       exact run_append_nilx wr _ _ _ i Tryz.underlying29 hi oa A.length oc lc (row.cap HRA.out)
      have HRN := Hi9 hrn; clear hrn
      go_wp2_with (at_builtin; go_loud (refine Go.Lib.wpList_append_run wr rfl _ _ _ _ rfl (.slice oa A.length oc) (.slice none 0 lc) rfl rfl _ _ HRN.out ?_))
      go_roundw
      case rel =>
       refine ⟨k + 1, by omega, by go_num, HC.out, ?_, HLO2.out⟩
       rw [HSU.out, List.append_nil]
       exact HRA.out
      case measure => simp [intOf]; omega
     | some p =>
      have hcl2 : ∀ j u, l[j]? = some u → wr.cell? (p.add j) = some u := fun j u hu => by
       obtain ⟨a, e, h⟩ := hcl j u hu
       cases e; exact h
      have HCL := Hi9 hcl2; clear hcl2 hcl
      go_wp2_with (at_builtin; go_loud (refine wpList_append_row slIntss9 rfl _ _ rfl (v := .slice oa A.length oc) (n := A.length) (xs := A) rfl HRA.out (ad := p) (m := l.length) (c := lc) (news := l) rfl (by simp) HCL.out H1O.out (by omega) (by omega) ?_; intro v' w4 hown4 hC4 hf4; have HO4 := Hi9 hown4; clear hown4; have HC4 := Hi9 hC4; clear hC4; have HF4 := Hi9 hf4; clear hf4))
      go_roundw
      case rel =>
       obtain ⟨q1, q2⟩ := app_step HC.out (Ch.refl [] wr) HLO2.out HC4.out HF4.out
       refine ⟨k + 1, by omega, by go_num, q1, ?_, q2⟩
       rw [HSU.out, List.length_append]
       exact HO4.out
      case measure => simp [intOf]; omega
    ·have hkn : k = n := by omega
     have hall : ps.take k = ps := List.take_of_length_le (by omega)
     rw [hall] at hrow hlo ⊢
     have HRA := Hi9 hrow; clear hrow hall hkn
     have HC := Hi9 hc; clear hc
     have HLO2 := Hi9 hlo; clear hlo
     go_wp2_with fail
     go_ret
     exact ⟨_, rfl, HRA.out, HLO2.out, HC.out⟩
end
theorem eqSliceNil_CLintss (w : World) (a : Option Addr) (n c : Nat) : (binOp .eql 29 (.slice a n c) (.slice none 0 0)).run Tryz.prog w = .ok (.bool a.isNone) w := by
 have h : Tryz.prog.underlying 29 = some (.slice 26) := Tryz.underlying29
 simp only [binOp]
 simp [run_equal_slice_nil w _ _ a n c h]
section
attribute [local go_sem] eqSliceNil_CLintss
variable {w : World}
theorem CLintss_is {a : Option Addr} {l : List WV} (n c : Nat) (hn : l.length = n) (h : Sv w a (l.map WV.val)) (hm : n ≤ 1000000) : Calls Tryz.prog 277 #[.slice a n c] w fun e w' => ∃ v, e = .returned v ∧ row w' 26 1 v n (l.map WV.val) ∧ (∀ q ∈ v.ownBlock.toList, w.heap.size ≤ q) ∧ Ch [] w w' := by
 subst hn
 cases a with
 | none =>
  have hl : l = [] := by
   cases l with
   | nil => rfl
   | cons y l =>
    obtain ⟨b, o, e, _⟩ := h.cells 0 (WV.val y) rfl
    cases e
  subst hl
  clear h
  go_enter Tryz.func277, Tryz.ntmps277
  go_wp2_with fail
  go_ret
  exact ⟨_, rfl, ⟨rfl, .inl ⟨rfl, rfl⟩⟩, by simp, Ch.refl _ _⟩
 | some p =>
  have hO : row (w.alloc (.cells #[] 26)) 26 1 (.slice (some ⟨w.heap.size, 0, none⟩) 0 0) 0 [] := ⟨rfl, .inr ⟨w.heap.size, 0, #[], rfl, by omega, heap_alloc_new w _, by omega, by unfold maxLen; omega, rfl, rfl⟩⟩
  have hN : ∀ j u, (l.map WV.val)[j]? = some u → (w.alloc (.cells #[] 26)).cell? (p.add j) = some u := fun j u hu => by
   obtain ⟨b, o, e, hc⟩ := h.cells j u hu
   cases e
   rw [Addr.add_lit]
   exact (((Ch.refl [] w).alloc _).cell (cell_lt hc) (by simp)).trans hc
  have h1 : ∀ u ∈ l.map WV.val, u.oneCell' = true := fun u hu => by
   obtain ⟨r, _, rfl⟩ := List.mem_map.1 hu
   rfl
  have HO := Hi9 hO; clear hO
  have HN := Hi9 hN; clear hN h
  have H1 := Hi9 h1; clear h1
  go_enter Tryz.func277, Tryz.ntmps277
  go_wp2_with (at_builtin; go_loud (refine wpList_append_row slIntss9 rfl _ _ rfl (v := .slice (some ⟨w.heap.size, 0, none⟩) 0 0) (n := 0) (xs := []) rfl HO.out (ad := p) (m := l.length) (c := c) (news := l.map WV.val) rfl (by simp []) HN.out H1.out (by omega) (by omega) ?_; intro v' w5 hown hC2 hf2; have HOWN := Hi9 hown; clear hown; have HC2 := Hi9 hC2; clear hC2; have HFR := Hi9 hf2; clear hf2))
  go_ret
  have hown := HOWN.out
  rw [Nat.zero_add, List.nil_append] at hown
  refine ⟨_, rfl, hown, fun k hk => ?_, (((Ch.refl [] w).alloc (.cells #[] 26))).trans HC2.out (by simp)⟩
  rcases HFR.out k (by simpa using hk) with e | e
  ·simp at e; omega
  ·simp at e; omega
end
section
variable {w : World}
theorem r26Array_is (n : Int) : Calls Tryz.prog 99 #[.int .i64 n] w fun e w' => e = .returned (.bool (array26 n)) ∧ w = w' := by
 unfold array26
 by_cases h : 1 ≤ n
 ·have h1 : decide (n > 0) = true := decide_eq_true (by omega)
  have h2 : decide ((1 : Int) ≤ n) = true := decide_eq_true h
  have h3 : decide (n < 257) = decide (n ≤ 256) := decide_eq_decide.2 (by omega)
  go_enter Tryz.func99, Tryz.ntmps99
  go_wp2_with fail
  go_ret
  exact ⟨by first | rfl | (rw [h3]; rfl) | (rw [← h3]; rfl) | (rw [h2, ← h3]; rfl), rfl⟩
 ·have h1 : decide (n > 0) = false := decide_eq_false (by omega)
  have h2 : decide ((1 : Int) ≤ n) = false := decide_eq_false h
  go_enter Tryz.func99, Tryz.ntmps99
  go_wp2_with fail
  go_ret
  exact ⟨by first | rfl | (rw [h2]; rfl), rfl⟩
theorem r26Fits_is [Nonempty Unit] (n bits : Nat) (hb : bits ≤ 16) : Calls Tryz.prog 101 #[.int .i64 n, .int .i64 bits] w fun e w' => e = .returned (.int .i64 (fitN n bits : Nat)) ∧ w = w' := by
 have HP := r25Power_is (w := w) bits (by omega)
 unfold fitN
 generalize 2 ^ bits = D at *
 by_cases h : D < n
 ·have h1 : decide (D < n) = true := decide_eq_true h
  rw [Nat.min_eq_right (by omega)]
  clear h
  go_enter Tryz.func101, Tryz.ntmps101
  go_wp2_with fail
  refine HP.mono ?_
  rintro e w' ⟨rfl, rfl⟩
  go_wp2_with fail
  go_ret
  exact ⟨rfl, rfl⟩
 ·have h1 : decide (D < n) = false := decide_eq_false h
  rw [Nat.min_eq_left (by omega)]
  clear h
  go_enter Tryz.func101, Tryz.ntmps101
  go_wp2_with fail
  refine HP.mono ?_
  rintro e w' ⟨rfl, rfl⟩
  go_wp2_with fail
  go_ret
  exact ⟨rfl, rfl⟩
theorem rightB_26 (n : Int) : rightB n = right26 n := rfl
theorem fit26_is [Nonempty Unit] (n bits : Int) : Calls Tryz.prog 18 #[.int .i64 n, .int .i64 bits] w fun e w' => e = .returned (.bool true) ∧ w = w' := by
 have HF := mFit_is (w := w) n bits
 have HA := r26Array_is (w := w) n
 have HR := r25Right_is (w := w) bits
 rw [rightB_26] at HR
 unfold fitG at HF
 cases ha : array26 n
 ·rw [ha] at HA
  simp only [ha, if_true] at HF
  clear HR
  go_enter Tryz.func18, Tryz.ntmps18
  go_wp2_with fail
  refine HF.mono ?_
  rintro e w' ⟨rfl, rfl⟩
  go_wp2_with fail
  refine HA.mono ?_
  rintro e w' ⟨rfl, rfl⟩
  go_wp2_with fail
  go_ret
  exact ⟨rfl, rfl⟩
 ·rw [ha] at HA
  cases hr : right26 bits
  ·rw [hr] at HR
   simp only [ha, hr, Bool.true_eq_false, if_false, if_true] at HF
   go_enter Tryz.func18, Tryz.ntmps18
   go_wp2_with fail
   refine HF.mono ?_
   rintro e w' ⟨rfl, rfl⟩
   go_wp2_with fail
   refine HA.mono ?_
   rintro e w' ⟨rfl, rfl⟩
   go_wp2_with fail
   refine HR.mono ?_
   rintro e w' ⟨rfl, rfl⟩
   go_wp2_with fail
   go_ret
   exact ⟨rfl, rfl⟩
  ·rw [hr] at HR
   obtain ⟨n', rfl, hn⟩ : ∃ n' : Nat, n = n' ∧ n' ≤ 256 := by
    unfold array26 at ha; simp at ha; exact ⟨n.toNat, by omega, by omega⟩
   obtain ⟨b', rfl, hb⟩ : ∃ b' : Nat, bits = b' ∧ b' ≤ 16 := by
    unfold right26 at hr; simp at hr; exact ⟨bits.toNat, by omega, by omega⟩
   simp only [ha, hr, Bool.true_eq_false, if_false, Int.toNat_natCast] at HF
   have HFT := r26Fits_is (w := w) n' b' hb
   generalize fitN n' b' = k at *
   clear ha hr
   go_enter Tryz.func18, Tryz.ntmps18
   go_wp2_with fail
   refine HF.mono ?_
   rintro e w' ⟨rfl, rfl⟩
   go_wp2_with fail
   refine HA.mono ?_
   rintro e w' ⟨rfl, rfl⟩
   go_wp2_with fail
   refine HR.mono ?_
   rintro e w' ⟨rfl, rfl⟩
   go_wp2_with fail
   refine HFT.mono ?_
   rintro e w' ⟨rfl, rfl⟩
   go_wp2_with fail
   go_ret
   exact ⟨rfl, rfl⟩
end
end Go.Proofs.YtehljgigebhddaaGreat
namespace Go.Ord
section
variable {P : Program} {l : List Oper} {ks : List Kd} {A : List Nat} {C : World → Prop} {Q : Act → World → Prop}
theorem St.three {R : List Nat} {a : Act} {w : World} (i j k : Nat) (Ri Rj Rk : List Nat) (oi oj ok : Oper) (hir : chkR l.toArray R [i, j, k] = true) (hil : l[i]? = some oi) (hjl : l[j]? = some oj) (hkl : l[k]? = some ok) (hci : chkB l.toArray ks R Ri i = true) (hcj : chkB l.toArray ks R Rj j = true) (hck : chkB l.toArray ks R Rk k = true)
  (h1 : ∀ K : Act → World → Prop, (∀ a w, C w → St P l ks A C Q Ri a w → K a w) → wpList P l.toArray (only K) [oi] a w)
  (h2 : ∀ K : Act → World → Prop, (∀ a w, C w → St P l ks A C Q Rj a w → K a w) → wpList P l.toArray (only K) [oj] a w)
  (h3 : ∀ K : Act → World → Prop, (∀ a w, C w → St P l ks A C Q Rk a w → K a w) → wpList P l.toArray (only K) [ok] a w) : St P l ks A C Q R a w := by
 intro hn hu hlt hs
 have hm : i ∈ R := (chkB_spec hci).1
 have hlen : R.length = R.length - 1 + 1 := by have := List.length_pos_of_mem hm; omega
 rw [hlen]
 refine branch (rs := [i, j, k]) (by unfold chkR at hir; simpa using hir) fun m hk => ?_
 simp only [List.mem_cons, List.not_mem_nil, or_false] at hk
 rcases hk with rfl | rfl | rfl
 ·exact ef_op _ oi hil hci h1 hn hu hlt hs
 ·exact ef_op _ oj hjl hcj h2 hn hu hlt hs
 ·exact ef_op _ ok hkl hck h3 hn hu hlt hs
end
end Go.Ord
namespace Go.Proofs.YtehljgigebhddaaGreat
open Go.RowKit Go.Mem Go.Aig
theorem IW.blk9 {w : World} {b n : Nat} {Ls : List WV} (h : blk w b (Ls.map WV.val)) (hn : Ls.length = n) (hs : ∀ x ∈ Ls, Sl w x.a x.l) (hm : ∀ x ∈ Ls, x.l.length ≤ 1000) : IW w (some ⟨b, 0, none⟩) n Ls :=
 ⟨hn, fun i x hx => ⟨b, 0, rfl, by rw [Nat.zero_add]; exact h.cell (by simp [hx])⟩, hs, hm⟩
theorem IW.row9 {w : World} {a : Option Addr} {n c : Nat} {Ls : List WV} (h : Go.Mem.row w 26 1 (.slice a n c) n (Ls.map WV.val)) (hn : Ls.length = n) (h1 : 1 ≤ n) (hs : ∀ x ∈ Ls, Sl w x.a x.l) (hm : ∀ x ∈ Ls, x.l.length ≤ 1000) : IW w a n Ls := by
 obtain ⟨b, c', e⟩ := h.parts (by omega)
 injection e with e1 e2 e3
 subst e1
 exact ⟨hn, fun i x hx => ⟨b, 0, rfl, by rw [Nat.zero_add]; exact row.at9 h (by simp [hx])⟩, hs, hm⟩
theorem IW.sv9 {w : World} {la : Option Addr} {nl : Nat} {Ls : List WV} (h : IW w la nl Ls) (hm : nl ≤ 1000) : Sv w la (Ls.map WV.val) :=
 ⟨fun i u hu => by
  rw [List.getElem?_map, Option.map_eq_some_iff] at hu
  obtain ⟨x, hx, rfl⟩ := hu
  exact h.cells i x hx, by rw [List.length_map, h.len]; omega⟩
theorem Sl.nil9 {w : World} {a : Option Addr} : Sl w a [] := ⟨fun i x hx => by simp at hx, by simp⟩
theorem fnvwrong261 : Fnv 275 := fnv_of Tryz.func275 (by simp [Tryz.f275]) (by simp [Tryz.f275])
theorem wrong261_is {w : World} {b : Nat} {ya : Option Addr} {n c : Nat} (h : w.cell? ⟨b, 3, none⟩ = some (.slice ya n c)) : Calls Tryz.prog 275 #[.pointer (some ⟨b, 0, none⟩)] w fun e w' => e = .returned (.bool (right26 n)) ∧ w = w' := by
 have hR := fun W => r25Right_is (w := W) (n : Int)
 rw [rightB_26] at hR
 have HR := Hi9 hR; clear hR
 go_enter Tryz.func275, Tryz.ntmps275
 go_wp2_with fail
 refine (HR.out _).mono ?_
 rintro e w1 ⟨rfl, rfl⟩
 go_wp2_with fail
 go_ret
 exact ⟨rfl, rfl⟩
theorem pcoL_two9 {la ma : Option Addr} {Ls Ms : List WV} {lc mc : Nat} : pcoL [(la, Ls.map WV.val, lc), (ma, Ms.map WV.val, mc)] = (Ls ++ Ms).map WV.val := by simp [pcoL]
theorem pco_two9 {w : World} {la ma : Option Addr} {Ls Ms : List WV} {lc mc nl nm b : Nat} (hL : IW w la nl Ls) (hM : IW w ma nm Ms) (hb : blk w b [.slice la nl lc, .slice ma nm mc]) : Pco w b [(la, Ls.map WV.val, lc), (ma, Ms.map WV.val, mc)] := by
 have key : ∀ {a : Option Addr} {n : Nat} {Xs : List WV}, IW w a n Xs → ∀ j u, (Xs.map WV.val)[j]? = some u → ∃ p, a = some p ∧ w.cell? (p.add j) = some u := fun h j u hu => by
  rw [List.getElem?_map, Option.map_eq_some_iff] at hu
  obtain ⟨x, hx, rfl⟩ := hu
  obtain ⟨b, o, e, hc⟩ := h.cells j x hx
  exact ⟨_, e, by rw [Addr.add_lit]; exact hc⟩
 have one : ∀ {Xs : List WV}, ∀ u ∈ Xs.map WV.val, u.oneCell' = true := fun u hu => by
  obtain ⟨x, _, rfl⟩ := List.mem_map.1 hu
  rfl
 refine ⟨fun k p l c hk => ?_, fun k p l c hk => ?_, fun k p l c hk => ?_⟩
 ·match k, hk with
  | 0, hk => cases hk; rw [List.length_map, hL.len]; exact hb.cell (i := 0) rfl
  | 1, hk => cases hk; rw [List.length_map, hM.len]; exact hb.cell (i := 1) rfl
 ·match k, hk with
  | 0, hk => cases hk; exact key hL
  | 1, hk => cases hk; exact key hM
 ·match k, hk with
  | 0, hk => cases hk; exact one
  | 1, hk => cases hk; exact one
theorem own_ap9 {w : World} {v : Value} {b : Nat} {xs : List Value} (hb : blk w b xs) (hlo : ∀ q ∈ v.ownBlock.toList, w.heap.size ≤ q) : ∀ q, v.ownBlock = some q → q ≠ b := fun q hq => by
 have h1 := hb.lt
 have h2 := hlo q (by simpa using hq)
 omega
theorem row_ap9 {w : World} {v : Value} {e : TypeId} {n : Nat} {xs : List Value} (h : row w e 1 v n xs) : ∀ q, v.ownBlock = some q → q ≠ w.heap.size := fun q hq => by
 have := (h.lt q hq).2
 omega
section
variable {w : World} {rb cap B0 : Nat} {G : Gra}
theorem wrong26_is (h : RG w rb cap G) (v : MxV) (hv : MxIn w v B0) (hxn : v.x.l.length ≤ 1000) (hyn : v.y.l.length ≤ 1000) (hgn : v.gs.l.length ≤ 1000) (hln : v.Ls.length ≤ 900) (hmn : v.Ms.length ≤ 1000) :
  Calls Tryz.prog 199 #[.agg #[.int .i64 G.most, .slice (some ⟨rb, 0, none⟩) G.nodes.length cap], .agg #[.int .u8 v.kind, .int .i64 v.C, v.x.val, v.y.val, .int .u32 v.N, v.gs.val, .slice v.la v.Ls.length v.lc, .slice v.ma v.Ms.length v.mc]] w fun e w' => e = .returned (.int .i64 (f26 (v.kind % 6) G v.a)) ∧ Ch [] w w' := by
 have hlt : v.kind % 6 < 6 := Nat.mod_lt _ (by omega)
 obtain ⟨K, hK⟩ : ∃ K, v.kind % 6 = K := ⟨_, rfl⟩
 rw [hK] at hlt ⊢
 have hki : (v.kind : Int) % 6 = K := by omega
 clear hK
 obtain ⟨kind, C, ⟨xa, xl, xc⟩, ⟨ya, yl, yc⟩, N, ⟨ga, gl, gc⟩, la, lc, Ls, ma, mc, Ms⟩ := v
 obtain ⟨hX, hY, hG, hL, hM, _⟩ := hv
 simp only [MxV.a, WV.val] at *
 obtain ⟨xn, hxl⟩ : ∃ n, n = xl.length := ⟨_, rfl⟩
 obtain ⟨yn, hyl⟩ : ∃ n, n = yl.length := ⟨_, rfl⟩
 obtain ⟨gn, hgl⟩ : ∃ n, n = gl.length := ⟨_, rfl⟩
 obtain ⟨nl, hll⟩ : ∃ n, n = Ls.length := ⟨_, rfl⟩
 obtain ⟨nm, hml⟩ : ∃ n, n = Ms.length := ⟨_, rfl⟩
 rw [← hxl] at hxn ⊢
 rw [← hyl] at hyn ⊢
 rw [← hgl] at hgn ⊢
 rw [← hll] at hln hL ⊢
 rw [← hml] at hmn hM ⊢
 have hcf : ∀ args w, (callFunc 275 args).run Tryz.prog w = .ok (.enter 275 args) w := fnvwrong261
 obtain ⟨RES, hRES⟩ : ∃ r, r = f26 K G ⟨C, xl, yl, N, gl, Ls.map WV.l, Ms.map WV.l⟩ := ⟨_, rfl⟩
 rw [← hRES]
 have hAr := fun W => r26Array_is (w := W) (nl : Int)
 have hs := hL.sl
 have hsm := hL.sm
 have hLlen := hL.len
 have HRES := Hi9 hRES; clear hRES
 have HX := Hi9 hX; clear hX
 have HY := Hi9 hY; clear hY
 have HG := Hi9 hG; clear hG
 have HL := Hi9 hL; clear hL
 have HM := Hi9 hM; clear hM
 have HR := Hi9 h; clear h
 have HXL := Hi9 hxl; clear hxl
 have HYL := Hi9 hyl; clear hyl
 have HGL := Hi9 hgl; clear hgl
 have HLL := Hi9 hll; clear hll
 have HML := Hi9 hml; clear hml hs hsm hLlen
 have HAR := Hi9 hAr; clear hAr
 go_enter Tryz.func199, Tryz.ntmps199
 go_upto_region 2 with fail
 refine wp_alw ?_
 intro W0 hW0
 have b2 : blk W0 w.heap.size [.int .i64 G.most, .slice (some ⟨rb, 0, none⟩) G.nodes.length cap] := by rw [hW0]; exact (blk.new' _ _ rfl).alloc _
 have b3 : blk W0 (w.heap.size + 1) [.int .u8 kind, .int .i64 C, .slice xa xn xc, .slice ya yn yc, .int .u32 N, .slice ga gn gc, .slice la nl lc, .slice ma nm mc] := by rw [hW0]; exact blk.new' _ _ (by simp)
 have hc0 : Ch [] w W0 := by rw [hW0]; exact ((Ch.refl _ _).alloc _).alloc _
 clear hW0
 have z0 := b2.cell (i := 0) rfl
 have z1 := b2.cell (i := 1) rfl
 have y0 := b3.cell (i := 0) rfl
 have y1 := b3.cell (i := 1) rfl
 have y2 := b3.cell (i := 2) rfl
 have y3 := b3.cell (i := 3) rfl
 have y5 := b3.cell (i := 5) rfl
 have y6 := b3.cell (i := 6) rfl
 have y7 := b3.cell (i := 7) rfl
 have B2 := Hi9 b2; clear b2
 have B3 := Hi9 b3; clear b3
 have HC0 := Hi9 hc0; clear hc0
 have HRT := fun (W : World) (hW : Ch [] W0 W) => wrong261_is (B3.out.ch hW (by simp) |>.cell (i := 3) rfl)
 have hK6 : K = 0 ∨ K = 1 ∨ K = 2 ∨ K = 3 ∨ K = 4 ∨ K = 5 := by omega
 clear hlt
 rcases hK6 with rfl | rfl | rfl | rfl | rfl | rfl
 ·have hk : (kind : Int) % 6 = 0 := by omega
  clear hki
  have y1a : (W0.alloc (.cells #[.slice xa xn xc, .slice ya yn yc] 26)).cell? ⟨w.heap.size + 1, 1, none⟩ = some (.int .i64 C) := (B3.out.ch ((Ch.refl [] W0).alloc _) (by simp)).cell (i := 1) rfl
  go_wp2_with fail
  refine calls_named fun W hW => ?_
  have hcB : Ch [] W0 W := by rw [hW]; exact ((Ch.refl _ _).alloc _).alloc _
  have hb8 : blk W W0.heap.size ([⟨xa, xl, xc⟩, ⟨ya, yl, yc⟩].map WV.val) := by rw [hW]; simp only [List.map_cons, List.map_nil, WV.val]; rw [← HXL.out, ← HYL.out]; exact (blk.new' _ _ rfl).alloc _
  have hb9 : blk W (W0.heap.size + 1) (intCells [C]) := by rw [hW]; exact blk.new' _ _ (by simp [intCells])
  clear hW
  have hcw := HC0.out.trans hcB (by simp)
  refine (r26Check_is (HR.out.ch hcw (by simp)) (Ls := [⟨xa, xl, xc⟩, ⟨ya, yl, yc⟩]) (nl := 2) (IW.blk9 hb8 rfl (fun x hx => by simp at hx; rcases hx with rfl | rfl; exact HX.out.ch hcw (by simp); exact HY.out.ch hcw (by simp)) (fun x hx => by have h1 := HXL.out; have h2 := HYL.out; simp at hx; rcases hx with rfl | rfl <;> simp only <;> omega)) (by omega) (by omega) (I := []) (R := [C]) 0 0 1 1 Sl.nil9 rfl (by omega) (Sl.blk9 hb9 (by simp)) rfl (by omega)).mono ?_
  rintro e w9 ⟨rfl, hc9⟩
  have HC9 := Hi9 hc9; clear hc9
  go_wp2_with fail
  go_ret
  exact ⟨by rw [HRES.out]; rfl, hcw.trans HC9.out (by simp)⟩
 ·have hk : (kind : Int) % 6 = 1 := by omega
  clear hki
  go_wp2_with fail
  refine calls_named fun W hW => ?_
  have hcB : Ch [] W0 W := by rw [hW]; exact (Ch.refl _ _).alloc _
  have hb8 : blk W W0.heap.size ([⟨ya, yl, yc⟩].map WV.val) := by rw [hW]; simp only [List.map_cons, List.map_nil, WV.val]; rw [← HYL.out]; exact blk.new' _ _ rfl
  clear hW
  have hcw := HC0.out.trans hcB (by simp)
  refine (r26Check_is (HR.out.ch hcw (by simp)) (Ls := [⟨ya, yl, yc⟩]) (nl := 1) (IW.blk9 hb8 rfl (fun x hx => by simp at hx; subst hx; exact HY.out.ch hcw (by simp)) (fun x hx => by have h2 := HYL.out; simp at hx; subst hx; simp only; omega)) (by omega) (by omega) (I := []) (R := []) 0 0 0 0 Sl.nil9 rfl (by omega) Sl.nil9 rfl (by omega)).mono ?_
  rintro e w9 ⟨rfl, hc9⟩
  have HC9 := Hi9 hc9; clear hc9
  go_wp2_with fail
  go_ret
  exact ⟨by rw [HRES.out]; rfl, hcw.trans HC9.out (by simp)⟩
 ·have hk : (kind : Int) % 6 = 2 := by omega
  clear hki
  obtain ⟨ar, har⟩ : ∃ b, b = array26 nl := ⟨_, rfl⟩
  rw [← har] at HAR
  cases ar
  ·have hres : RES = 261 := by rw [HRES.out]; unfold f26; simp only [List.length_map]; rw [← HLL.out, ← har]; rfl
   have HRES2 := Hi9 hres; clear hres har
   go_wp2_with fail
   refine (HAR.out _).mono ?_
   rintro e w1 ⟨rfl, rfl⟩
   go_wp2_with fail
   go_ret
   exact ⟨by rw [HRES2.out]; rfl, HC0.out⟩
  ·have h1 : 1 ≤ nl := (array26_yes har.symm).1
   have hres : RES = if right26 yn = false then 260 else chk26 G yl [] (Ls.map WV.l) := by rw [HRES.out]; unfold f26; simp only [List.length_map]; rw [← HLL.out, ← har, ← HYL.out]; simp
   have HRES2 := Hi9 hres; clear hres har
   go_wp2_with fail
   refine (HAR.out _).mono ?_
   rintro e w1 ⟨rfl, rfl⟩
   obtain ⟨rt, hrt⟩ : ∃ b, b = right26 yn := ⟨_, rfl⟩
   have hRT := HRT _ (Ch.refl [] _)
   rw [← hrt] at hRT
   have HRT1 := Hi9 hRT; clear hRT HRT
   cases rt
   ·have hres : RES = 260 := by rw [HRES2.out, ← hrt]; rfl
    have HRES3 := Hi9 hres; clear hres hrt
    go_wp2_with fail
    refine HRT1.out.mono ?_
    rintro e w2 ⟨rfl, rfl⟩
    go_wp2_with fail
    go_ret
    exact ⟨by rw [HRES3.out]; rfl, HC0.out⟩
   ·have hres : RES = chk26 G yl [] (Ls.map WV.l) := by rw [HRES2.out, ← hrt]; simp
    have HRES3 := Hi9 hres; clear hres hrt
    go_wp2_with fail
    refine HRT1.out.mono ?_
    rintro e w2 ⟨rfl, rfl⟩
    go_wp2_with fail
    refine (r26Check_is (HR.out.ch HC0.out (by simp)) (HL.out.ch HC0.out) (by omega) (by omega) (I := yl) (R := []) yn yc 0 0 (HY.out.ch HC0.out (by simp)) HYL.out.symm (by omega) Sl.nil9 rfl (by omega)).mono ?_
    rintro e w9 ⟨rfl, hc9⟩
    have HC9 := Hi9 hc9; clear hc9
    go_wp2_with fail
    go_ret
    exact ⟨by rw [HRES3.out]; rfl, HC0.out.trans HC9.out (by simp)⟩
 ·have hk : (kind : Int) % 6 = 3 := by omega
  clear hki
  obtain ⟨ar, har⟩ : ∃ b, b = array26 nl := ⟨_, rfl⟩
  rw [← har] at HAR
  cases ar
  ·have hres : RES = 261 := by rw [HRES.out]; unfold f26; simp only [List.length_map]; rw [← HLL.out, ← har]; rfl
   have HRES2 := Hi9 hres; clear hres har
   go_wp2_with fail
   refine (HAR.out _).mono ?_
   rintro e w1 ⟨rfl, rfl⟩
   go_wp2_with fail
   go_ret
   exact ⟨by rw [HRES2.out]; rfl, HC0.out⟩
  ·have h1 : 1 ≤ nl := (array26_yes har.symm).1
   have hres : RES = if right26 yn = false then 260 else chk26 G yl [C] (Ls.map WV.l ++ [xl]) := by rw [HRES.out]; unfold f26; simp only [List.length_map]; rw [← HLL.out, ← har, ← HYL.out]; simp
   have HRES2 := Hi9 hres; clear hres har
   go_wp2_with fail
   refine (HAR.out _).mono ?_
   rintro e w1 ⟨rfl, rfl⟩
   obtain ⟨rt, hrt⟩ : ∃ b, b = right26 yn := ⟨_, rfl⟩
   have hRT := HRT _ (Ch.refl [] _)
   rw [← hrt] at hRT
   have HRT1 := Hi9 hRT; clear hRT HRT
   cases rt
   ·have hres : RES = 260 := by rw [HRES2.out, ← hrt]; rfl
    have HRES3 := Hi9 hres; clear hres hrt
    go_wp2_with fail
    refine HRT1.out.mono ?_
    rintro e w2 ⟨rfl, rfl⟩
    go_wp2_with fail
    go_ret
    exact ⟨by rw [HRES3.out]; rfl, HC0.out⟩
   ·have hres : RES = chk26 G yl [C] (Ls.map WV.l ++ [xl]) := by rw [HRES2.out, ← hrt]; simp
    have HRES3 := Hi9 hres; clear hres hrt
    go_wp2_with fail
    refine HRT1.out.mono ?_
    rintro e w2 ⟨rfl, rfl⟩
    go_upto_region 18 with fail
    have hcl := fun (W : World) (hW : Ch [] W0 W) => CLintss_is nl lc HLL.out.symm ((HL.out.ch (HC0.out.trans hW (by simp))).sv9 (by omega)) (by omega)
    have HCL := Hi9 hcl; clear hcl
    have hfin := fun (W : World) (a7 : Option Addr) (c7 b9 : Nat) (hcw : Ch [] w W) (hrv : Go.Mem.row W 26 1 (.slice a7 (nl + 1) c7) (nl + 1) (Ls.map WV.val ++ [.slice xa xn xc])) (hb12 : blk W b9 [.int .i64 C]) => r26Check_is (HR.out.ch hcw (by simp)) (Ls := Ls ++ [⟨xa, xl, xc⟩]) (nl := nl + 1) (lc := c7) (IW.row9 (a := a7) (c := c7) (by rw [List.map_append]; simp only [List.map_cons, List.map_nil, WV.val]; rw [← HXL.out]; exact hrv) (by rw [List.length_append, ← HLL.out]; rfl) (by omega) (fun x hx => by rcases List.mem_append.1 hx with hx | hx; exact (HL.out.ch hcw).sl x hx; rw [List.mem_singleton.1 hx]; exact HX.out.ch hcw (by simp)) (fun x hx => by have h_ := HXL.out; rcases List.mem_append.1 hx with hx | hx; exact HL.out.sm x hx; rw [List.mem_singleton.1 hx]; simp only; omega)) (by omega) (by omega) (I := yl) (R := [C]) yn yc 1 1 (HY.out.ch hcw (by simp)) HYL.out.symm (by omega) (Sl.blk9 (b := b9) hb12 (by simp)) rfl (by omega)
    have HFIN := Hi9 hfin; clear hfin
    clear z0 z1 y0 y1 y2 y3 y5 y6 y7
    refine Ord.St.door (fun w' => Ch [] W0 w') [.ho, .fl, .ho, .ef, .fl, .ho, .ef, .ef, .fl, .ho, .fl, .ho, .ef, .ef, .fl] [0, 0, 2, 6, 0, 16, 48, 126, 0, 256, 0, 1024, 3072, 8191, 16383] [0, 1, 2, 3, 4, 5, 6, 7, 8, 9, 10, 11, 12, 13, 14] mixed (by kernel_rfl) rfl ?_
    obtain ⟨Wd, hWd⟩ : ∃ Wd, Wd = W0.drew := ⟨_, rfl⟩
    rw [← hWd]
    have hcur : Ch [] W0 Wd := by rw [hWd]; exact (Ch.refl _ _).drew
    clear hWd
    refine Ord.H9 ?_ 0 [1, 2, 3, 4, 5, 6, 7, 8, 9, 10, 11, 12, 13, 14] ?_ (fun K w' hw' hk => ?_) ?_
    rotate_left
    ·exact hcur
    ·have hq2 := B2.out.ch hw' (by simp); have hq3 := B3.out.ch hw' (by simp); have z0 := hq2.cell (i := 0) rfl; have z1 := hq2.cell (i := 1) rfl; have y1 := hq3.cell (i := 1) rfl; have y2 := hq3.cell (i := 2) rfl; have y3 := hq3.cell (i := 3) rfl; have y6 := hq3.cell (i := 6) rfl; go_step; exact hk
    (refine Ord.F9 ?_ (fun K w' hk => ?_) ?_; rotate_left; focus (go_step; exact hk))
    refine Ord.H9 ?_ 2 [3, 4, 5, 6, 7, 8, 9, 10, 11, 12, 13, 14] ?_ (fun K w' hw' hk => ?_) ?_
    rotate_left
    ·exact hcur
    ·have hq2 := B2.out.ch hw' (by simp); have hq3 := B3.out.ch hw' (by simp); have z0 := hq2.cell (i := 0) rfl; have z1 := hq2.cell (i := 1) rfl; have y1 := hq3.cell (i := 1) rfl; have y2 := hq3.cell (i := 2) rfl; have y3 := hq3.cell (i := 3) rfl; have y6 := hq3.cell (i := 6) rfl; go_step; exact hk
    refine Ord.G9 ?_ 4 [3, 5, 6, 7, 8, 9, 10, 11, 12, 13, 14] (fun K w' hk => ?_) ?_
    rotate_left
    ·go_step; exact hk
    refine Ord.H9 ?_ 5 [3, 6, 7, 8, 9, 10, 11, 12, 13, 14] ?_ (fun K w' hw' hk => ?_) ?_
    rotate_left
    ·exact hcur
    ·have hq2 := B2.out.ch hw' (by simp); have hq3 := B3.out.ch hw' (by simp); have z0 := hq2.cell (i := 0) rfl; have z1 := hq2.cell (i := 1) rfl; have y1 := hq3.cell (i := 1) rfl; have y2 := hq3.cell (i := 2) rfl; have y3 := hq3.cell (i := 3) rfl; have y6 := hq3.cell (i := 6) rfl; go_step; exact hk
    refine Ord.G9 ?_ 8 [3, 6, 7, 9, 10, 11, 12, 13, 14] (fun K w' hk => ?_) ?_
    rotate_left
    ·go_step; exact hk
    refine Ord.H9 ?_ 9 [3, 6, 7, 10, 11, 12, 13, 14] ?_ (fun K w' hw' hk => ?_) ?_
    rotate_left
    ·exact hcur
    ·have hq2 := B2.out.ch hw' (by simp); have hq3 := B3.out.ch hw' (by simp); have z0 := hq2.cell (i := 0) rfl; have z1 := hq2.cell (i := 1) rfl; have y1 := hq3.cell (i := 1) rfl; have y2 := hq3.cell (i := 2) rfl; have y3 := hq3.cell (i := 3) rfl; have y6 := hq3.cell (i := 6) rfl; go_step; exact hk
    refine Ord.G9 ?_ 10 [3, 6, 7, 11, 12, 13, 14] (fun K w' hk => ?_) ?_
    rotate_left
    ·go_step; exact hk
    refine Ord.H9 ?_ 11 [3, 6, 7, 12, 13, 14] ?_ (fun K w' hw' hk => ?_) ?_
    rotate_left
    ·exact hcur
    ·have hq2 := B2.out.ch hw' (by simp); have hq3 := B3.out.ch hw' (by simp); have z0 := hq2.cell (i := 0) rfl; have z1 := hq2.cell (i := 1) rfl; have y1 := hq3.cell (i := 1) rfl; have y2 := hq3.cell (i := 2) rfl; have y3 := hq3.cell (i := 3) rfl; have y6 := hq3.cell (i := 6) rfl; go_step; exact hk
    refine Ord.St.three 3 6 12 [6, 7, 12, 13, 14] [3, 7, 12, 13, 14] [3, 6, 7, 13, 14] _ _ _ (by kernel_rfl) rfl rfl rfl (by kernel_rfl) (by kernel_rfl) (by kernel_rfl) (fun K hK => ?_) (fun K hK => ?_) (fun K hK => ?_)
    ·go_wp2_with fail
     refine (HCL.out _ hcur).mono ?_
     rintro e w5 ⟨v, rfl, hrc, hlo, hc5⟩
     obtain ⟨va, vc, rfl⟩ := row.shape hrc
     have hoW : ∀ q, (Value.slice va nl vc).ownBlock = some q → W0.heap.size ≤ q := fun q hq => Nat.le_trans hcur.size (hlo q (by simpa using hq))
     try have hap := own_ap9 hb12 hlo
     try replace hb12 := hb12.ch hc5 (by simp)
     try replace hb6 := hb6.ch hc5 (by simp)
     replace hcur := hcur.trans hc5 (by simp)
     clear hlo hc5
     go_wp2_with fail
     refine ⟨rfl, hK _ _ ?_ ?_⟩
     ·exact hcur
     clear hK K
     refine Ord.St.two 6 12 [7, 12, 13, 14] [6, 7, 13, 14] _ _ (by kernel_rfl) rfl rfl (by kernel_rfl) (by kernel_rfl) (fun K hK => ?_) (fun K hK => ?_)
     ·go_wp2_with fail
      refine ⟨rfl, hK _ _ ?_ ?_⟩
      ·exact hcur.alloc _
      clear hK K
      refine Ord.St.alw ?_; intro Wn hWn
      have hb6 := alw_blk hWn
      try replace hb12 := hb12.ch (alw_ch hWn) (by simp)
      try replace hrc := hrc.ch (alw_ch hWn) (by simp)
      replace hcur := hcur.al9 hWn
      clear hWn
      refine Ord.St.two 7 12 [12, 13, 14] [7, 13, 14] _ _ (by kernel_rfl) rfl rfl (by kernel_rfl) (by kernel_rfl) (fun K hK => ?_) (fun K hK => ?_)
      ·go_wp2_with (at_builtin; go_loud (refine wpList_append_row slIntss9 rfl _ _ rfl (v := .slice va nl vc) (n := nl) (xs := Ls.map WV.val) rfl hrc (ad := ⟨_, 0, none⟩) (m := 1) (c := 1) (news := [.slice xa xn xc]) rfl rfl (news_blk hb6) (by simp [Value.oneCell']) (by omega) (by omega) ?_; intro v7 w7 hrv hC7 hf7; replace hcur : Ch [] W0 w7 := hcur.trans hC7 (fun k hk => .inr (hoW k (by simpa using hk))); try replace hb12 := hb12.ch hC7 (fun hk => hap _ (by simpa using hk) rfl)))
       refine ⟨rfl, hK _ _ ?_ ?_⟩
       ·exact hcur
       clear hK K
       clear hrc hoW hC7 hf7 hb6
       refine Ord.St.efC 12 [13, 14] _ rfl (by kernel_rfl) (fun K hK => ?_)
       go_wp2_with fail
       refine ⟨rfl, hK _ _ ?_ ?_⟩
       ·exact hcur.alloc _
       clear hK K
       refine Ord.St.alw ?_; intro Wn hWn
       have hb12 := alw_blk hWn
       try have hap := row_ap9 hrc
       try replace hrc := hrc.ch (alw_ch hWn) (by simp)
       try replace hrv := hrv.ch (alw_ch hWn) (by simp)
       try replace hb6 := hb6.ch (alw_ch hWn) (by simp)
       replace hcur := hcur.al9 hWn
       clear hWn
       refine Ord.St.ef 13 [14] _ rfl (by kernel_rfl) (fun K hK => ?_)
       obtain ⟨v7a, v7c, rfl⟩ := row.shape hrv
       have hcw := HC0.out.trans hcur (by simp)
       go_wp2_with fail
       refine (HFIN.out _ _ _ _ hcw hrv hb12).mono ?_
       rintro e w9 ⟨rfl, hc9⟩
       replace hcur := hcur.trans hc9 (by simp)
       clear hc9 hrv hb12
       go_wp2_with fail
       refine ⟨rfl, hK _ _ ?_⟩; clear hK K
       (refine Ord.F9 ?_ (fun K w' hk => ?_) ?_; rotate_left; focus (go_step; exact hk))
       refine Ord.St.nil ?_
       go_wp2_with fail
       go_ret
       exact ⟨by rw [HRES3.out]; rfl, HC0.out.trans hcur (by simp)⟩
      ·go_wp2_with fail
       refine ⟨rfl, hK _ _ ?_ ?_⟩
       ·exact hcur.alloc _
       clear hK K
       refine Ord.St.alw ?_; intro Wn hWn
       have hb12 := alw_blk hWn
       try have hap := row_ap9 hrc
       try replace hrc := hrc.ch (alw_ch hWn) (by simp)
       try replace hrv := hrv.ch (alw_ch hWn) (by simp)
       try replace hb6 := hb6.ch (alw_ch hWn) (by simp)
       replace hcur := hcur.al9 hWn
       clear hWn
       refine Ord.St.efC 7 [13, 14] _ rfl (by kernel_rfl) (fun K hK => ?_)
       go_wp2_with (at_builtin; go_loud (refine wpList_append_row slIntss9 rfl _ _ rfl (v := .slice va nl vc) (n := nl) (xs := Ls.map WV.val) rfl hrc (ad := ⟨_, 0, none⟩) (m := 1) (c := 1) (news := [.slice xa xn xc]) rfl rfl (news_blk hb6) (by simp [Value.oneCell']) (by omega) (by omega) ?_; intro v7 w7 hrv hC7 hf7; replace hcur : Ch [] W0 w7 := hcur.trans hC7 (fun k hk => .inr (hoW k (by simpa using hk))); try replace hb12 := hb12.ch hC7 (fun hk => hap _ (by simpa using hk) rfl)))
       refine ⟨rfl, hK _ _ ?_ ?_⟩
       ·exact hcur
       clear hK K
       clear hrc hoW hC7 hf7 hb6
       refine Ord.St.ef 13 [14] _ rfl (by kernel_rfl) (fun K hK => ?_)
       obtain ⟨v7a, v7c, rfl⟩ := row.shape hrv
       have hcw := HC0.out.trans hcur (by simp)
       go_wp2_with fail
       refine (HFIN.out _ _ _ _ hcw hrv hb12).mono ?_
       rintro e w9 ⟨rfl, hc9⟩
       replace hcur := hcur.trans hc9 (by simp)
       clear hc9 hrv hb12
       go_wp2_with fail
       refine ⟨rfl, hK _ _ ?_⟩; clear hK K
       (refine Ord.F9 ?_ (fun K w' hk => ?_) ?_; rotate_left; focus (go_step; exact hk))
       refine Ord.St.nil ?_
       go_wp2_with fail
       go_ret
       exact ⟨by rw [HRES3.out]; rfl, HC0.out.trans hcur (by simp)⟩
     ·go_wp2_with fail
      refine ⟨rfl, hK _ _ ?_ ?_⟩
      ·exact hcur.alloc _
      clear hK K
      refine Ord.St.alw ?_; intro Wn hWn
      have hb12 := alw_blk hWn
      try have hap := row_ap9 hrc
      try replace hrc := hrc.ch (alw_ch hWn) (by simp)
      try replace hrv := hrv.ch (alw_ch hWn) (by simp)
      try replace hb6 := hb6.ch (alw_ch hWn) (by simp)
      replace hcur := hcur.al9 hWn
      clear hWn
      refine Ord.St.efC 6 [7, 13, 14] _ rfl (by kernel_rfl) (fun K hK => ?_)
      go_wp2_with fail
      refine ⟨rfl, hK _ _ ?_ ?_⟩
      ·exact hcur.alloc _
      clear hK K
      refine Ord.St.alw ?_; intro Wn hWn
      have hb6 := alw_blk hWn
      try replace hb12 := hb12.ch (alw_ch hWn) (by simp)
      try replace hrc := hrc.ch (alw_ch hWn) (by simp)
      replace hcur := hcur.al9 hWn
      clear hWn
      refine Ord.St.efC 7 [13, 14] _ rfl (by kernel_rfl) (fun K hK => ?_)
      go_wp2_with (at_builtin; go_loud (refine wpList_append_row slIntss9 rfl _ _ rfl (v := .slice va nl vc) (n := nl) (xs := Ls.map WV.val) rfl hrc (ad := ⟨_, 0, none⟩) (m := 1) (c := 1) (news := [.slice xa xn xc]) rfl rfl (news_blk hb6) (by simp [Value.oneCell']) (by omega) (by omega) ?_; intro v7 w7 hrv hC7 hf7; replace hcur : Ch [] W0 w7 := hcur.trans hC7 (fun k hk => .inr (hoW k (by simpa using hk))); try replace hb12 := hb12.ch hC7 (fun hk => hap _ (by simpa using hk) rfl)))
      refine ⟨rfl, hK _ _ ?_ ?_⟩
      ·exact hcur
      clear hK K
      clear hrc hoW hC7 hf7 hb6
      refine Ord.St.ef 13 [14] _ rfl (by kernel_rfl) (fun K hK => ?_)
      obtain ⟨v7a, v7c, rfl⟩ := row.shape hrv
      have hcw := HC0.out.trans hcur (by simp)
      go_wp2_with fail
      refine (HFIN.out _ _ _ _ hcw hrv hb12).mono ?_
      rintro e w9 ⟨rfl, hc9⟩
      replace hcur := hcur.trans hc9 (by simp)
      clear hc9 hrv hb12
      go_wp2_with fail
      refine ⟨rfl, hK _ _ ?_⟩; clear hK K
      (refine Ord.F9 ?_ (fun K w' hk => ?_) ?_; rotate_left; focus (go_step; exact hk))
      refine Ord.St.nil ?_
      go_wp2_with fail
      go_ret
      exact ⟨by rw [HRES3.out]; rfl, HC0.out.trans hcur (by simp)⟩
    ·go_wp2_with fail
     refine ⟨rfl, hK _ _ ?_ ?_⟩
     ·exact hcur.alloc _
     clear hK K
     refine Ord.St.alw ?_; intro Wn hWn
     have hb6 := alw_blk hWn
     try replace hb12 := hb12.ch (alw_ch hWn) (by simp)
     try replace hrc := hrc.ch (alw_ch hWn) (by simp)
     replace hcur := hcur.al9 hWn
     clear hWn
     refine Ord.St.two 3 12 [7, 12, 13, 14] [3, 7, 13, 14] _ _ (by kernel_rfl) rfl rfl (by kernel_rfl) (by kernel_rfl) (fun K hK => ?_) (fun K hK => ?_)
     ·go_wp2_with fail
      refine (HCL.out _ hcur).mono ?_
      rintro e w5 ⟨v, rfl, hrc, hlo, hc5⟩
      obtain ⟨va, vc, rfl⟩ := row.shape hrc
      have hoW : ∀ q, (Value.slice va nl vc).ownBlock = some q → W0.heap.size ≤ q := fun q hq => Nat.le_trans hcur.size (hlo q (by simpa using hq))
      try have hap := own_ap9 hb12 hlo
      try replace hb12 := hb12.ch hc5 (by simp)
      try replace hb6 := hb6.ch hc5 (by simp)
      replace hcur := hcur.trans hc5 (by simp)
      clear hlo hc5
      go_wp2_with fail
      refine ⟨rfl, hK _ _ ?_ ?_⟩
      ·exact hcur
      clear hK K
      refine Ord.St.two 7 12 [12, 13, 14] [7, 13, 14] _ _ (by kernel_rfl) rfl rfl (by kernel_rfl) (by kernel_rfl) (fun K hK => ?_) (fun K hK => ?_)
      ·go_wp2_with (at_builtin; go_loud (refine wpList_append_row slIntss9 rfl _ _ rfl (v := .slice va nl vc) (n := nl) (xs := Ls.map WV.val) rfl hrc (ad := ⟨_, 0, none⟩) (m := 1) (c := 1) (news := [.slice xa xn xc]) rfl rfl (news_blk hb6) (by simp [Value.oneCell']) (by omega) (by omega) ?_; intro v7 w7 hrv hC7 hf7; replace hcur : Ch [] W0 w7 := hcur.trans hC7 (fun k hk => .inr (hoW k (by simpa using hk))); try replace hb12 := hb12.ch hC7 (fun hk => hap _ (by simpa using hk) rfl)))
       refine ⟨rfl, hK _ _ ?_ ?_⟩
       ·exact hcur
       clear hK K
       clear hrc hoW hC7 hf7 hb6
       refine Ord.St.efC 12 [13, 14] _ rfl (by kernel_rfl) (fun K hK => ?_)
       go_wp2_with fail
       refine ⟨rfl, hK _ _ ?_ ?_⟩
       ·exact hcur.alloc _
       clear hK K
       refine Ord.St.alw ?_; intro Wn hWn
       have hb12 := alw_blk hWn
       try have hap := row_ap9 hrc
       try replace hrc := hrc.ch (alw_ch hWn) (by simp)
       try replace hrv := hrv.ch (alw_ch hWn) (by simp)
       try replace hb6 := hb6.ch (alw_ch hWn) (by simp)
       replace hcur := hcur.al9 hWn
       clear hWn
       refine Ord.St.ef 13 [14] _ rfl (by kernel_rfl) (fun K hK => ?_)
       obtain ⟨v7a, v7c, rfl⟩ := row.shape hrv
       have hcw := HC0.out.trans hcur (by simp)
       go_wp2_with fail
       refine (HFIN.out _ _ _ _ hcw hrv hb12).mono ?_
       rintro e w9 ⟨rfl, hc9⟩
       replace hcur := hcur.trans hc9 (by simp)
       clear hc9 hrv hb12
       go_wp2_with fail
       refine ⟨rfl, hK _ _ ?_⟩; clear hK K
       (refine Ord.F9 ?_ (fun K w' hk => ?_) ?_; rotate_left; focus (go_step; exact hk))
       refine Ord.St.nil ?_
       go_wp2_with fail
       go_ret
       exact ⟨by rw [HRES3.out]; rfl, HC0.out.trans hcur (by simp)⟩
      ·go_wp2_with fail
       refine ⟨rfl, hK _ _ ?_ ?_⟩
       ·exact hcur.alloc _
       clear hK K
       refine Ord.St.alw ?_; intro Wn hWn
       have hb12 := alw_blk hWn
       try have hap := row_ap9 hrc
       try replace hrc := hrc.ch (alw_ch hWn) (by simp)
       try replace hrv := hrv.ch (alw_ch hWn) (by simp)
       try replace hb6 := hb6.ch (alw_ch hWn) (by simp)
       replace hcur := hcur.al9 hWn
       clear hWn
       refine Ord.St.efC 7 [13, 14] _ rfl (by kernel_rfl) (fun K hK => ?_)
       go_wp2_with (at_builtin; go_loud (refine wpList_append_row slIntss9 rfl _ _ rfl (v := .slice va nl vc) (n := nl) (xs := Ls.map WV.val) rfl hrc (ad := ⟨_, 0, none⟩) (m := 1) (c := 1) (news := [.slice xa xn xc]) rfl rfl (news_blk hb6) (by simp [Value.oneCell']) (by omega) (by omega) ?_; intro v7 w7 hrv hC7 hf7; replace hcur : Ch [] W0 w7 := hcur.trans hC7 (fun k hk => .inr (hoW k (by simpa using hk))); try replace hb12 := hb12.ch hC7 (fun hk => hap _ (by simpa using hk) rfl)))
       refine ⟨rfl, hK _ _ ?_ ?_⟩
       ·exact hcur
       clear hK K
       clear hrc hoW hC7 hf7 hb6
       refine Ord.St.ef 13 [14] _ rfl (by kernel_rfl) (fun K hK => ?_)
       obtain ⟨v7a, v7c, rfl⟩ := row.shape hrv
       have hcw := HC0.out.trans hcur (by simp)
       go_wp2_with fail
       refine (HFIN.out _ _ _ _ hcw hrv hb12).mono ?_
       rintro e w9 ⟨rfl, hc9⟩
       replace hcur := hcur.trans hc9 (by simp)
       clear hc9 hrv hb12
       go_wp2_with fail
       refine ⟨rfl, hK _ _ ?_⟩; clear hK K
       (refine Ord.F9 ?_ (fun K w' hk => ?_) ?_; rotate_left; focus (go_step; exact hk))
       refine Ord.St.nil ?_
       go_wp2_with fail
       go_ret
       exact ⟨by rw [HRES3.out]; rfl, HC0.out.trans hcur (by simp)⟩
     ·go_wp2_with fail
      refine ⟨rfl, hK _ _ ?_ ?_⟩
      ·exact hcur.alloc _
      clear hK K
      refine Ord.St.alw ?_; intro Wn hWn
      have hb12 := alw_blk hWn
      try have hap := row_ap9 hrc
      try replace hrc := hrc.ch (alw_ch hWn) (by simp)
      try replace hrv := hrv.ch (alw_ch hWn) (by simp)
      try replace hb6 := hb6.ch (alw_ch hWn) (by simp)
      replace hcur := hcur.al9 hWn
      clear hWn
      refine Ord.St.efC 3 [7, 13, 14] _ rfl (by kernel_rfl) (fun K hK => ?_)
      go_wp2_with fail
      refine (HCL.out _ hcur).mono ?_
      rintro e w5 ⟨v, rfl, hrc, hlo, hc5⟩
      obtain ⟨va, vc, rfl⟩ := row.shape hrc
      have hoW : ∀ q, (Value.slice va nl vc).ownBlock = some q → W0.heap.size ≤ q := fun q hq => Nat.le_trans hcur.size (hlo q (by simpa using hq))
      try have hap := own_ap9 hb12 hlo
      try replace hb12 := hb12.ch hc5 (by simp)
      try replace hb6 := hb6.ch hc5 (by simp)
      replace hcur := hcur.trans hc5 (by simp)
      clear hlo hc5
      go_wp2_with fail
      refine ⟨rfl, hK _ _ ?_ ?_⟩
      ·exact hcur
      clear hK K
      refine Ord.St.efC 7 [13, 14] _ rfl (by kernel_rfl) (fun K hK => ?_)
      go_wp2_with (at_builtin; go_loud (refine wpList_append_row slIntss9 rfl _ _ rfl (v := .slice va nl vc) (n := nl) (xs := Ls.map WV.val) rfl hrc (ad := ⟨_, 0, none⟩) (m := 1) (c := 1) (news := [.slice xa xn xc]) rfl rfl (news_blk hb6) (by simp [Value.oneCell']) (by omega) (by omega) ?_; intro v7 w7 hrv hC7 hf7; replace hcur : Ch [] W0 w7 := hcur.trans hC7 (fun k hk => .inr (hoW k (by simpa using hk))); try replace hb12 := hb12.ch hC7 (fun hk => hap _ (by simpa using hk) rfl)))
      refine ⟨rfl, hK _ _ ?_ ?_⟩
      ·exact hcur
      clear hK K
      clear hrc hoW hC7 hf7 hb6
      refine Ord.St.ef 13 [14] _ rfl (by kernel_rfl) (fun K hK => ?_)
      obtain ⟨v7a, v7c, rfl⟩ := row.shape hrv
      have hcw := HC0.out.trans hcur (by simp)
      go_wp2_with fail
      refine (HFIN.out _ _ _ _ hcw hrv hb12).mono ?_
      rintro e w9 ⟨rfl, hc9⟩
      replace hcur := hcur.trans hc9 (by simp)
      clear hc9 hrv hb12
      go_wp2_with fail
      refine ⟨rfl, hK _ _ ?_⟩; clear hK K
      (refine Ord.F9 ?_ (fun K w' hk => ?_) ?_; rotate_left; focus (go_step; exact hk))
      refine Ord.St.nil ?_
      go_wp2_with fail
      go_ret
      exact ⟨by rw [HRES3.out]; rfl, HC0.out.trans hcur (by simp)⟩
    ·go_wp2_with fail
     refine ⟨rfl, hK _ _ ?_ ?_⟩
     ·exact hcur.alloc _
     clear hK K
     refine Ord.St.alw ?_; intro Wn hWn
     have hb12 := alw_blk hWn
     try have hap := row_ap9 hrc
     try replace hrc := hrc.ch (alw_ch hWn) (by simp)
     try replace hrv := hrv.ch (alw_ch hWn) (by simp)
     try replace hb6 := hb6.ch (alw_ch hWn) (by simp)
     replace hcur := hcur.al9 hWn
     clear hWn
     refine Ord.St.two 3 6 [6, 7, 13, 14] [3, 7, 13, 14] _ _ (by kernel_rfl) rfl rfl (by kernel_rfl) (by kernel_rfl) (fun K hK => ?_) (fun K hK => ?_)
     ·go_wp2_with fail
      refine (HCL.out _ hcur).mono ?_
      rintro e w5 ⟨v, rfl, hrc, hlo, hc5⟩
      obtain ⟨va, vc, rfl⟩ := row.shape hrc
      have hoW : ∀ q, (Value.slice va nl vc).ownBlock = some q → W0.heap.size ≤ q := fun q hq => Nat.le_trans hcur.size (hlo q (by simpa using hq))
      try have hap := own_ap9 hb12 hlo
      try replace hb12 := hb12.ch hc5 (by simp)
      try replace hb6 := hb6.ch hc5 (by simp)
      replace hcur := hcur.trans hc5 (by simp)
      clear hlo hc5
      go_wp2_with fail
      refine ⟨rfl, hK _ _ ?_ ?_⟩
      ·exact hcur
      clear hK K
      refine Ord.St.efC 6 [7, 13, 14] _ rfl (by kernel_rfl) (fun K hK => ?_)
      go_wp2_with fail
      refine ⟨rfl, hK _ _ ?_ ?_⟩
      ·exact hcur.alloc _
      clear hK K
      refine Ord.St.alw ?_; intro Wn hWn
      have hb6 := alw_blk hWn
      try replace hb12 := hb12.ch (alw_ch hWn) (by simp)
      try replace hrc := hrc.ch (alw_ch hWn) (by simp)
      replace hcur := hcur.al9 hWn
      clear hWn
      refine Ord.St.efC 7 [13, 14] _ rfl (by kernel_rfl) (fun K hK => ?_)
      go_wp2_with (at_builtin; go_loud (refine wpList_append_row slIntss9 rfl _ _ rfl (v := .slice va nl vc) (n := nl) (xs := Ls.map WV.val) rfl hrc (ad := ⟨_, 0, none⟩) (m := 1) (c := 1) (news := [.slice xa xn xc]) rfl rfl (news_blk hb6) (by simp [Value.oneCell']) (by omega) (by omega) ?_; intro v7 w7 hrv hC7 hf7; replace hcur : Ch [] W0 w7 := hcur.trans hC7 (fun k hk => .inr (hoW k (by simpa using hk))); try replace hb12 := hb12.ch hC7 (fun hk => hap _ (by simpa using hk) rfl)))
      refine ⟨rfl, hK _ _ ?_ ?_⟩
      ·exact hcur
      clear hK K
      clear hrc hoW hC7 hf7 hb6
      refine Ord.St.ef 13 [14] _ rfl (by kernel_rfl) (fun K hK => ?_)
      obtain ⟨v7a, v7c, rfl⟩ := row.shape hrv
      have hcw := HC0.out.trans hcur (by simp)
      go_wp2_with fail
      refine (HFIN.out _ _ _ _ hcw hrv hb12).mono ?_
      rintro e w9 ⟨rfl, hc9⟩
      replace hcur := hcur.trans hc9 (by simp)
      clear hc9 hrv hb12
      go_wp2_with fail
      refine ⟨rfl, hK _ _ ?_⟩; clear hK K
      (refine Ord.F9 ?_ (fun K w' hk => ?_) ?_; rotate_left; focus (go_step; exact hk))
      refine Ord.St.nil ?_
      go_wp2_with fail
      go_ret
      exact ⟨by rw [HRES3.out]; rfl, HC0.out.trans hcur (by simp)⟩
     ·go_wp2_with fail
      refine ⟨rfl, hK _ _ ?_ ?_⟩
      ·exact hcur.alloc _
      clear hK K
      refine Ord.St.alw ?_; intro Wn hWn
      have hb6 := alw_blk hWn
      try replace hb12 := hb12.ch (alw_ch hWn) (by simp)
      try replace hrc := hrc.ch (alw_ch hWn) (by simp)
      replace hcur := hcur.al9 hWn
      clear hWn
      refine Ord.St.efC 3 [7, 13, 14] _ rfl (by kernel_rfl) (fun K hK => ?_)
      go_wp2_with fail
      refine (HCL.out _ hcur).mono ?_
      rintro e w5 ⟨v, rfl, hrc, hlo, hc5⟩
      obtain ⟨va, vc, rfl⟩ := row.shape hrc
      have hoW : ∀ q, (Value.slice va nl vc).ownBlock = some q → W0.heap.size ≤ q := fun q hq => Nat.le_trans hcur.size (hlo q (by simpa using hq))
      try have hap := own_ap9 hb12 hlo
      try replace hb12 := hb12.ch hc5 (by simp)
      try replace hb6 := hb6.ch hc5 (by simp)
      replace hcur := hcur.trans hc5 (by simp)
      clear hlo hc5
      go_wp2_with fail
      refine ⟨rfl, hK _ _ ?_ ?_⟩
      ·exact hcur
      clear hK K
      refine Ord.St.efC 7 [13, 14] _ rfl (by kernel_rfl) (fun K hK => ?_)
      go_wp2_with (at_builtin; go_loud (refine wpList_append_row slIntss9 rfl _ _ rfl (v := .slice va nl vc) (n := nl) (xs := Ls.map WV.val) rfl hrc (ad := ⟨_, 0, none⟩) (m := 1) (c := 1) (news := [.slice xa xn xc]) rfl rfl (news_blk hb6) (by simp [Value.oneCell']) (by omega) (by omega) ?_; intro v7 w7 hrv hC7 hf7; replace hcur : Ch [] W0 w7 := hcur.trans hC7 (fun k hk => .inr (hoW k (by simpa using hk))); try replace hb12 := hb12.ch hC7 (fun hk => hap _ (by simpa using hk) rfl)))
      refine ⟨rfl, hK _ _ ?_ ?_⟩
      ·exact hcur
      clear hK K
      clear hrc hoW hC7 hf7 hb6
      refine Ord.St.ef 13 [14] _ rfl (by kernel_rfl) (fun K hK => ?_)
      obtain ⟨v7a, v7c, rfl⟩ := row.shape hrv
      have hcw := HC0.out.trans hcur (by simp)
      go_wp2_with fail
      refine (HFIN.out _ _ _ _ hcw hrv hb12).mono ?_
      rintro e w9 ⟨rfl, hc9⟩
      replace hcur := hcur.trans hc9 (by simp)
      clear hc9 hrv hb12
      go_wp2_with fail
      refine ⟨rfl, hK _ _ ?_⟩; clear hK K
      (refine Ord.F9 ?_ (fun K w' hk => ?_) ?_; rotate_left; focus (go_step; exact hk))
      refine Ord.St.nil ?_
      go_wp2_with fail
      go_ret
      exact ⟨by rw [HRES3.out]; rfl, HC0.out.trans hcur (by simp)⟩
 ·have hk : (kind : Int) % 6 = 4 := by omega
  clear hki
  obtain ⟨ar, har⟩ : ∃ b, b = array26 nl := ⟨_, rfl⟩
  rw [← har] at HAR
  cases ar
  ·have hres : RES = 261 := by rw [HRES.out]; unfold f26; simp only [List.length_map]; rw [← HLL.out, ← har]; rfl
   have HRES2 := Hi9 hres; clear hres har
   go_wp2_with fail
   refine (HAR.out _).mono ?_
   rintro e w1 ⟨rfl, rfl⟩
   go_wp2_with fail
   go_ret
   exact ⟨by rw [HRES2.out]; rfl, HC0.out⟩
  ·have h1 : 1 ≤ nl := (array26_yes har.symm).1
   have hne : ((gn : Int) != (nl : Int) - 1) = !decide (gn + 1 = nl) := by
    by_cases h9 : gn + 1 = nl
    ·rw [decide_eq_true h9]; exact bne_eq_false_iff_eq.2 (by omega)
    ·rw [decide_eq_false h9]; exact bne_iff_ne.2 (by omega)
   by_cases h9 : gn + 1 = nl
   ·rw [decide_eq_true h9] at hne
    have hres : RES = chk26 G [] gl (Ls.map WV.l) := by rw [HRES.out]; unfold f26; simp only [List.length_map]; rw [← HLL.out, ← har, ← HGL.out]; simp [h9]
    have HRES2 := Hi9 hres; clear hres har h9
    go_wp2_with fail
    refine (HAR.out _).mono ?_
    rintro e w1 ⟨rfl, rfl⟩
    go_wp2_with fail
    refine (r26Check_is (HR.out.ch HC0.out (by simp)) (HL.out.ch HC0.out) (by omega) (by omega) (I := []) (R := gl) 0 0 gn gc Sl.nil9 rfl (by omega) (HG.out.ch HC0.out (by simp)) HGL.out.symm (by omega)).mono ?_
    rintro e w9 ⟨rfl, hc9⟩
    have HC9 := Hi9 hc9; clear hc9
    go_wp2_with fail
    go_ret
    exact ⟨by rw [HRES2.out]; rfl, HC0.out.trans HC9.out (by simp)⟩
   ·rw [decide_eq_false h9] at hne
    have hres : RES = 261 := by rw [HRES.out]; unfold f26; simp only [List.length_map]; rw [← HLL.out, ← har, ← HGL.out]; simp [h9]
    have HRES2 := Hi9 hres; clear hres har h9
    go_wp2_with fail
    refine (HAR.out _).mono ?_
    rintro e w1 ⟨rfl, rfl⟩
    go_wp2_with fail
    go_ret
    exact ⟨by rw [HRES2.out]; rfl, HC0.out⟩
 ·have hk : (kind : Int) % 6 = 5 := by omega
  clear hki
  obtain ⟨ar, har⟩ : ∃ b, b = array26 nl := ⟨_, rfl⟩
  rw [← har] at HAR
  cases ar
  ·have hres : RES = 261 := by rw [HRES.out]; unfold f26; simp only [List.length_map]; rw [← HLL.out, ← har]; rfl
   have HRES2 := Hi9 hres; clear hres har
   go_wp2_with fail
   refine (HAR.out _).mono ?_
   rintro e w1 ⟨rfl, rfl⟩
   go_wp2_with fail
   go_ret
   exact ⟨by rw [HRES2.out]; rfl, HC0.out⟩
  ·have h1 : 1 ≤ nl := (array26_yes har.symm).1
   have hne : ((nl : Int) != nm) = !decide (nl = nm) := by
    by_cases h9 : nl = nm
    ·rw [decide_eq_true h9]; exact bne_eq_false_iff_eq.2 (by omega)
    ·rw [decide_eq_false h9]; exact bne_iff_ne.2 (by omega)
   by_cases h9 : nl = nm
   ·rw [decide_eq_true h9] at hne
    have hres : RES = chk26 G [] [] (Ls.map WV.l ++ Ms.map WV.l) := by rw [HRES.out]; unfold f26; simp only [List.length_map]; rw [← HLL.out, ← har, ← HML.out]; simp [h9]
    have hnl2 := (array26_yes har.symm).2
    have HRES2 := Hi9 hres; clear hres har
    have H9 := Hi9 h9; clear h9
    go_wp2_with fail
    refine (HAR.out _).mono ?_
    rintro e w1 ⟨rfl, rfl⟩
    go_upto_region 25 with fail
    have hpco := fun (W : World) (hW : Ch [] W0 W) (b : Nat) (hb : blk W b [.slice la nl lc, .slice ma nm mc]) => pco_two9 (HL.out.ch (HC0.out.trans hW (by simp))) (HM.out.ch (HC0.out.trans hW (by simp))) hb
    have HPCO := Hi9 hpco; clear hpco
    clear z0 z1 y0 y1 y2 y3 y5 y6 y7
    refine Ord.St.door (fun w' => Ch [] W0 w') [.ho, .fl, .ho, .fl, .ho, .ef, .ef, .ef, .fl] [0, 0, 2, 0, 8, 30, 62, 127, 255] [0, 1, 2, 3, 4, 5, 6, 7, 8] mixed (by kernel_rfl) rfl ?_
    obtain ⟨Wd, hWd⟩ : ∃ Wd, Wd = W0.drew := ⟨_, rfl⟩
    rw [← hWd]
    have hcur : Ch [] W0 Wd := by rw [hWd]; exact (Ch.refl _ _).drew
    clear hWd
    refine Ord.H9 ?_ 0 [1, 2, 3, 4, 5, 6, 7, 8] ?_ (fun K w' hw' hk => ?_) ?_
    rotate_left
    ·exact hcur
    ·have hq2 := B2.out.ch hw' (by simp); have hq3 := B3.out.ch hw' (by simp); have z0 := hq2.cell (i := 0) rfl; have z1 := hq2.cell (i := 1) rfl; have y6 := hq3.cell (i := 6) rfl; have y7 := hq3.cell (i := 7) rfl; go_step; exact hk
    (refine Ord.F9 ?_ (fun K w' hk => ?_) ?_; rotate_left; focus (go_step; exact hk))
    refine Ord.H9 ?_ 2 [3, 4, 5, 6, 7, 8] ?_ (fun K w' hw' hk => ?_) ?_
    rotate_left
    ·exact hcur
    ·have hq2 := B2.out.ch hw' (by simp); have hq3 := B3.out.ch hw' (by simp); have z0 := hq2.cell (i := 0) rfl; have z1 := hq2.cell (i := 1) rfl; have y6 := hq3.cell (i := 6) rfl; have y7 := hq3.cell (i := 7) rfl; go_step; exact hk
    (refine Ord.F9 ?_ (fun K w' hk => ?_) ?_; rotate_left; focus (go_step; exact hk))
    refine Ord.H9 ?_ 4 [5, 6, 7, 8] ?_ (fun K w' hw' hk => ?_) ?_
    rotate_left
    ·exact hcur
    ·have hq2 := B2.out.ch hw' (by simp); have hq3 := B3.out.ch hw' (by simp); have z0 := hq2.cell (i := 0) rfl; have z1 := hq2.cell (i := 1) rfl; have y6 := hq3.cell (i := 6) rfl; have y7 := hq3.cell (i := 7) rfl; go_step; exact hk
    refine Ord.St.efC 5 [6, 7, 8] _ rfl (by kernel_rfl) (fun K hK => ?_)
    go_wp2_with fail
    refine ⟨rfl, hK _ _ ?_ ?_⟩
    ·exact hcur.alloc _
    clear hK K
    refine Ord.St.alw ?_; intro Wn hWn
    have hb5 := alw_blk hWn
    replace hcur := hcur.al9 hWn
    clear hWn
    refine Ord.St.efC 6 [7, 8] _ rfl (by kernel_rfl) (fun K hK => ?_)
    go_wp2_with fail
    refine (ConcatIts_is 2 2 (HPCO.out _ hcur _ hb5) rfl (by omega) ?_ ?_).mono ?_
    ·rw [pcoL_two9, List.length_map, List.length_append, ← HLL.out]; omega
    ·rw [pcoL_two9, List.length_map, List.length_append, ← HLL.out, ← HML.out]; omega
    rintro e w5 ⟨v, rfl, hrc, hlo, hc5⟩
    rw [pcoL_two9, List.length_map, List.length_append, ← HLL.out, ← HML.out] at hrc
    obtain ⟨va, vc, rfl⟩ := row.shape hrc
    replace hcur := hcur.trans hc5 (by simp)
    clear hlo hc5 hb5
    go_wp2_with fail
    refine ⟨rfl, hK _ _ ?_ ?_⟩
    ·exact hcur
    clear hK K
    refine Ord.St.ef 7 [8] _ rfl (by kernel_rfl) (fun K hK => ?_)
    have hcw := HC0.out.trans hcur (by simp)
    go_wp2_with fail
    refine (r26Check_is (HR.out.ch hcw (by simp)) (Ls := Ls ++ Ms) (nl := nl + nm) (IW.row9 hrc (by rw [List.length_append, ← HLL.out, ← HML.out]) (by omega) (fun x hx => by rcases List.mem_append.1 hx with hx | hx; exact (HL.out.ch hcw).sl x hx; exact (HM.out.ch hcw).sl x hx) (fun x hx => by rcases List.mem_append.1 hx with hx | hx; exact HL.out.sm x hx; exact HM.out.sm x hx)) (by omega) (by have := H9.out; omega) (I := []) (R := []) 0 0 0 0 Sl.nil9 rfl (by omega) Sl.nil9 rfl (by omega)).mono ?_
    rintro e w9 ⟨rfl, hc9⟩
    replace hcur := hcur.trans hc9 (by simp)
    clear hc9 hrc
    go_wp2_with fail
    refine ⟨rfl, hK _ _ ?_⟩; clear hK K
    (refine Ord.F9 ?_ (fun K w' hk => ?_) ?_; rotate_left; focus (go_step; exact hk))
    refine Ord.St.nil ?_
    go_wp2_with fail
    go_ret
    exact ⟨by rw [HRES2.out]; rfl, HC0.out.trans hcur (by simp)⟩
   ·rw [decide_eq_false h9] at hne
    have hres : RES = 261 := by rw [HRES.out]; unfold f26; simp only [List.length_map]; rw [← HLL.out, ← har, ← HML.out]; simp [h9]
    have HRES2 := Hi9 hres; clear hres har h9
    go_wp2_with fail
    refine (HAR.out _).mono ?_
    rintro e w1 ⟨rfl, rfl⟩
    go_wp2_with fail
    go_ret
    exact ⟨by rw [HRES2.out]; rfl, HC0.out⟩
end
end Go.Proofs.YtehljgigebhddaaGreat
namespace Go.Aig
def RF (k : Nat) (G : Gra) (X Y : List Nat) (n : Nat) : Mk × List Nat × Nat :=
 match k with
 | 0 => ((G, 0), X.map neg, 0)
 | 1 => ((subW X.length (G, 0) (List.replicate X.length 0) X).1, (subW X.length (G, 0) (List.replicate X.length 0) X).2, 0)
 | 2 => ((eachF (rop and) (G, 0) (X.zip Y)).1, (eachF (rop and) (G, 0) (X.zip Y)).2, 0)
 | 3 => ((eachF (rop rOr) (G, 0) (X.zip Y)).1, (eachF (rop rOr) (G, 0) (X.zip Y)).2, 0)
 | 4 => ((eachF (rop rXor) (G, 0) (X.zip Y)).1, (eachF (rop rXor) (G, 0) (X.zip Y)).2, 0)
 | 5 => ((sumW X.length (G, 0) (X.zip Y) 0).1, (sumW X.length (G, 0) (X.zip Y) 0).2, 0)
 | 6 => ((subW X.length (G, 0) X Y).1, (subW X.length (G, 0) X Y).2, 0)
 | 7 => ((negS (neF (G, 0) (X.zip Y))).1, [], (negS (neF (G, 0) (X.zip Y))).2)
 | 8 => ((neF (G, 0) (X.zip Y)).1, [], (neF (G, 0) (X.zip Y)).2)
 | 9 => ((ltF (G, 0) (X.zip Y)).1, [], (ltF (G, 0) (X.zip Y)).2)
 | 10 => ((negS (ltF (G, 0) (Y.zip X))).1, [], (negS (ltF (G, 0) (Y.zip X))).2)
 | 11 => ((Go.Aig.sAny (G, 0) X).1, [], (Go.Aig.sAny (G, 0) X).2)
 | _ => ((inF (G, 0) n).1, (inF (G, 0) n).2, 0)
end Go.Aig
namespace Go.Proofs.YtehljgigebhddaaGreat
open Go.RowKit Go.Mem Go.Aig
section
variable {w : World} {g : Nat} {G : Gra} {F : List Nat}
end
end Go.Proofs.YtehljgigebhddaaGreat
namespace Go.Aig
theorem node_tells {G : Gra} (h : Ok G) {n : Nat} {x : Nd} (hx : G.nodes[n]? = some x) : kindOf G.nodes ((2 * n : Nat) : Int) = x.k ∧ lOf G.nodes ((2 * n : Nat) : Int) = x.l ∧ rOf G.nodes ((2 * n : Nat) : Int) = x.r ∧ x.k ≤ 3 := by
 have hn : nodeAt G.nodes ((2 * n : Nat) : Int) = some x := by
  unfold nodeAt
  rw [if_pos (by omega), Int.toNat_natCast, show 2 * n / 2 = n by omega, hx]
 unfold kindOf lOf rOf
 rw [hn]
 refine ⟨rfl, ?_, ?_, ?_⟩
 ·show (if x.k = 3 then x.l else 0) = x.l
  by_cases h0 : n = 0
  ·subst h0; rw [h.wf.const] at hx; cases hx; rfl
  ·rcases h.wf.other n x hx (by omega) with e | e
   ·rw [e]; rfl
   ·rw [if_pos e.1]
 ·show (if x.k = 3 then x.r else 0) = x.r
  by_cases h0 : n = 0
  ·subst h0; rw [h.wf.const] at hx; cases hx; rfl
  ·rcases h.wf.other n x hx (by omega) with e | e
   ·rw [e]; rfl
   ·rw [if_pos e.1]
 ·by_cases h0 : n = 0
  ·subst h0; rw [h.wf.const] at hx; cases hx; decide
  ·rcases h.wf.other n x hx (by omega) with e | e
   ·rw [e]; decide
   ·omega
end Go.Aig
namespace Go.Proofs.YtehljgigebhddaaGreat
open Go.RowKit Go.Mem Go.Aig
section
variable {w : World} {g : Nat} {G : Gra} {F : List Nat}
theorem Room_j (h : GIn w g G F) : Calls Tryz.prog 202 #[.pointer (some ⟨g, 0, none⟩)] w fun e w' => e = .returned (.int .i64 ((G.most : Int) - G.nodes.length)) ∧ Ch [] w w' := by
 have hr := h.ok.room
 have hc := Room_g h
 rw [show ((G.most - G.nodes.length : Nat) : Int) = (G.most : Int) - G.nodes.length by omega] at hc
 exact hc
theorem Same23_is (h : GIn w g G F) {rb cap : Nat} (hr : RG w rb cap G) :
  Calls Tryz.prog 75 #[.pointer (some ⟨g, 0, none⟩), .agg #[.int .i64 G.most, .slice (some ⟨rb, 0, none⟩) G.nodes.length cap]] w fun e w' => e = .returned (.bool true) ∧ Ch [] w w' := by
 obtain ⟨hl, hp, hmo⟩ := hr.len
 have hle := hr.le
 have hmx := hr.mx
 have hml : (G.nodes.length : Int) ≤ G.most := by have := hr.ok.room; omega
 have htl := fun n x (hx : G.nodes[n]? = some x) => node_tells hr.ok hx
 have HTL := Hi9 htl; clear htl
 have H := Hi9 h; clear h
 have HR := Hi9 hr; clear hr
 go_enter Tryz.func75, Tryz.ntmps75
 go_upto_region 1 with fail
 refine wp_alw ?_
 intro W0 hW0
 have hc0 : Ch [] w W0 := by rw [hW0]; exact (Ch.refl _ _).alloc _
 have b3 : blk W0 w.heap.size [.int .i64 G.most, .slice (some ⟨rb, 0, none⟩) G.nodes.length cap] := by rw [hW0]; exact blk.new' (w := w) [.int .i64 G.most, .slice (some ⟨rb, 0, none⟩) G.nodes.length cap] 123 rfl
 clear hW0
 have hg0 := H.out.same hc0 (by simp)
 have hLen := Len_g (hg0.same (Ch.refl [] W0).drew (by simp))
 have hRoom := Room_j (hg0.same (Ch.refl [] W0).drew (by simp))
 have HLEN := Hi9 hLen; clear hLen
 have HROOM := Hi9 hRoom; clear hRoom hg0
 have y0 := b3.cell (i := 0) rfl
 have y1 := b3.cell (i := 1) rfl
 have BB3 := Hi9 b3; clear b3
 have HC0 := Hi9 hc0; clear hc0
 go_wp2_with fail
 have hcurd : Ch [] W0 W0.drew := (Ch.refl [] W0).drew
 refine Ord.St.door (fun w' => Ch [] W0 w') [.fl, .rd, .fl, .rd, .fl, .fl, .fl, .fl, .ef, .fl, .ho, .fl, .ho, .fl, .fl, .fl, .fl] [0, 1, 0, 4, 12, 31, 63, 127, 255, 127, 639, 127, 2175, 6271, 15999, 32767, 65535] [0, 1, 2, 3, 4, 5, 6, 7, 8, 9, 10, 11, 12, 13, 14, 15, 16] mixed (by kernel_rfl) rfl ?_
 (refine Ord.F9 ?_ (fun K w' hk => ?_) ?_; rotate_left; focus (go_step; exact hk))
 refine Ord.R9 ?_ 1 [2, 3, 4, 5, 6, 7, 8, 9, 10, 11, 12, 13, 14, 15, 16] (fun K hk => ?_) ?_
 rotate_left
 ·go_step; refine HLEN.out.mono ?_; rintro e w'' ⟨rfl, rfl⟩; exact hk
 (refine Ord.F9 ?_ (fun K w' hk => ?_) ?_; rotate_left; focus (go_step; exact hk))
 (refine Ord.Q9 ?_ (fun K hk => ?_) ?_; rotate_left; focus (go_step; exact hk))
 iterate 3 (refine Ord.F9 ?_ (fun K w' hk => ?_) ?_; rotate_left; focus (go_step; exact hk))
 first | (refine Ord.J9 ?_ 7 [8, 9, 10, 11, 12, 13, 14, 15, 16] ?_ (fun K w' hk => ?_) ?_; rotate_left; (first | rfl | (simp [Region.wanted, yielded, *]; done)); focus (go_step; exact hk)) | (refine Ord.S9 7 [8, 9, 10, 11, 12, 13, 14, 15, 16] ?_ (fun K hK => ?_); (first | rfl | (simp [Region.wanted, yielded, *]; done)); go_simp; refine hK _ ?_; clear hK K)
 first | (refine Ord.J9 ?_ 9 [8, 10, 11, 12, 13, 14, 15, 16] ?_ (fun K w' hk => ?_) ?_; rotate_left; (first | rfl | (simp [Region.wanted, yielded, *]; done)); focus (go_step; exact hk)) | (refine Ord.S9 9 [8, 10, 11, 12, 13, 14, 15, 16] ?_ (fun K hK => ?_); (first | rfl | (simp [Region.wanted, yielded, *]; done)); go_simp; refine hK _ ?_; clear hK K)
 refine Ord.St.ho2 (T' := ?_) 10 [8, 11, 12, 13, 14, 15, 16] _ _ rfl (by kernel_rfl) (by first | rfl | simp [Region.wanted, yielded, *]) rfl rfl rfl ?_ (fun K w' hw' hk => ?_) ?_
 rotate_left
 ·trivial
 ·have z0 := (BB3.out.ch hw' (by simp)).cell (i := 0) rfl; have z1 := (BB3.out.ch hw' (by simp)).cell (i := 1) rfl; go_step; exact hk
 first | (refine Ord.J9 ?_ 11 [8, 12, 13, 14, 15, 16] ?_ (fun K w' hk => ?_) ?_; rotate_left; (first | rfl | (simp [Region.wanted, yielded, *]; done)); focus (go_step; exact hk)) | (refine Ord.S9 11 [8, 12, 13, 14, 15, 16] ?_ (fun K hK => ?_); (first | rfl | (simp [Region.wanted, yielded, *]; done)); go_simp; refine hK _ ?_; clear hK K)
 refine Ord.St.ho2 (T' := ?_) 12 [8, 13, 14, 15, 16] _ _ rfl (by kernel_rfl) (by first | rfl | simp [Region.wanted, yielded, *]) rfl rfl rfl ?_ (fun K w' hw' hk => ?_) ?_
 rotate_left
 ·trivial
 ·have z0 := (BB3.out.ch hw' (by simp)).cell (i := 0) rfl; have z1 := (BB3.out.ch hw' (by simp)).cell (i := 1) rfl; go_step; exact hk
 first | (refine Ord.J9 ?_ 13 [8, 14, 15, 16] ?_ (fun K w' hk => ?_) ?_; rotate_left; (first | rfl | (simp [Region.wanted, yielded, *]; done)); focus (go_step; exact hk)) | (refine Ord.S9 13 [8, 14, 15, 16] ?_ (fun K hK => ?_); (first | rfl | (simp [Region.wanted, yielded, *]; done)); go_simp; refine hK _ ?_; clear hK K)
 first | (refine Ord.J9 ?_ 14 [8, 15, 16] ?_ (fun K w' hk => ?_) ?_; rotate_left; (first | rfl | (simp [Region.wanted, yielded, *]; done)); focus (go_step; exact hk)) | (refine Ord.S9 14 [8, 15, 16] ?_ (fun K hK => ?_); (first | rfl | (simp [Region.wanted, yielded, *]; done)); go_simp; refine hK _ ?_; clear hK K)
 refine Ord.St.efC 8 [15, 16] _ rfl (by kernel_rfl) (fun K hK => ?_)
 go_wp2_with fail
 refine HROOM.out.mono ?_
 rintro e w2 ⟨rfl, hc2⟩
 have hcur : Ch [] W0 w2 := (Ch.refl [] W0).drew.trans hc2 (by simp)
 have b3 := BB3.out.ch hcur (by simp)
 have x0 := b3.cell (i := 0) rfl
 have x1 := b3.cell (i := 1) rfl
 clear hcurd b3 y0 y1 hc2 HROOM HLEN
 go_wp2_with fail
 refine ⟨rfl, hK _ _ ?_ ?_⟩
 ·exact hcur
 clear hK K
 first | (refine Ord.J9 ?_ 15 [16] ?_ (fun K w' hk => ?_) ?_; rotate_left; (first | rfl | (simp [Region.wanted, yielded, *]; done)); focus (go_step; exact hk)) | (refine Ord.S9 15 [16] ?_ (fun K hK => ?_); (first | rfl | (simp [Region.wanted, yielded, *]; done)); go_simp; refine hK _ ?_; clear hK K)
 (refine Ord.F9 ?_ (fun K w' hk => ?_) ?_; rotate_left; focus (go_step; exact hk))
 refine Ord.St.nil ?_
 go_wp2_with fail
 have HC2 := Hi9 hcur; clear hcur x0 x1
 go_loopw [30] (fun i wr => ∃ k : Nat, k ≤ G.nodes.length ∧ i = .int .i64 k ∧ Ch [] w wr) (fun i _ => G.nodes.length - (intOf i).toNat)
 case atStart => exact ⟨0, by omega, rfl, HC0.out.trans HC2.out (by simp)⟩
 case round =>
  obtain ⟨k, hk, rfl, hc⟩ := hrel
  by_cases hlt : k < G.nodes.length
  ·obtain ⟨x, hx⟩ : ∃ x, G.nodes[k]? = some x := ⟨_, List.getElem?_eq_getElem hlt⟩
   obtain ⟨t1, t2, t3, t4⟩ := HTL.out k x hx
   have hrr := HR.out.ch hc (by simp)
   obtain ⟨d0, d1, d2⟩ := hrr.node hx
   have hcA : Ch [] w (wr.alloc (.cells #[.int .i64 x.k, .int .i64 x.l, .int .i64 x.r] 247)) := hc.alloc _
   have hg1 := H.out.same hcA (by simp)
   have hS := Sides_g hg1 ((2 * k : Nat) : Int) (by omega)
   rw [t2, t3, show ((2 * k : Nat) : Int) = 2 * (k : Int) by omega] at hS
   generalize isAndAt G.nodes (2 * (k : Int)) = ia at hS
   have hK := fun (W : World) (hW : Ch [] w W) => Kind_g (H.out.same hW (by simp)) ((2 * k : Nat) : Int) (by omega)
   rw [t1, show ((2 * k : Nat) : Int) = 2 * (k : Int) by omega] at hK
   have HS := Hi9 hS; clear hS
   have HK := Hi9 hK; clear hK
   have HCA := Hi9 hcA; clear hcA hc hg1 hrr t1 t2 t3 hx
   go_wp2_with fail
   refine HS.out.mono ?_
   rintro e w3 ⟨rfl, hc3⟩
   have b6 : blk w3 wr.heap.size [.int .i64 x.k, .int .i64 x.l, .int .i64 x.r] := (blk.new' (w := wr) [.int .i64 x.k, .int .i64 x.l, .int .i64 x.r] 247 (by simp)).ch hc3 (by simp)
   have hc13 := HCA.out.trans hc3 (by simp)
   have HKK := Hi9 (HK.out _ hc13.drew)
   have z0 := b6.cell (i := 0) rfl
   have z1 := b6.cell (i := 1) rfl
   have z2 := b6.cell (i := 2) rfl
   have HC13 := Hi9 hc13; clear hc13 hc3 b6 HS HK d0 d1 d2
   go_wp2_with fail
   refine Ord.St.door (fun _ => True) [.fl, .fl, .fl, .rd, .fl, .fl, .rd, .fl, .fl, .fl, .fl, .rd, .fl, .fl, .fl, .fl, .fl, .rd, .fl, .fl] [0, 0, 2, 7, 15, 0, 32, 127, 255, 511, 511, 1535, 4095, 8191, 16383, 32767, 32767, 98303, 262143, 524287] [0, 1, 2, 3, 4, 5, 6, 7, 8, 9, 10, 11, 12, 13, 14, 15, 16, 17, 18, 19] mixed (by kernel_rfl) rfl ?_
   iterate 3 (refine Ord.F9 ?_ (fun K w' hk => ?_) ?_; rotate_left; focus (go_step; exact hk))
   refine Ord.R9 ?_ 3 [4, 5, 6, 7, 8, 9, 10, 11, 12, 13, 14, 15, 16, 17, 18, 19] (fun K hk => ?_) ?_
   rotate_left
   ·go_step; refine HKK.out.mono ?_; rintro e w'' ⟨rfl, rfl⟩; exact hk
   iterate 2 (refine Ord.F9 ?_ (fun K w' hk => ?_) ?_; rotate_left; focus (go_step; exact hk))
   (refine Ord.Q9 ?_ (fun K hk => ?_) ?_; rotate_left; focus (go_step; exact hk))
   iterate 2 (refine Ord.F9 ?_ (fun K w' hk => ?_) ?_; rotate_left; focus (go_step; exact hk))
   first | (refine Ord.J9 ?_ 9 [10, 11, 12, 13, 14, 15, 16, 17, 18, 19] ?_ (fun K w' hk => ?_) ?_; rotate_left; (first | rfl | (simp [Region.wanted, yielded, *]; done)); focus (go_step; exact hk)) | (refine Ord.S9 9 [10, 11, 12, 13, 14, 15, 16, 17, 18, 19] ?_ (fun K hK => ?_); (first | rfl | (simp [Region.wanted, yielded, *]; done)); go_simp; refine hK _ ?_; clear hK K)
   first | (refine Ord.J9 ?_ 10 [11, 12, 13, 14, 15, 16, 17, 18, 19] ?_ (fun K w' hk => ?_) ?_; rotate_left; (first | rfl | (simp [Region.wanted, yielded, *]; done)); focus (go_step; exact hk)) | (refine Ord.S9 10 [11, 12, 13, 14, 15, 16, 17, 18, 19] ?_ (fun K hK => ?_); (first | rfl | (simp [Region.wanted, yielded, *]; done)); go_simp; refine hK _ ?_; clear hK K)
   first | (refine Ord.K9 ?_ 11 [12, 13, 14, 15, 16, 17, 18, 19] ?_ (fun K hk => ?_) ?_; rotate_left; (first | rfl | (simp [Region.wanted, yielded, *]; done)); focus (go_step; exact hk)) | (refine Ord.T9 11 [12, 13, 14, 15, 16, 17, 18, 19] ?_ (fun K hK => ?_); (first | rfl | (simp [Region.wanted, yielded, *]; done)); go_simp; refine hK _ ?_; clear hK K)
   first | (refine Ord.J9 ?_ 12 [13, 14, 15, 16, 17, 18, 19] ?_ (fun K w' hk => ?_) ?_; rotate_left; (first | rfl | (simp [Region.wanted, yielded, *]; done)); focus (go_step; exact hk)) | (refine Ord.S9 12 [13, 14, 15, 16, 17, 18, 19] ?_ (fun K hK => ?_); (first | rfl | (simp [Region.wanted, yielded, *]; done)); go_simp; refine hK _ ?_; clear hK K)
   iterate 2 (refine Ord.F9 ?_ (fun K w' hk => ?_) ?_; rotate_left; focus (go_step; exact hk))
   first | (refine Ord.J9 ?_ 15 [16, 17, 18, 19] ?_ (fun K w' hk => ?_) ?_; rotate_left; (first | rfl | (simp [Region.wanted, yielded, *]; done)); focus (go_step; exact hk)) | (refine Ord.S9 15 [16, 17, 18, 19] ?_ (fun K hK => ?_); (first | rfl | (simp [Region.wanted, yielded, *]; done)); go_simp; refine hK _ ?_; clear hK K)
   first | (refine Ord.J9 ?_ 16 [17, 18, 19] ?_ (fun K w' hk => ?_) ?_; rotate_left; (first | rfl | (simp [Region.wanted, yielded, *]; done)); focus (go_step; exact hk)) | (refine Ord.S9 16 [17, 18, 19] ?_ (fun K hK => ?_); (first | rfl | (simp [Region.wanted, yielded, *]; done)); go_simp; refine hK _ ?_; clear hK K)
   first | (refine Ord.K9 ?_ 17 [18, 19] ?_ (fun K hk => ?_) ?_; rotate_left; (first | rfl | (simp [Region.wanted, yielded, *]; done)); focus (go_step; exact hk)) | (refine Ord.T9 17 [18, 19] ?_ (fun K hK => ?_); (first | rfl | (simp [Region.wanted, yielded, *]; done)); go_simp; refine hK _ ?_; clear hK K)
   first | (refine Ord.J9 ?_ 18 [19] ?_ (fun K w' hk => ?_) ?_; rotate_left; (first | rfl | (simp [Region.wanted, yielded, *]; done)); focus (go_step; exact hk)) | (refine Ord.S9 18 [19] ?_ (fun K hK => ?_); (first | rfl | (simp [Region.wanted, yielded, *]; done)); go_simp; refine hK _ ?_; clear hK K)
   (refine Ord.F9 ?_ (fun K w' hk => ?_) ?_; rotate_left; focus (go_step; exact hk))
   refine Ord.St.nil ?_
   go_wp2_with fail
   go_roundw
   case rel => exact ⟨k + 1, by omega, by go_num, HC13.out.drew⟩
   case measure => simp [intOf]; omega
  ·have HC := Hi9 hc; clear hc
   go_wp2_with fail
   go_ret
   exact ⟨rfl, HC.out⟩
end
end Go.Proofs.YtehljgigebhddaaGreat
