/-
  Contracts of functions that MuxesMakes reaches, and plain facts (part G). Conditions: the hypotheses of each theorem.
-/
import Derived.Test.YtehljgigebhddaaGreatQF
import Derived.Lib.SmallJoins
namespace Go.Proofs.YtehljgigebhddaaGreat
open Go.RowKit Go.Mem Go.Aig
section
set_option maxRecDepth 100000 in
set_option maxHeartbeats 8000000 in
theorem act26_is {W w : World} {g rb cap : Nat} {G : Gra} {F : List Nat} (hbt : Both W w g rb cap G F) (v : MxV) (hm : MxK w v W.heap.size) (hb : MxB v) :
    Calls Tryz.prog 74 #[.pointer (some ⟨g, 0, none⟩), .agg #[.int .i64 G.most, .slice (some ⟨rb, 0, none⟩) G.nodes.length cap], .agg #[.int .u8 v.kind, .int .i64 v.C, .slice v.x.a v.x.l.length v.x.c, .slice v.y.a v.y.l.length v.y.c, .int .u32 v.N, .slice v.gs.a v.gs.l.length v.gs.c, .slice v.la v.Ls.length v.lc, .slice v.ma v.Ms.length v.mc]] w (ATo W w g rb F) := by
  obtain ⟨K, hK⟩ : ∃ K, v.kind % 6 = K := ⟨_, rfl⟩
  have hFw : ∀ q ∈ F, q < w.heap.size := hbt.gin.lt
  have hWw := hbt.ch.size
  have hrbw := hbt.rg.lt
  obtain ⟨hN, hC, hbx, hby, hbg, hbl, hbm, hxn, hyn, hgn, hln, hmn⟩ := hb
  have HM := Lib.hid hm; clear hm
  have HBX := Lib.hid hbx; clear hbx
  have HBY := Lib.hid hby; clear hby
  have HBG := Lib.hid hbg; clear hbg
  have HBL := Lib.hid hbl; clear hbl
  have HBM := Lib.hid hbm; clear hbm
  have HN := Lib.hid hN; clear hN
  have HCI := Lib.hid hC; clear hC
  have HBT0 := Lib.hid hbt; clear hbt
  have HFW := Lib.hid hFw; clear hFw
  have HKK := Lib.hid hK; clear hK
  go_enter Tryz.func74, Tryz.ntmps74
  go_upto_region 1 with fail
  refine wp_alw ?_
  intro W1 hW1
  have hb4 : blk W1 w.heap.size [.int .i64 G.most, .slice (some ⟨rb, 0, none⟩) G.nodes.length cap] := by rw [hW1]; exact ((blk.new' _ _ rfl).alloc _).alloc _
  have hb5 : blk W1 (w.heap.size + 1) [.int .u8 v.kind, .int .i64 v.C, .slice v.x.a v.x.l.length v.x.c, .slice v.y.a v.y.l.length v.y.c, .int .u32 v.N, .slice v.gs.a v.gs.l.length v.gs.c, .slice v.la v.Ls.length v.lc, .slice v.ma v.Ms.length v.mc] := by rw [hW1]; exact (blk.new' _ _ (by simp)).alloc _
  have hb6 : blk W1 (w.heap.size + 2) [.int .i64 0, .slice none 0 0] := by rw [hW1]; exact blk.new' _ _ (by simp)
  have hc01 : Ch [] w W1 := by rw [hW1]; exact (((Ch.refl _ _).alloc _).alloc _).alloc _
  clear hW1
  have hn3 : w.heap.size + 3 ≤ W1.heap.size := hb6.lt
  have hRX := fun (W' : World) (hc : Ch [] W1 W') => Refs23_cp v.x ((HM.out.ch (hc01.trans hc (by simp)) (by simp)).inn.x) hxn HBX.out
  have hRY := fun (W' : World) (hc : Ch [] W1 W') => Refs23_cp v.y ((HM.out.ch (hc01.trans hc (by simp)) (by simp)).inn.y) hyn HBY.out
  have hRG := fun (W' : World) (hc : Ch [] W1 W') => Refs23_cp v.gs ((HM.out.ch (hc01.trans hc (by simp)) (by simp)).inn.gs) hgn HBG.out
  have hRL := fun (W' : World) (hc : Ch [] W1 W') => lists26_is (lc := v.lc) ((HM.out.ch (hc01.trans hc (by simp)) (by simp)).inn.ls) (by omega) HBL.out
  have hRM := fun (W' : World) (hc : Ch [] W1 W') => lists26_is (lc := v.mc) ((HM.out.ch (hc01.trans hc (by simp)) (by simp)).inn.ms) (by omega) HBM.out
  have y2 := hb5.cell (i := 2) rfl
  have HRX := Lib.hid hRX; clear hRX
  have HRY := Lib.hid hRY; clear hRY
  have HRG := Lib.hid hRG; clear hRG
  have HRL := Lib.hid hRL; clear hRL
  have HRM := Lib.hid hRM; clear hRM
  have B4 := Lib.hid hb4; clear hb4
  have B5 := Lib.hid hb5; clear hb5
  have B6 := Lib.hid hb6; clear hb6
  have HC01 := Lib.hid hc01; clear hc01
  have hcur : Ch [] W1 W1.drew := (Ch.refl [] W1).drew
  refine Ord.St.door (fun w' => Ch [] W1 w') [.fl, .rd, .ef, .fl, .ho, .ef, .fl, .ho, .ef, .fl, .ho, .ef, .fl, .fl, .fl, .fl] [0, 1, 3, 0, 8, 31, 0, 64, 255, 0, 512, 2047, 4095, 8191, 16383, 32767] [0, 1, 2, 3, 4, 5, 6, 7, 8, 9, 10, 11, 12, 13, 14, 15] mixed (by kernel_rfl) rfl ?_
  refine Ord.St.fl2 (T' := ?_) 0 [1, 2, 3, 4, 5, 6, 7, 8, 9, 10, 11, 12, 13, 14, 15] _ _ rfl (by kernel_rfl) rfl rfl rfl rfl (fun K w' hk => ?_) ?_
  rotate_left
  · go_step; exact hk
  refine Ord.St.rd2 (T' := ?_) 1 [2, 3, 4, 5, 6, 7, 8, 9, 10, 11, 12, 13, 14, 15] _ _ rfl (by kernel_rfl) rfl rfl rfl rfl (fun K hk => ?_) ?_
  rotate_left
  · go_step; exact hk
  refine Ord.St.fl2 (T' := ?_) 3 [2, 4, 5, 6, 7, 8, 9, 10, 11, 12, 13, 14, 15] _ _ rfl (by kernel_rfl) rfl rfl rfl rfl (fun K w' hk => ?_) ?_
  rotate_left
  · go_step; exact hk
  refine Ord.St.ho2 (T' := ?_) 4 [2, 5, 6, 7, 8, 9, 10, 11, 12, 13, 14, 15] _ _ rfl (by kernel_rfl) rfl rfl rfl rfl ?_ (fun K w' hw' hk => ?_) ?_
  rotate_left
  · exact hcur
  · have hq5 := B5.out.ch hw' (by simp); have z3 := hq5.cell (i := 3) rfl; have z6 := hq5.cell (i := 6) rfl; have z7 := hq5.cell (i := 7) rfl; go_step; exact hk
  refine Ord.St.fl2 (T' := ?_) 6 [2, 5, 7, 8, 9, 10, 11, 12, 13, 14, 15] _ _ rfl (by kernel_rfl) rfl rfl rfl rfl (fun K w' hk => ?_) ?_
  rotate_left
  · go_step; exact hk
  refine Ord.St.ho2 (T' := ?_) 7 [2, 5, 8, 9, 10, 11, 12, 13, 14, 15] _ _ rfl (by kernel_rfl) rfl rfl rfl rfl ?_ (fun K w' hw' hk => ?_) ?_
  rotate_left
  · exact hcur
  · have hq5 := B5.out.ch hw' (by simp); have z3 := hq5.cell (i := 3) rfl; have z6 := hq5.cell (i := 6) rfl; have z7 := hq5.cell (i := 7) rfl; go_step; exact hk
  refine Ord.St.fl2 (T' := ?_) 9 [2, 5, 8, 10, 11, 12, 13, 14, 15] _ _ rfl (by kernel_rfl) rfl rfl rfl rfl (fun K w' hk => ?_) ?_
  rotate_left
  · go_step; exact hk
  refine Ord.St.ho2 (T' := ?_) 10 [2, 5, 8, 11, 12, 13, 14, 15] _ _ rfl (by kernel_rfl) rfl rfl rfl rfl ?_ (fun K w' hw' hk => ?_) ?_
  rotate_left
  · exact hcur
  · have hq5 := B5.out.ch hw' (by simp); have z3 := hq5.cell (i := 3) rfl; have z6 := hq5.cell (i := 6) rfl; have z7 := hq5.cell (i := 7) rfl; go_step; exact hk
  refine Ord.St.efC 2 [5, 8, 11, 12, 13, 14, 15] _ rfl (by kernel_rfl) (fun K hK => ?_)
  go_wp2_with fail
  refine (HRX.out _ hcur).mono ?_
  rintro e w2 ⟨pa, pc, rfl, hc2, hcx⟩
  replace hcur : Ch [] W1 w2 := hcur.trans hc2 (by simp)
  have HCX := Lib.hid (show CpW w2 (w.heap.size + 3) ⟨pa, v.x.l, pc⟩ from hcx.up (by simpa using hn3))
  clear hcx hc2 y2
  go_wp2_with fail
  refine ⟨rfl, hK _ _ ?_ ?_⟩
  · exact hcur
  clear hK K
  refine Ord.St.efC 5 [8, 11, 12, 13, 14, 15] _ rfl (by kernel_rfl) (fun K hK => ?_)
  go_wp2_with fail
  refine (HRY.out _ hcur).mono ?_
  rintro e w3 ⟨qa, qc, rfl, hc3, hcy⟩
  have HCY := Lib.hid (show CpW w3 (w.heap.size + 3) ⟨qa, v.y.l, qc⟩ from hcy.up (by have := hcur.size; omega))
  replace hcur : Ch [] W1 w3 := hcur.trans hc3 (by simp)
  replace HCX := Lib.hid (HCX.out.ch hc3 (by simp))
  clear hcy hc3
  go_wp2_with fail
  refine ⟨rfl, hK _ _ ?_ ?_⟩
  · exact hcur
  clear hK K
  refine Ord.St.efC 8 [11, 12, 13, 14, 15] _ rfl (by kernel_rfl) (fun K hK => ?_)
  go_wp2_with fail
  refine (HRL.out _ hcur).mono ?_
  rintro e w4 ⟨la2, lc2, ls2, rfl, hc4, hls, hcl⟩
  have HCL := Lib.hid (show CpA w4 (w.heap.size + 3) (.slice la2 v.Ls.length lc2) ls2 from hcl.up (by have := hcur.size; omega))
  replace hcur : Ch [] W1 w4 := hcur.trans hc4 (by simp)
  replace HCX := Lib.hid (HCX.out.ch hc4 (by simp))
  replace HCY := Lib.hid (HCY.out.ch hc4 (by simp))
  have HLS := Lib.hid hls
  clear hcl hc4 hls
  go_wp2_with fail
  refine ⟨rfl, hK _ _ ?_ ?_⟩
  · exact hcur
  clear hK K
  refine Ord.St.ef 11 [12, 13, 14, 15] _ rfl (by kernel_rfl) (fun K hK => ?_)
  go_wp2_with fail
  refine (HRM.out _ hcur).mono ?_
  rintro e w5 ⟨ma2, mc2, ms2, rfl, hc5, hms, hcm⟩
  have HCM := Lib.hid (show CpA w5 (w.heap.size + 3) (.slice ma2 v.Ms.length mc2) ms2 from hcm.up (by have := hcur.size; omega))
  replace hcur : Ch [] W1 w5 := hcur.trans hc5 (by simp)
  replace HCX := Lib.hid (HCX.out.ch hc5 (by simp))
  replace HCY := Lib.hid (HCY.out.ch hc5 (by simp))
  replace HCL := Lib.hid (HCL.out.ch hc5 (by simp))
  have HMS := Lib.hid hms
  clear hcm hc5 hms
  go_wp2_with fail
  refine ⟨rfl, hK _ _ ?_⟩; clear hK K
  refine Ord.St.fl2 (T' := ?_) 12 [13, 14, 15] _ _ rfl (by kernel_rfl) rfl rfl rfl rfl (fun K w' hk => ?_) ?_
  rotate_left
  · go_step; exact hk
  refine Ord.St.fl2 (T' := ?_) 13 [14, 15] _ _ rfl (by kernel_rfl) rfl rfl rfl rfl (fun K w' hk => ?_) ?_
  rotate_left
  · go_step; exact hk
  refine Ord.St.fl2 (T' := ?_) 14 [15] _ _ rfl (by kernel_rfl) rfl rfl rfl rfl (fun K w' hk => ?_) ?_
  rotate_left
  · go_step; exact hk
  refine Ord.St.fl2 (T' := ?_) 15 [] _ _ rfl (by kernel_rfl) rfl rfl rfl rfl (fun K w' hk => ?_) ?_
  rotate_left
  · go_step; exact hk
  refine Ord.St.nil ?_
  have y5 := (B5.out.ch hcur (by simp)).cell (i := 5) rfl
  have HCUR := Lib.hid hcur; clear hcur HRX HRY HRL HRM
  go_wp2_with fail
  refine (HRG.out _ HCUR.out).mono ?_
  rintro e w6 ⟨ga2, gc2, rfl, hc6, hcg⟩
  have hcur := HCUR.out.trans hc6 (by simp)
  have hcgu : CpW w6 (w.heap.size + 3) ⟨ga2, v.gs.l, gc2⟩ := hcg.up (by have := HCUR.out.size; omega)
  have hc06 := HC01.out.trans hcur (by simp)
  have hz6 := hc06.size
  have hz16 := hcur.size
  have hbt := HBT0.out.same hc06
  have hcx := HCX.out.ch hc6 (by simp)
  have hcy := HCY.out.ch hc6 (by simp)
  have hcl := HCL.out.ch hc6 (by simp)
  have hcm := HCM.out.ch hc6 (by simp)
  have hk6 : K26 W w.heap.size w6.heap.size v G rb cap ⟨pa, v.x.l, pc⟩ ⟨qa, v.y.l, qc⟩ ⟨ga2, v.gs.l, gc2⟩ (.slice la2 v.Ls.length lc2) (.slice ma2 v.Ms.length mc2) ls2 ms2 w6 :=
    ⟨B4.out.ch hcur (by simp), B5.out.ch hcur (by simp), B6.out.ch hcur (by simp), hbt.rg, HM.out.ch hc06 (by simp), hcx, hcy, hcgu, hcl, hcm, hcx.top, hcy.top, hcgu.top, hcl.top, hcm.top, fun z hz => (hcl.ws z hz).top, fun z hz => (hcm.ws z hz).top, by omega⟩
  have hFlt : ∀ k ∈ F, k < w.heap.size + 3 := fun k hk => by have := HFW.out k hk; omega
  have hlsn : ls2.length = v.Ls.length := by have := congrArg List.length HLS.out; simpa using this
  have hmsn : ms2.length = v.Ms.length := by have := congrArg List.length HMS.out; simpa using this
  have hPr := program26_is hbt.gin (hcx.wv hFlt) (hcy.wv hFlt) hcy.cap (hcgu.wv hFlt) hcgu.cap lc2 mc2 (hcl.wa hlsn hFlt) (hcm.wa hmsn hFlt) (by omega) v.C HCI.out v.N HN.out v.x.a v.x.l.length v.x.c v.y.a v.y.l.length v.y.c v.gs.a v.gs.l.length v.gs.c v.la v.Ls.length v.lc v.ma v.Ms.length v.mc v.kind
  rw [HLS.out, HMS.out, HKK.out] at hPr
  have hPE : P26 K G v.a = if f26 K G v.a ≠ 0 then (G, [], 0, f26 K G v.a) else fin26 G (RF26 K G v.a) := rfl
  replace hPr : Calls Tryz.prog 98 #[.pointer (some ⟨g, 0, none⟩), .agg #[.int .u8 v.kind, .int .i64 v.C, .slice v.x.a v.x.l.length v.x.c, .slice v.y.a v.y.l.length v.y.c, .int .u32 v.N, .slice v.gs.a v.gs.l.length v.gs.c, .slice v.la v.Ls.length v.lc, .slice v.ma v.Ms.length v.mc], .slice pa v.x.l.length pc, .slice qa v.y.l.length qc, .slice ga2 v.gs.l.length gc2, .slice la2 v.Ls.length lc2, .slice ma2 v.Ms.length mc2] w6 (PTo26 w6 g F (P26 K G v.a)) := hPr
  obtain ⟨⟨G1, ls1, r1, e1⟩, hPeq⟩ : ∃ B, B = P26 K G v.a := ⟨_, rfl⟩
  rw [← hPeq] at hPr hPE
  obtain ⟨fv, hfv⟩ : ∃ fv, fv = f26 K G v.a := ⟨_, rfl⟩
  rw [← hfv] at hPE
  have hq5 := hk6.b5x
  clear hcx hcy hcl hcm hcgu hcg hPeq y5 B4 B5 B6 HCX HCY HCL HCM HC01 HCUR HRG HM hc6 hcur
  have x0 := hq5.cell (i := 0) rfl
  have x1 := hq5.cell (i := 1) rfl
  have x2 := hq5.cell (i := 2) rfl
  have x3 := hq5.cell (i := 3) rfl
  have x4 := hq5.cell (i := 4) rfl
  have x5 := hq5.cell (i := 5) rfl
  have x6 := hq5.cell (i := 6) rfl
  have x7 := hq5.cell (i := 7) rfl
  have HBT := Lib.hid hbt; clear hbt hq5
  have HC06 := Lib.hid hc06; clear hc06
  have HK := Lib.hid hk6; clear hk6
  have HPR := Lib.hid hPr; clear hPr
  have HPE := Lib.hid hPE; clear hPE
  have HFV := Lib.hid hfv; clear hfv
  have HFL := Lib.hid hFlt; clear hFlt
  have HLSN := Lib.hid hlsn; clear hlsn
  have HMSN := Lib.hid hmsn; clear hmsn
  go_wp2_with fail
  refine HPR.out.mono ?_
  rintro e w7 ⟨vv, rfl, F', hg', hc', hF', hF2, vs, hrv, hvo, hws⟩
  obtain ⟨va, vc, rfl⟩ := row.shape hrv
  have hc' : Ch F w6 w7 := hc'
  simp only at hg' hrv hvo hws
  have hk7 := HK.out.ch hc' (fun k hk => ⟨HBT0.out.own k hk, .inl (HFW.out k hk), fun e => HBT0.out.ap (by rw [← e]; exact hk)⟩)
  have hz67 := hc'.size
  have hc07 : Ch F w w7 := (HC06.out.mono (by simp)).trans hc' (fun q hq => .inl hq)
  have hFn : ∀ q ∈ F', q ∈ F ∨ w6.heap.size ≤ q := hF'
  have hF7 : ∀ q ∈ F', q < w7.heap.size := hg'.lt
  have hap : rb ∉ F' := fun hin => by rcases hFn _ hin with e | e; exact HBT0.out.ap e; omega
  have hvp : ∀ q, (Value.slice va ls1.length vc).ownBlock = some q → w6.heap.size ≤ q ∧ q < w7.heap.size ∧ q ∉ F' := fun q hq => ⟨(hvo q hq).1, (hrv.lt q hq).2, (hvo q hq).2⟩
  have hrlo := HBT0.out.rlo
  have hq4 := hk7.b4
  have hq5 := hk7.b5x
  have hWr := wrong26_is hk7.rg v hk7.mx.inn hxn hyn hgn hln (by omega)
  rw [HKK.out, ← HFV.out] at hWr
  clear x0 x1 x2 x3 x4 x5 x6 x7 hF' hF2 hvo hc' HPR HK HBT
  have u0 := hq4.cell (i := 0) rfl
  have u1 := hq4.cell (i := 1) rfl
  have x0 := hq5.cell (i := 0) rfl
  have x1 := hq5.cell (i := 1) rfl
  have x2 := hq5.cell (i := 2) rfl
  have x3 := hq5.cell (i := 3) rfl
  have x4 := hq5.cell (i := 4) rfl
  have x5 := hq5.cell (i := 5) rfl
  have x6 := hq5.cell (i := 6) rfl
  have x7 := hq5.cell (i := 7) rfl
  clear hq4 hq5
  have HG := Lib.hid hg'; clear hg'
  have HK := Lib.hid hk7; clear hk7
  have HRV := Lib.hid hrv; clear hrv
  have HWS := Lib.hid hws; clear hws
  have HVP := Lib.hid hvp; clear hvp
  have HC07 := Lib.hid hc07; clear hc07
  have HFN := Lib.hid hFn; clear hFn
  have HF7 := Lib.hid hF7; clear hF7
  have HWR := Lib.hid hWr; clear hWr
  go_wp2_with fail
  refine HWR.out.mono ?_
  rintro e w8 ⟨rfl, hc8⟩
  have hk8 := HK.out.same hc8
  have hz78 := hc8.size
  have hq4 := hk8.b4
  clear u0 u1 x0 x1 x2 x3 x4 x5 x6 x7 HWR
  have u0 := hq4.cell (i := 0) rfl
  have u1 := hq4.cell (i := 1) rfl
  have HC8 := Lib.hid hc8; clear hc8
  have HK8 := Lib.hid hk8; clear hk8 hq4
  go_upto_region 6 with fail
  refine wp_alw ?_
  intro W9 hW9
  have hb17 : blk W9 w8.heap.size [.int .i64 G.most, .slice (some ⟨rb, 0, none⟩) G.nodes.length cap] := by rw [hW9]; exact blk.new' _ _ rfl
  have hc89 : Ch [] w8 W9 := by rw [hW9]; exact (Ch.refl _ _).alloc _
  clear hW9
  have hc79 := HC8.out.trans hc89 (by simp)
  have hk9 := HK8.out.same hc89
  have hg9 := HG.out.same hc79 (by simp)
  have hrv9 := HRV.out.ch hc79 (by simp)
  have hc09 := HC07.out.trans hc79 (by simp)
  have hz89 := hb17.lt
  have hq4 := hk9.b4
  have hq5 := hk9.b5x
  have hnil : e1 ≠ 0 → ls1 = [] ∧ G1 = G ∧ r1 = 0 := fun h0 => by
    have h9 := HPE.out
    by_cases hf : fv = 0
    · rw [if_neg (by simp [hf])] at h9
      unfold fin26 at h9
      split at h9
      · cases h9; exact ⟨rfl, rfl, rfl⟩
      · simp only [Prod.mk.injEq] at h9
        exact absurd h9.2.2.2 h0
    · rw [if_pos hf] at h9
      cases h9; exact ⟨rfl, rfl, rfl⟩
  have hLm : ∀ l ∈ v.a.L, l.length ≤ 1000 := fun l hl => by
    obtain ⟨z, hz, rfl⟩ := List.mem_map.1 (show l ∈ v.Ls.map WV.l from hl)
    exact hk9.mx.inn.ls.sm z hz
  have hsml : (∀ l ∈ ls1, l.length ≤ 1000) ∧ ls1.length ≤ 1000 := by
    have h9 := HPE.out
    have hs := RF26_small (k := K) (G := G) (a := v.a) hxn hLm (by rw [show v.a.L = v.Ls.map WV.l from rfl, List.length_map]; omega)
    split at h9
    · cases h9; exact ⟨by simp, by simp⟩
    · unfold fin26 at h9
      split at h9
      · cases h9; exact ⟨by simp, by simp⟩
      · simp only [Prod.mk.injEq] at h9
        rw [h9.2.1]; exact hs
  have hRef := fun (h0 : f26 (v.kind % 6) G v.a = 0) => reference26_is (B0 := W.heap.size) hk9.rg v HN.out hk9.mx.inn (by have := HC07.out.size; omega) h0
  rw [HKK.out, ← HFV.out] at hRef
  clear u0 u1
  have u0 := hq4.cell (i := 0) rfl
  have u1 := hq4.cell (i := 1) rfl
  have x0 := hq5.cell (i := 0) rfl
  have x1 := hq5.cell (i := 1) rfl
  have x2 := hq5.cell (i := 2) rfl
  have x3 := hq5.cell (i := 3) rfl
  have x4 := hq5.cell (i := 4) rfl
  have x5 := hq5.cell (i := 5) rfl
  have x6 := hq5.cell (i := 6) rfl
  have x7 := hq5.cell (i := 7) rfl
  have hWlo : W.heap.size ≤ w8.heap.size := by have := HC07.out.size; omega
  have h17F : w8.heap.size ∉ F' := fun hin => by have := HF7.out _ hin; omega
  have HWS9 := Lib.hid (show ∀ (i : Nat) (u : Value), vs[i]? = some u → ∃ l, ls1[i]? = some l ∧ row W9 52 1 u l.length (refsCells l) ∧ ∀ k, u.ownBlock = some k → w6.heap.size ≤ k ∧ k < w7.heap.size ∧ k ∉ F' ∧ (Value.slice va ls1.length vc).ownBlock ≠ some k from fun i u hu => by
    obtain ⟨l, k1, k2, k3⟩ := HWS.out i u hu
    exact ⟨l, k1, k2.ch hc79 (by simp), fun k hk => ⟨(k3 k hk).1, (k2.lt k hk).2, (k3 k hk).2⟩⟩)
  clear hq4 hq5 HWS HK HK8 HG HRV HC07 HC8 hc89 hc79 hLm
  have HK := Lib.hid hk9; clear hk9
  have HG := Lib.hid hg9; clear hg9
  have HRV := Lib.hid hrv9; clear hrv9
  have HC09 := Lib.hid hc09; clear hc09
  have B17 := Lib.hid hb17; clear hb17
  have HNIL := Lib.hid hnil; clear hnil
  have HSML := Lib.hid hsml; clear hsml
  have HREF := Lib.hid hRef; clear hRef
  obtain ⟨fz, hfz⟩ : ∃ b, b = ((fv : Int) == 0) := ⟨_, rfl⟩
  go_upto_if 59 with fail
  rw [← hfz]
  have HFZ := Lib.hid hfz; clear hfz
  go_cut [16, 18, 19] (fun f wn on wd => f = .int .i64 e1 ∧ on = .int .i64 r1 ∧ ArrR wd W.heap.size W9.heap.size wn ls1 ∧ ∃ rb2 cap2, blk wd w8.heap.size [.int .i64 G1.most, .slice (some ⟨rb2, 0, none⟩) G1.nodes.length cap2] ∧ RG wd rb2 cap2 G1 ∧ (rb2 = rb ∨ W9.heap.size ≤ rb2) ∧ Ch [w8.heap.size] W9 wd)
  case first =>
    cases fz
    · have h0 : fv ≠ 0 := fun e => by have := HFZ.out; rw [e] at this; simp at this
      have h9 := HPE.out
      rw [if_pos h0] at h9
      simp only [Prod.mk.injEq] at h9
      obtain ⟨a1, a2, a3, a4⟩ := h9
      subst a1 a2 a3 a4
      go_wp2_with fail
      go_meet
      case rel => exact ⟨rfl, rfl, ArrR.nil _ _ _, rb, cap, B17.out, HK.out.rg, .inl rfl, Ch.refl _ _⟩
    · have h0 : fv = 0 := by have := HFZ.out.symm; rw [beq_iff_eq] at this; omega
      have h9 := HPE.out
      rw [if_neg (by simp [h0])] at h9
      have hR := HREF.out h0
      obtain ⟨R, hRR⟩ : ∃ R, R = RF26 K G v.a := ⟨_, rfl⟩
      rw [← hRR] at hR h9
      obtain ⟨⟨G2, q2⟩, l2, b2⟩ := R
      simp only [WV.val] at hR
      have HR := Lib.hid hR; clear hR hRR HREF
      have H9 := Lib.hid h9; clear h9 h0
      go_wp2_with fail
      refine HR.out.mono ?_
      rintro e wr ⟨rb2, cap2, wv, rfl, hrg2, hch, hfr, harr⟩
      simp only at hrg2 harr
      have HRG2 := Lib.hid hrg2; clear hrg2
      have HCH := Lib.hid hch; clear hch
      have HAR := Lib.hid harr; clear harr HR
      clear u0 u1 x0 x1 x2 x3 x4 x5 x6 x7
      go_upto_region 8 with fail
      refine wp_alw ?_
      intro W10 hW10
      have hb20 : blk W10 wr.heap.size [.int .i64 G2.most, .slice (some ⟨rb2, 0, none⟩) G2.nodes.length cap2, .int .i64 q2] := by rw [hW10]; exact blk.new' _ _ rfl
      have hcA : Ch [] wr W10 := by rw [hW10]; exact (Ch.refl _ _).alloc _
      clear hW10
      have hc90 := HCH.out.trans hcA (by simp)
      have hb17 := B17.out.ch hc90 (by simp)
      have x0 := hb20.cell (i := 0) rfl
      have x1 := hb20.cell (i := 1) rfl
      have x2 := hb20.cell (i := 2) rfl
      have y0 := hb17.cell (i := 0) rfl
      have y1 := hb17.cell (i := 1) rfl
      have f0 := hb17.frozen (i := 0)
      have f1 := hb17.frozen (i := 1)
      have hrg2 := HRG2.out.ch hcA (by simp)
      have harr := HAR.out.ch hcA (by simp)
      have B17' := Lib.hid hb17; clear hb17 hb20
      have HC90 := Lib.hid hc90; clear hc90 hcA
      clear HRG2 HAR HCH
      have HRG2 := Lib.hid hrg2; clear hrg2
      have HAR := Lib.hid harr; clear harr
      by_cases hq : q2 = 0
      · have h9 := H9.out
        unfold fin26 at h9
        rw [if_neg (by simp [hq])] at h9
        simp only [Prod.mk.injEq] at h9
        obtain ⟨a1, a2, a3, a4⟩ := h9
        subst a1 a2 a3 a4
        subst hq
        clear H9
        go_wp2_with fail
        go_meet
        case rel =>
          have hcs := set2_ch (w := W10) (b := w8.heap.size) (u := .int .i64 G1.most) (v := .slice (some ⟨rb2, 0, none⟩) G1.nodes.length cap2) rfl
          exact ⟨rfl, rfl, HAR.out.ch hcs (fun k hk => by simp at hk; omega), rb2, cap2, (B17'.out.set (i := 0) _).set (i := 1) _, HRG2.out.ch hcs (by simp; omega), hfr, (HC90.out.mono (by simp)).trans hcs (fun k hk => .inl hk)⟩
      · have h9 := H9.out
        unfold fin26 at h9
        rw [if_pos hq] at h9
        simp only [Prod.mk.injEq] at h9
        obtain ⟨a1, a2, a3, a4⟩ := h9
        subst a1 a2 a3 a4
        have e5 : ((e1 : Int) == 0) = false := beq_eq_false_iff_ne.2 (by omega)
        go_wp2_with fail
        go_meet
        case rel =>
          exact ⟨rfl, rfl, ArrR.nil _ _ _, rb, cap, B17'.out, HK.out.rg.ch HC90.out (by simp), .inl rfl, HC90.out.mono (by simp)⟩
  case rest =>
    obtain ⟨rfl, rfl, harr, rb2, cap2, hb17, hrg2, hfr, hc9d⟩ := hcut
    obtain ⟨na, nc, hwn, _⟩ := id harr
    subst hwn
    have hai := harr.ai
    have hg := HG.out.same hc9d (fun q hq hq2 => h17F (by rw [List.mem_singleton.1 hq2] at hq; exact hq))
    have hrv := HRV.out.ch hc9d (fun k hk hin => by have := HVP.out k hk; simp at hin; omega)
    have hk := HK.out.ch hc9d (fun k hk => by simp at hk; subst hk; exact ⟨hWlo, .inr (by omega), by omega⟩)
    have hws := Lib.hid (show ∀ (i : Nat) (u : Value), vs[i]? = some u → ∃ l, ls1[i]? = some l ∧ row wc 52 1 u l.length (refsCells l) ∧ ∀ k, u.ownBlock = some k → w6.heap.size ≤ k ∧ k < w7.heap.size ∧ k ∉ F' ∧ (Value.slice va ls1.length vc).ownBlock ≠ some k from fun i u hu => by
      obtain ⟨l, k1, k2, k3⟩ := HWS9.out i u hu
      exact ⟨l, k1, k2.ch hc9d (fun k hk hin => by have := k3 k hk; simp at hin; omega), k3⟩)
    have hap2 : rb2 ∉ F' := fun hin => by rcases hfr with e | e; (rw [e] at hin; exact hap hin); (have := HF7.out _ hin; omega)
    have hc0d : Ch F w wc := HC09.out.trans hc9d (fun k hk => .inr (by simp at hk; omega))
    have hz9d := hc9d.size
    have hpai : AI wc va (ls1.map natInts) := fun i l hl => by
      rw [List.getElem?_map] at hl
      cases hx : ls1[i]? with
      | none => rw [hx] at hl; cases hl
      | some z =>
        rw [hx] at hl
        cases hl
        have hilt := (List.getElem?_eq_some_iff.1 hx).1
        obtain ⟨b, c', e⟩ := hrv.parts (by omega)
        injection e with q1 q2 q3
        subst q1
        have hvl : vs.length = ls1.length := by have := hrv.1; omega
        obtain ⟨u, hu⟩ : ∃ u, vs[i]? = some u := ⟨_, List.getElem?_eq_getElem (by omega)⟩
        obtain ⟨l, k1, k2, k3⟩ := hws.out i u hu
        rw [hx] at k1
        cases k1
        obtain ⟨xa, xc, rfl⟩ := row.shape k2
        have hsm := HSML.out.1 z (List.mem_of_getElem? hx)
        rw [refs_natInts] at k2
        exact ⟨b, 0, xa, xc, rfl, by rw [Nat.zero_add, natInts_len]; exact row.at9 hrv hu, Sl.of_ints k2 (by omega)⟩
    clear HK HG HRV HC09 HWS9 HREF B17 harr u0 u1 x0 x1 x2 x3 x4 x5 x6 x7 HFZ HPE hc9d
    have HSAME := Lib.hid (fun (W' : World) (hc : Ch [] wc W') => same26_yes (a := va) (b := na) (P := ls1.map natInts) ls1.length vc nc (by have := HSML.out.2; omega) (hpai.ch hc) (hai.ch hc) (List.length_map ..) (fun l hl => by
      obtain ⟨z, hz, rfl⟩ := List.mem_map.1 hl
      rw [natInts_len]; have := HSML.out.1 z hz; omega))
    have HSM := Lib.hid (fun (W' : World) (hc : Ch [] wc W') => Same23_is (hg.same hc (by simp)) (hrg2.ch hc (by simp)))
    have s0 := hb17.cell (i := 0) rfl
    have s1 := hb17.cell (i := 1) rfl
    clear hpai hai
    have HK := Lib.hid hk; clear hk
    have HG := Lib.hid hg; clear hg
    have HRV := Lib.hid hrv; clear hrv
    have HC0 := Lib.hid hc0d; clear hc0d
    have B17 := Lib.hid hb17; clear hb17
    have HRG2 := Lib.hid hrg2; clear hrg2
    go_upto_region 11 with fail
    go_cut [108] (fun t w2 => t = .bool false ∧ Ch [] wc w2)
    case first =>
      by_cases h0 : e1 = 0
      · subst h0
        go_wp2_with fail
        refine (HSAME.out _ (Ch.refl _ _)).mono ?_
        rintro e wa ⟨rfl, hca⟩
        have hb17 := B17.out.ch hca (by simp)
        have q0 := hb17.cell (i := 0) rfl
        have q1 := hb17.cell (i := 1) rfl
        have HCA := Lib.hid hca; clear hca hb17
        go_wp2_with fail
        refine (HSM.out _ HCA.out).mono ?_
        rintro e wb ⟨rfl, hcb⟩
        have HCB := Lib.hid hcb; clear hcb
        go_wp2_with fail
        go_meet
        case rel => exact ⟨rfl, HCA.out.trans HCB.out (by simp)⟩
      · obtain ⟨rfl, rfl, rfl⟩ := HNIL.out h0
        simp only [List.length_nil] at *
        have e4 : ((e1 : Int) != 0) = true := bne_iff_ne.2 (by omega)
        have e5 : ((e1 : Int) == 0) = false := beq_eq_false_iff_ne.2 (by omega)
        go_wp2_with fail
        refine (HSM.out _ (Ch.refl _ _)).mono ?_
        rintro e wb ⟨rfl, hcb⟩
        have HCB := Lib.hid hcb; clear hcb
        go_wp2_with fail
        go_meet
        case rel => exact ⟨rfl, HCB.out⟩
    case rest =>
      obtain ⟨rfl, hcd2⟩ := hcut
      have hk := HK.out.same hcd2
      have hg := HG.out.same hcd2 (by simp)
      have hrv := HRV.out.ch hcd2 (by simp)
      have hws2 := Lib.hid (show ∀ (i : Nat) (u : Value), vs[i]? = some u → ∃ l, ls1[i]? = some l ∧ row wc 52 1 u l.length (refsCells l) ∧ ∀ k, u.ownBlock = some k → w6.heap.size ≤ k ∧ k < w7.heap.size ∧ k ∉ F' ∧ (Value.slice va ls1.length vc).ownBlock ≠ some k from fun i u hu => by
        obtain ⟨l, k1, k2, k3⟩ := hws.out i u hu
        exact ⟨l, k1, k2.ch hcd2 (by simp), k3⟩)
      have hb17 := B17.out.ch hcd2 (by simp)
      have hrg2 := HRG2.out.ch hcd2 (by simp)
      have hc0 := HC0.out.trans hcd2 (by simp)
      have hz2 := hcd2.size
      have hvn : vs.length = ls1.length := by have := hrv.1; omega
      obtain ⟨FF, hFF⟩ : ∃ FF, FF = (Value.slice va ls1.length vc).ownBlock.toList ++ vs.flatMap (fun u => u.ownBlock.toList) := ⟨_, rfl⟩
      have hFFr : ∀ q ∈ FF, w6.heap.size ≤ q ∧ q < w7.heap.size ∧ q ∉ F' := fun q hq => by
        rw [hFF] at hq
        rcases List.mem_append.1 hq with hq | hq
        · exact HVP.out q (by simpa using hq)
        · obtain ⟨u, hu, hq⟩ := List.mem_flatMap.1 hq
          obtain ⟨i, hi⟩ := List.getElem?_of_mem hu
          obtain ⟨l, _, _, k3⟩ := hws2.out i u hi
          have := k3 q (by simpa using hq)
          exact ⟨this.1, this.2.1, this.2.2.1⟩
      have hFFv : ∀ q, (Value.slice va ls1.length vc).ownBlock = some q → q ∈ FF := fun q hq => by rw [hFF, hq]; simp
      have hFFu : ∀ (j : Nat) (u : Value), vs[j]? = some u → ∀ q ∈ u.ownBlock.toList, q ∈ FF := fun j u hu q hq => by
        rw [hFF]
        exact List.mem_append_right _ (List.mem_flatMap.2 ⟨u, List.mem_of_getElem? hu, hq⟩)
      clear HK HG HRV HC0 B17 HRG2 HSM HSAME hws hcd2 s0 s1 hFF
      have HK := Lib.hid hk; clear hk
      have HG := Lib.hid hg; clear hg
      have HRV := Lib.hid hrv; clear hrv
      have HC0 := Lib.hid hc0; clear hc0
      have B17 := Lib.hid hb17; clear hb17
      have HRG2 := Lib.hid hrg2; clear hrg2
      have HFR := Lib.hid hFFr; clear hFFr
      have HFV2 := Lib.hid hFFv; clear hFFv
      have HFU := Lib.hid hFFu; clear hFFu
      have HVN := Lib.hid hvn; clear hvn
      go_wp2_with fail
      go_loopw [112] (fun i wq => ∃ j : Nat, j ≤ ls1.length ∧ i = .int .i64 j ∧ Ch FF wc wq ∧ ShqB wc wq ∧ ∀ b, va = some ⟨b, 0, none⟩ → ∃ ys, blk wq b ys ∧ ∀ (k : Nat) (u : Value), j ≤ k → vs[k]? = some u → ys[k]? = some u) (fun i _ => ls1.length - (intOf i).toNat)
      case atStart => exact ⟨0, by omega, rfl, Ch.refl _ _, ShqB.refl _, fun b e => by
        have h9 := HRV.out
        rw [e] at h9
        obtain ⟨ys, k1, k2⟩ := row_blk9 h9
        exact ⟨ys, k1, fun k u _ hu => k2 k u hu⟩⟩
      case round =>
        obtain ⟨j, hj, rfl, hcv, hsh, hys⟩ := hrel
        by_cases hjn : j < ls1.length
        · obtain ⟨u, hu⟩ : ∃ u, vs[j]? = some u := ⟨_, List.getElem?_eq_getElem (by rw [HVN.out]; exact hjn)⟩
          obtain ⟨l, hli, hur, huo⟩ := hws2.out j u hu
          have hll9 := HSML.out.1 l (List.mem_of_getElem? hli)
          have hln9 := HSML.out.2
          clear hli
          obtain ⟨ua, uc, rfl⟩ := row.shape hur
          obtain ⟨b0, old0, rfl, hx1, hx2⟩ := hsh.cell HRV.out hjn; clear hx1 hx2 old0
          obtain ⟨ys, hyb, hye⟩ := hys b0 rfl
          have z0 := hyb.cell (hye j _ (Nat.le_refl _) hu)
          have hne : ∀ q ∈ (Value.slice ua l.length uc).ownBlock.toList, q ≠ b0 := fun q hq e => (huo q (by simpa using hq)).2.2.2 (by rw [e]; rfl)
          have hjy : ys[j]? = some (.slice ua l.length uc) := hye j _ (Nat.le_refl _) hu
          have hfu := HFU.out j _ hu
          have HJY := Lib.hid hjy; clear hjy
          have HFU1 := Lib.hid hfu; clear hfu
          have HNE := Lib.hid hne; clear hne
          have HYB := Lib.hid hyb; clear hyb
          have HYE := Lib.hid hye; clear hye hys
          have HUR := Lib.hid hur; clear hur huo
          have HCV := Lib.hid hcv; clear hcv
          have HSH := Lib.hid hsh; clear hsh hu
          go_wp2_with fail
          go_loopw [119] (fun i wq => ∃ k : Nat, k ≤ l.length ∧ i = .int .i64 k ∧ Ch (Value.slice ua l.length uc).ownBlock.toList wr wq ∧ ShqB wc wq) (fun i _ => l.length - (intOf i).toNat)
          case atStart => exact ⟨0, by omega, rfl, Ch.refl _ _, HSH.out⟩
          case round =>
            obtain ⟨k, hk, rfl, hcu, hsu⟩ := hrel
            by_cases hkn : k < l.length
            · obtain ⟨b, old, rfl, hcl, hfz⟩ := hsu.cell HUR.out hkn
              have HCU := Lib.hid hcu; clear hcu
              have HSU := Lib.hid hsu; clear hsu
              clear z0
              go_wp2_with fail
              go_roundw
              case rel => exact ⟨k + 1, by omega, by go_num, HCU.out.setCell (.inl (by simp)) _, HSU.out.set _ _ _⟩
              case measure => simp [intOf]; omega
            · have hyb2 := HYB.out.ch hcu (fun hin => HNE.out b0 hin rfl)
              have y0 := hyb2.cell HJY.out
              have f0 := hyb2.frozen (i := j)
              have HYB2 := Lib.hid hyb2; clear hyb2
              have HCU := Lib.hid hcu; clear hcu
              have HSU := Lib.hid hsu; clear hsu
              clear z0
              go_wp2_with fail
              go_roundw
              case rel =>
                refine ⟨j + 1, by omega, by go_num, (HCV.out.trans HCU.out (fun q hq => .inl (HFU1.out q hq))).setCell (.inl (HFV2.out b0 rfl)) _, HSU.out.set _ _ _, fun b e => ?_⟩
                injection e with e
                injection e with e
                subst e
                exact ⟨_, HYB2.out.set (i := j) _, fun k u hk hu => by rw [List.getElem?_set_ne (by omega)]; exact HYE.out k u (by omega) hu⟩
              case measure => simp [intOf]; omega
        · have hk := HK.out.ch hcv (fun k hk => by have := HFR.out k hk; exact ⟨by omega, .inr this.1, by omega⟩)
          have hg := HG.out.same hcv (fun q hq hq2 => (HFR.out q hq2).2.2 hq)
          have hrg2 := HRG2.out.ch hcv (fun hin => by have := HFR.out _ hin; rcases hfr with e | e <;> omega)
          have hb17 := B17.out.ch hcv (fun hin => by have := HFR.out _ hin; omega)
          have hc0 := HC0.out.trans hcv (fun q hq => .inr (by have := HFR.out q hq; omega))
          have hR1 := Refs23_cp v.x hk.mx.inn.x hxn HBX.out
          have hq5 := hk.b5x
          have x2 := hq5.cell (i := 2) rfl
          clear HK HG HRG2 B17 HC0 hsh hys hcv hq5 HRV hws2
          have HK := Lib.hid hk; clear hk
          have HG := Lib.hid hg; clear hg
          have HC0 := Lib.hid hc0; clear hc0
          have B17 := Lib.hid hb17; clear hb17
          have HRG2 := Lib.hid hrg2; clear hrg2
          have HR1 := Lib.hid hR1; clear hR1
          go_wp2_with fail
          refine HR1.out.mono ?_
          rintro e wa0 ⟨a1, c1, rfl, hca, hc1⟩
          have hda := (Ch.refl [] wr).trans hca (by simp)
          have hE := Eqref_same (w := wa0) pc c1 rfl ((HK.out.same hda).x.sl) hc1.sl
          simp only at hE
          clear x2
          have HE := Lib.hid hE; clear hE hc1 hca HR1
          have HDA := Lib.hid hda; clear hda
          go_wp2_with fail
          refine HE.out.mono ?_
          rintro e wb0 ⟨rfl, hcb⟩
          have hd := HDA.out.trans hcb (by simp)
          have hk := HK.out.same hd
          have hq5 := hk.b5x
          have x3 := hq5.cell (i := 3) rfl
          have hR1 := Refs23_cp v.y hk.mx.inn.y hyn HBY.out
          have HR1 := Lib.hid hR1; clear hR1 hk hq5 hcb HDA HE
          have HD1 := Lib.hid hd; clear hd
          go_wp2_with fail
          refine HR1.out.mono ?_
          rintro e wa1 ⟨a1, c1, rfl, hca, hc1⟩
          have hda := HD1.out.trans hca (by simp)
          have hE := Eqref_same (w := wa1) qc c1 rfl ((HK.out.same hda).y.sl) hc1.sl
          simp only at hE
          clear x3
          have HE := Lib.hid hE; clear hE hc1 hca HR1
          have HDA := Lib.hid hda; clear hda
          go_wp2_with fail
          refine HE.out.mono ?_
          rintro e wb1 ⟨rfl, hcb⟩
          have hd := HDA.out.trans hcb (by simp)
          have hk := HK.out.same hd
          have hq5 := hk.b5x
          have x5 := hq5.cell (i := 5) rfl
          have hR1 := Refs23_cp v.gs hk.mx.inn.gs hgn HBG.out
          have HR1 := Lib.hid hR1; clear hR1 hk hq5 hcb HDA HE
          have HD2 := Lib.hid hd; clear hd
          go_wp2_with fail
          refine HR1.out.mono ?_
          rintro e wa2 ⟨a1, c1, rfl, hca, hc1⟩
          have hda := HD2.out.trans hca (by simp)
          have hE := Eqref_same (w := wa2) gc2 c1 rfl ((HK.out.same hda).gs.sl) hc1.sl
          simp only at hE
          clear x5
          have HE := Lib.hid hE; clear hE hc1 hca HR1
          have HDA := Lib.hid hda; clear hda
          go_wp2_with fail
          refine HE.out.mono ?_
          rintro e wb2 ⟨rfl, hcb⟩
          have hd := HDA.out.trans hcb (by simp)
          have hk := HK.out.same hd
          have hq5 := hk.b5x
          have x6 := hq5.cell (i := 6) rfl
          have hai := hk.l.ai
          rw [HLS.out] at hai
          have hS := same26_yes v.Ls.length lc2 v.lc (by omega) hai hk.mx.inn.ls.ai (by simp) (fun l hl => by
            obtain ⟨z, hz, rfl⟩ := List.mem_map.1 hl
            have := hk.mx.inn.ls.sm z hz
            omega)
          have HS := Lib.hid hS; clear hS hk hq5 hcb HDA HE hai
          have HD3 := Lib.hid hd; clear hd
          go_wp2_with fail
          refine HS.out.mono ?_
          rintro e wx ⟨rfl, hcb⟩
          have hd := HD3.out.trans hcb (by simp)
          have hk := HK.out.same hd
          have hq5 := hk.b5x
          clear x6
          have x7 := hq5.cell (i := 7) rfl
          have hai := hk.m.ai
          rw [HMS.out] at hai
          have hS := same26_yes v.Ms.length mc2 v.mc (by omega) hai hk.mx.inn.ms.ai (by simp) (fun l hl => by
            obtain ⟨z, hz, rfl⟩ := List.mem_map.1 hl
            have := hk.mx.inn.ms.sm z hz
            omega)
          clear HS
          have HS := Lib.hid hS; clear hS hk hq5 hcb hai
          have HD4 := Lib.hid hd; clear hd
          go_wp2_with fail
          refine HS.out.mono ?_
          rintro e wz ⟨rfl, hcb⟩
          have hd := HD4.out.trans hcb (by simp)
          have hb6 := (HK.out.same hd).b6
          have hb17 := B17.out.ch hd (by simp)
          clear x7
          have s0 := hb17.cell (i := 0) rfl
          have s1 := hb17.cell (i := 1) rfl
          have v0 := hb6.cell (i := 0) rfl
          have v1 := hb6.cell (i := 1) rfl
          have f0 := hb6.frozen (i := 0)
          have f1 := hb6.frozen (i := 1)
          have h6l9 := hb6.lt
          have HD := Lib.hid hd; clear hd hcb hb6 hb17 HS
          go_wp2_with fail
          refine bodyPost_ret (v := .tuple #[.agg #[.int .i64 G1.most, .slice (some ⟨rb2, 0, none⟩) G1.nodes.length cap2], .bool true]) (by simp [results, Tryz.results74, go_sem, v0, v1]) rfl ?_
          have hcs := set2_ch (w := wz) (b := w.heap.size + 2) (u := .int .i64 G1.most) (v := .slice (some ⟨rb2, 0, none⟩) G1.nodes.length cap2) rfl
          have h6F : w.heap.size + 2 ∉ F' := fun hin => by rcases HFN.out _ hin with e | e; (have := HFW.out _ e; omega); omega
          exact ATo.of HBT0.out ((HG.out.same HD.out (by simp)).same hcs (fun q hq hq2 => h6F (by rw [List.mem_singleton.1 hq2] at hq; exact hq))) ((HRG2.out.ch HD.out (by simp)).ch hcs (by simp; rcases hfr with e | e <;> omega)) hap2 (fun q hq => (HFN.out q hq).imp id (fun e => by omega)) (by rcases hfr with e | e; exact .inl e; exact .inr (by omega)) ((HC0.out.trans HD.out (by simp)).trans hcs (fun q hq => .inr (by simp at hq; omega)))
end
end Go.Proofs.YtehljgigebhddaaGreat
namespace Go.Proofs.YtehljgigebhddaaGreat
open Go.RowKit Go.Mem Go.Aig
def IR (w : World) (la : Option Addr) (Ls : List WV) : Prop := ∀ (i : Nat) x, Ls[i]? = some x → ∃ b o, la = some ⟨b, o, none⟩ ∧ w.cell? ⟨b, o + i, none⟩ = some (.slice x.a x.l.length x.c) ∧ Sl w x.a x.l
theorem IR.ch {w w' : World} {la : Option Addr} {Ls : List WV} (h : IR w la Ls) (hc : Ch [] w w') : IR w' la Ls := fun i x hx => by
  obtain ⟨b, o, e, h1, h2⟩ := h i x hx
  exact ⟨b, o, e, (hc.cell (cell_lt h1) (by simp)).trans h1, h2.ch hc (by simp)⟩
structure MxR (w : World) (v : MxV) : Prop where
  kind : v.kind ≤ 255
  N : v.N < 4294967296
  C : I64' v.C
  x : Sl w v.x.a v.x.l
  y : Sl w v.y.a v.y.l
  gs : Sl w v.gs.a v.gs.l
  ls : IR w v.la v.Ls
  ms : IR w v.ma v.Ms
  bx : ∀ r ∈ v.x.l, -9223372036854775808 ≤ r ∧ r ≤ 9223372036854775807
  by_ : ∀ r ∈ v.y.l, -9223372036854775808 ≤ r ∧ r ≤ 9223372036854775807
  bg : ∀ r ∈ v.gs.l, -9223372036854775808 ≤ r ∧ r ≤ 9223372036854775807
  bl : ∀ x ∈ v.Ls, ∀ r ∈ x.l, -9223372036854775808 ≤ r ∧ r ≤ 9223372036854775807
  bm : ∀ x ∈ v.Ms, ∀ r ∈ x.l, -9223372036854775808 ≤ r ∧ r ≤ 9223372036854775807
  nl : v.Ls.length ≤ 9223372036854775807
  nm : v.Ms.length ≤ 9223372036854775807
theorem MxR.ch {w w' : World} {v : MxV} (h : MxR w v) (hc : Ch [] w w') : MxR w' v :=
  ⟨h.kind, h.N, h.C, h.x.ch hc (by simp), h.y.ch hc (by simp), h.gs.ch hc (by simp), h.ls.ch hc, h.ms.ch hc, h.bx, h.by_, h.bg, h.bl, h.bm, h.nl, h.nm⟩
structure Lt26 (v : MxV) : Prop where
  xn : v.x.l.length ≤ 20
  yn : v.y.l.length ≤ 20
  gn : v.gs.l.length ≤ 260
  ln : v.Ls.length ≤ 260
  mn : v.Ms.length ≤ 260
  lw : ∀ x ∈ v.Ls, x.l.length ≤ 20
  mw : ∀ x ∈ v.Ms, x.l.length ≤ 20
theorem MxR.mxb {w : World} {v : MxV} (h : MxR w v) (hl : Lt26 v) : MxB v :=
  ⟨h.N, h.C, h.bx, h.by_, h.bg, h.bl, h.bm, by have := hl.xn; omega, by have := hl.yn; omega, by have := hl.gn; omega, by have := hl.ln; omega, by have := hl.mn; omega⟩
theorem sl_low {w : World} {a : Option Addr} {l : List Int} (h : Sl w a l) (B0 : Nat) (hB : w.heap.size ≤ B0) : 0 < l.length → ∀ p, a = some p → p.block < B0 := fun h0 p hp => by
  have := sl_lt' h h0 p hp
  omega
theorem IR.iw {w : World} {la : Option Addr} {Ls : List WV} (h : IR w la Ls) (hs : ∀ x ∈ Ls, x.l.length ≤ 20) : IW w la Ls.length Ls :=
  ⟨rfl, fun i x hx => by
    obtain ⟨b, o, e, h1, _⟩ := h i x hx
    exact ⟨b, o, e, h1⟩, fun x hx => by
    obtain ⟨i, hi⟩ := List.getElem?_of_mem hx
    obtain ⟨_, _, _, _, h2⟩ := h i x hi
    exact h2, fun x hx => by have := hs x hx; omega⟩
theorem IR.low {w : World} {la : Option Addr} {Ls : List WV} (h : IR w la Ls) (B0 : Nat) (hB : w.heap.size ≤ B0) : 0 < Ls.length → ∀ p, la = some p → p.block < B0 := fun h0 p hp => by
  obtain ⟨b, o, e, h1, _⟩ := h 0 _ (List.getElem?_eq_getElem h0)
  rw [e] at hp
  cases hp
  have := cell_lt h1
  simp only at this ⊢
  omega
theorem MxR.mxk {w w' : World} {v : MxV} (h : MxR w v) (hl : Lt26 v) (hc : Ch [] w w') (B0 : Nat) (hB : w.heap.size ≤ B0) : MxK w' v B0 := by
  have hw : ∀ z ∈ v.Ls ++ v.Ms, 0 < z.l.length → ∀ p, z.a = some p → p.block < B0 := fun z hz => by
    have key : ∀ {la : Option Addr} {Ls : List WV}, IR w la Ls → z ∈ Ls → Sl w z.a z.l := fun h hz => by
      obtain ⟨i, hi⟩ := List.getElem?_of_mem hz
      obtain ⟨_, _, _, _, h2⟩ := h i z hi
      exact h2
    rcases List.mem_append.1 hz with hz | hz
    · exact sl_low (key h.ls hz) B0 hB
    · exact sl_low (key h.ms hz) B0 hB
  exact (⟨⟨h.x, h.y, h.gs, h.ls.iw hl.lw, h.ms.iw hl.mw, hw⟩, sl_low h.x B0 hB, sl_low h.y B0 hB, sl_low h.gs B0 hB, h.ls.low B0 hB, h.ms.low B0 hB⟩ : MxK w v B0).ch hc (by simp)
structure MxActS (w : World) (a : Option Addr) (n cap : Nat) (l : List MxV) : Prop where
  len : l.length = n
  le : n ≤ cap
  max : cap ≤ 9223372036854775807
  cells : ∀ (i : Nat) (x : MxV), l[i]? = some x → ∃ b o, a = some ⟨b, o, none⟩ ∧ ∀ (j : Nat) u, x.cells[j]? = some u → w.cell? ⟨b, o + i * 8 + j, none⟩ = some u
  ok : ∀ x ∈ l, MxR w x
theorem MxActS.ch {w w' : World} {a : Option Addr} {n cap : Nat} {l : List MxV} (h : MxActS w a n cap l) (hc : Ch [] w w') : MxActS w' a n cap l :=
  ⟨h.len, h.le, h.max, fun i x hx => by
    obtain ⟨b, o, e, hcl⟩ := h.cells i x hx
    exact ⟨b, o, e, fun j u hu => (hc.cell (cell_lt (hcl j u hu)) (by simp)).trans (hcl j u hu)⟩, fun x hx => (h.ok x hx).ch hc⟩
section
variable {w : World}
set_option maxRecDepth 100000 in
set_option maxHeartbeats 8000000 in
theorem makes26_no (M : Int) (N : Nat) (hM : M < 1 ∨ 65536 < M) (a : Option Addr) (n cap : Nat) : Calls Tryz.prog 16 #[.agg #[.int .i64 M, .int .u8 N], .slice a n cap] w fun e w' => e = .returned (.bool true) ∧ Ch [] w w' := by
  have hB := fun W => Begin23_no W M N hM
  clear hM
  go_enter Tryz.func16, Tryz.ntmps16
  go_wp2_with fail
  refine calls_named fun W hW => ?_
  have hc : Ch [] w W := by rw [hW]; exact (Ch.refl _ _).alloc _
  clear hW
  refine (hB W).mono ?_
  rintro e w1 ⟨rfl, hc1⟩
  have HC := Lib.hid (hc.trans hc1 (by simp)); clear hc hc1 hB
  go_wp2_with fail
  go_ret
  exact ⟨rfl, HC.out.alloc _⟩
set_option maxRecDepth 100000 in
set_option maxHeartbeats 8000000 in
theorem makes26_yes (M N : Nat) (h1 : 1 ≤ M) (h2 : M ≤ 65536) (hN : N ≤ 255) {a : Option Addr} {n cap : Nat} {l : List MxV} (hS : MxActS w a n cap l) (hfew : ∀ x ∈ l, Lt26 x) :
    Calls Tryz.prog 16 #[.agg #[.int .i64 M, .int .u8 N], .slice a n cap] w fun e w' => e = .returned (.bool true) ∧ Ch [] w w' := by
  have hB := fun W => Begin23_yes W M N h1 h2 hN
  have hlen := hS.len
  have hle := hS.le
  have hmx := hS.max
  have HB := Lib.hid hB; clear hB
  have HS := Lib.hid hS; clear hS
  have HFEW := Lib.hid hfew; clear hfew
  have HLEN := Lib.hid hlen; clear hlen
  go_enter Tryz.func16, Tryz.ntmps16
  go_wp2_with fail
  refine calls_named fun W hW => ?_
  have hc0 : Ch [] w W := by rw [hW]; exact (Ch.refl _ _).alloc _
  clear hW
  refine (HB.out W).mono ?_
  rintro e w1 ⟨g, F, rb, cap0, G, rfl, hbt⟩
  have HC0 := Lib.hid hc0; clear hc0
  have HBT := Lib.hid hbt; clear hbt HB
  go_upto_region 2 with fail
  refine wp_alw ?_
  intro W3 hW3
  have hb6 := alw_blk (xs := [.int .i64 G.most, .slice (some ⟨rb, 0, none⟩) G.nodes.length cap0]) hW3
  have hbt := HBT.out.same (alw_ch hW3)
  have h6F : w1.heap.size ∉ F := fun hin => Nat.lt_irrefl _ (HBT.out.gin.lt _ hin)
  have hrb6 : rb ≠ w1.heap.size := rg_ne HBT.out.rg
  have h6lo : W.heap.size ≤ w1.heap.size := HBT.out.ch.size
  clear hW3 HBT
  generalize w1.heap.size = b6 at *
  have HBT := Lib.hid hbt; clear hbt
  have B6 := Lib.hid hb6; clear hb6
  go_wp2_with fail
  go_loopw [24] (fun i wr => ∃ (k : Nat) (G : Gra) (F : List Nat) (rb cap : Nat), k ≤ n ∧ i = .int .i64 k ∧ Both W wr g rb cap G F ∧ b6 ∉ F ∧ rb ≠ b6 ∧ blk wr b6 [.int .i64 G.most, .slice (some ⟨rb, 0, none⟩) G.nodes.length cap]) (fun i _ => n - (intOf i).toNat)
  case atStart => exact ⟨0, G, F, rb, cap0, by omega, rfl, HBT.out, h6F, hrb6, B6.out⟩
  case round =>
    clear HBT B6 h6F hrb6
    obtain ⟨k, G, F, rb, capr, hk, rfl, hbt, h6F, hrb6, hb6⟩ := hrel
    by_cases hlt : k < n
    · obtain ⟨x, hx⟩ : ∃ x, l[k]? = some x := ⟨_, List.getElem?_eq_getElem (by rw [HLEN.out]; exact hlt)⟩
      have hxm := List.mem_of_getElem? hx
      obtain ⟨xb, xo, rfl, hcl⟩ := HS.out.cells k x hx
      have hcw := HC0.out.trans hbt.ch (by simp)
      have c0 : wr.cell? ⟨xb, xo + k * 8, none⟩ = some (.int .u8 x.kind) := (hcw.cell (cell_lt (hcl 0 _ rfl)) (by simp)).trans (hcl 0 _ rfl)
      have c1 : wr.cell? ⟨xb, xo + k * 8 + 1, none⟩ = some (.int .i64 x.C) := (hcw.cell (cell_lt (hcl 1 _ rfl)) (by simp)).trans (hcl 1 _ rfl)
      have c2 : wr.cell? ⟨xb, xo + k * 8 + 2, none⟩ = some (.slice x.x.a x.x.l.length x.x.c) := (hcw.cell (cell_lt (hcl 2 _ rfl)) (by simp)).trans (hcl 2 _ rfl)
      have c3 : wr.cell? ⟨xb, xo + k * 8 + 3, none⟩ = some (.slice x.y.a x.y.l.length x.y.c) := (hcw.cell (cell_lt (hcl 3 _ rfl)) (by simp)).trans (hcl 3 _ rfl)
      have c4 : wr.cell? ⟨xb, xo + k * 8 + 4, none⟩ = some (.int .u32 x.N) := (hcw.cell (cell_lt (hcl 4 _ rfl)) (by simp)).trans (hcl 4 _ rfl)
      have c5 : wr.cell? ⟨xb, xo + k * 8 + 5, none⟩ = some (.slice x.gs.a x.gs.l.length x.gs.c) := (hcw.cell (cell_lt (hcl 5 _ rfl)) (by simp)).trans (hcl 5 _ rfl)
      have c6 : wr.cell? ⟨xb, xo + k * 8 + 6, none⟩ = some (.slice x.la x.Ls.length x.lc) := (hcw.cell (cell_lt (hcl 6 _ rfl)) (by simp)).trans (hcl 6 _ rfl)
      have c7 : wr.cell? ⟨xb, xo + k * 8 + 7, none⟩ = some (.slice x.ma x.Ms.length x.mc) := (hcw.cell (cell_lt (hcl 7 _ rfl)) (by simp)).trans (hcl 7 _ rfl)
      have hxr := HS.out.ok x hxm
      have hxl := HFEW.out x hxm
      have hxb := hxr.mxb hxl
      have hwr6 := hb6.lt
      have hact := fun (W1 : World) (hcA : Ch [] wr W1) => act26_is (hbt.same hcA) x (hxr.mxk hxl (hcw.trans hcA (by simp)) W.heap.size (HC0.out.size)) hxb
      have HACT := Lib.hid hact; clear hact hcl hxr hxl hxb hx hxm hcw
      have HBT := Lib.hid hbt; clear hbt
      have B6 := Lib.hid hb6; clear hb6
      go_upto_region 7 with fail
      refine wp_alw ?_
      intro W1 hW1
      have hb8 := alw_blk (xs := [.int .u8 x.kind, .int .i64 x.C, .slice x.x.a x.x.l.length x.x.c, .slice x.y.a x.y.l.length x.y.c, .int .u32 x.N, .slice x.gs.a x.gs.l.length x.gs.c, .slice x.la x.Ls.length x.lc, .slice x.ma x.Ms.length x.mc]) hW1
      have hcA := alw_ch hW1
      have hb6 := B6.out.ch hcA (by simp)
      have hA := HACT.out W1 hcA
      have h0 := hcA.size
      clear hW1 c0 c1 c2 c3 c4 c5 c6 c7
      have x0 := hb6.cell (i := 0) rfl
      have x1 := hb6.cell (i := 1) rfl
      have y0 := hb8.cell (i := 0) rfl
      have y1 := hb8.cell (i := 1) rfl
      have y2 := hb8.cell (i := 2) rfl
      have y3 := hb8.cell (i := 3) rfl
      have y4 := hb8.cell (i := 4) rfl
      have y5 := hb8.cell (i := 5) rfl
      have y6 := hb8.cell (i := 6) rfl
      have y7 := hb8.cell (i := 7) rfl
      have h6F1 : b6 ∉ F := h6F
      have hA1 := hb6.lt
      have HA := Lib.hid hA; clear hA HACT
      have B6' := Lib.hid hb6; clear hb6 hb8 B6
      go_wp2_with fail
      refine HA.out.mono ?_
      rintro e w2 ⟨G2, F2, rb2, cap2, rfl, hbt2, hF2, hfr2, hch⟩
      have hb6 := B6'.out.ch hch h6F
      have h6F2 : b6 ∉ F2 := fun hin => by rcases hF2 _ hin with e | e; exact h6F e; omega
      have hrb62 : rb2 ≠ b6 := by rcases hfr2 with e | e; (rw [e]; exact hrb6); omega
      have HBT2 := Lib.hid hbt2; clear hbt2 hF2 hfr2 hch
      have B6'' := Lib.hid hb6; clear hb6 B6' x0 x1 y0 y1 y2 y3 y4 y5 y6 y7 HA
      go_upto_region 8 with fail
      refine wp_alw ?_
      intro W5 hW5
      have hb9 := alw_blk (xs := [.int .i64 G2.most, .slice (some ⟨rb2, 0, none⟩) G2.nodes.length cap2]) hW5
      have hcA := alw_ch hW5
      have hbt := HBT2.out.same hcA
      have hb6 := B6''.out.ch hcA (by simp)
      clear hW5 HBT2 B6''
      have x0 := hb9.cell (i := 0) rfl
      have x1 := hb9.cell (i := 1) rfl
      have f0 := hb6.frozen (i := 0)
      have f1 := hb6.frozen (i := 1)
      have y0 := hb6.cell (i := 0) rfl
      have y1 := hb6.cell (i := 1) rfl
      have HBT := Lib.hid hbt; clear hbt hcA hb9
      have B6 := Lib.hid hb6; clear hb6
      go_wp2_with fail
      go_roundw
      case rel =>
        have hcs := set2_ch (w := W5) (b := b6) (u := .int .i64 G2.most) (v := .slice (some ⟨rb2, 0, none⟩) G2.nodes.length cap2) rfl
        exact ⟨k + 1, G2, F2, rb2, cap2, by omega, by go_num, HBT.out.set hcs h6F2 hrb62 h6lo, h6F2, hrb62, (B6.out.set (i := 0) _).set (i := 1) _⟩
      case measure => simp [intOf]; omega
    · have hSm := Same23_is hbt.gin hbt.rg
      have x0 := hb6.cell (i := 0) rfl
      have x1 := hb6.cell (i := 1) rfl
      have HSM := Lib.hid hSm; clear hSm
      have HC := Lib.hid (HC0.out.trans hbt.ch (by simp)); clear hbt hb6
      go_wp2_with fail
      refine HSM.out.mono ?_
      rintro e w9 ⟨rfl, hc9⟩
      have HC9 := Lib.hid hc9; clear hc9
      go_wp2_with fail
      go_ret
      exact ⟨rfl, HC.out.trans HC9.out (by simp)⟩
theorem makes26_is (M : Int) (N : Nat) (hN : N ≤ 255) {a : Option Addr} {n cap : Nat} {l : List MxV} (hS : MxActS w a n cap l) (hfew : ∀ x ∈ l, Lt26 x) :
    Calls Tryz.prog 16 #[.agg #[.int .i64 M, .int .u8 N], .slice a n cap] w fun e w' => e = .returned (.bool true) ∧ Ch [] w w' := by
  by_cases hM : M < 1 ∨ 65536 < M
  · exact makes26_no M N hM a n cap
  · obtain ⟨m, rfl⟩ : ∃ m : Nat, M = m := ⟨M.toNat, by omega⟩
    exact makes26_yes m N (by omega) (by omega) hN hS hfew
end
end Go.Proofs.YtehljgigebhddaaGreat
namespace Go.Proofs.YtehljgigebhddaaGreat
open Go.ChangeShapes Go.WideShapes Go.ChangeAt Go.RowKit Go.Mem Go.Aig Go.Deep
section
variable {H : Type} {enc : TypeId × Value → H} {W : World}
set_option maxRecDepth 100000 in
theorem intss_open {fuel : Nat} {c : Value} {x : DataW H × List MemPlace} (hf : DataW.trod enc Tryz.prog W 0 (fun _ => true) true fuel 29 [c] = some x) :
    ∃ (a : Option Addr) (nc : Nat) (Ls : List WV), c = .slice a Ls.length nc ∧ IR W a Ls ∧ (∀ x ∈ Ls, ∀ r ∈ x.l, -9223372036854775808 ≤ r ∧ r ≤ 9223372036854775807) ∧ Ls.length ≤ 9223372036854775807 := by
  rcases open_slice Tryz.underlying29 hf with ⟨hcs, _⟩ | ⟨y, l, cp, m, n, D, Pl, hcs, _, hl, hm, hmm, _, hi⟩
  · simp at hcs
    subst hcs
    exact ⟨none, 0, [], rfl, fun i x hx => by simp at hx, by simp, by simp⟩
  · simp at hcs
    subst hcs
    have hm' : cp ≤ 9223372036854775807 := by unfold maxLen at hm; exact hm
    have hC : Tryz.prog.cellsOf 26 = 1 := by kernel_rfl
    have hspot : 0 < l → y.spot = none := fun h0 => by
      obtain ⟨cs', hc, _⟩ := hi 0 (by rw [hmm]; simp; omega)
      rw [hC] at hc
      obtain ⟨_, hcl, hat⟩ := World.cells?_some hc
      have e0 := hat 0 (by omega)
      rw [List.getElem?_eq_getElem (by omega)] at e0
      simpa [Addr.add] using World.cell?_spot e0
    have key : ∀ i, i < l → ∃ z : WV, (∃ b o, (some y : Option Addr) = some ⟨b, o, none⟩ ∧ W.cell? ⟨b, o + i, none⟩ = some (.slice z.a z.l.length z.c) ∧ Sl W z.a z.l) ∧ (∀ r ∈ z.l, -9223372036854775808 ≤ r ∧ r ≤ 9223372036854775807) := by
      intro i hlt
      obtain ⟨cs', hc, ht⟩ := hi i (by rw [hmm]; simp; omega)
      rw [hC] at hc
      obtain ⟨_, hcl, hat⟩ := World.cells?_some hc
      match cs', hcl with
      | [c0], _ =>
        obtain ⟨xa, xn, xc, X, rfl, hsl, hXl, hXb, _, _⟩ := ints_open ht
        subst hXl
        have e0 := hat 0 (by omega)
        simp at e0
        obtain ⟨b, o, spot⟩ := y
        have hsp : spot = none := hspot (by omega)
        subst hsp
        simp only [Addr.add_lit] at e0
        exact ⟨⟨xa, X, xc⟩, ⟨b, o, rfl, by simpa using e0, hsl⟩, hXb⟩
    obtain ⟨ll, hll, hp⟩ := list_of _ l key
    subst hll
    refine ⟨some y, cp, ll, rfl, fun i s hs => (hp i s hs).1, fun s hs => ?_, by omega⟩
    obtain ⟨i, hi2⟩ := List.mem_iff_getElem?.1 hs
    exact (hp i s hi2).2
set_option maxRecDepth 100000 in
theorem mxact_open {a : Option Addr} {len cap : Nat} {d : DataW H} {p : List MemPlace} (h : DataW.Trod enc Tryz.prog W 0 (fun _ => true) true 24 (.slice a len cap) d p) : ∃ l, MxActS W a len cap l := by
  obtain ⟨fuel, hf⟩ := h
  rcases open_slice Tryz.underlying24 hf with ⟨hcs, _⟩ | ⟨x, l, c, m, n, D, Pl, hcs, _, hl, hm, hmm, _, hi⟩
  · simp [Value.cells] at hcs
    obtain ⟨rfl, rfl, rfl⟩ := hcs
    exact ⟨[], rfl, by omega, by omega, by simp, by simp⟩
  · simp [Value.cells] at hcs
    obtain ⟨rfl, rfl, rfl⟩ := hcs
    have hC : Tryz.prog.cellsOf 31 = 8 := by kernel_rfl
    have hspot : 0 < len → x.spot = none := fun h0 => by
      obtain ⟨cs', hc, _⟩ := hi 0 (by rw [hmm]; simp; omega)
      rw [hC] at hc
      obtain ⟨_, hcl, hat⟩ := World.cells?_some hc
      have e0 := hat 0 (by omega)
      rw [List.getElem?_eq_getElem (by omega)] at e0
      simpa [Addr.add] using World.cell?_spot e0
    have key : ∀ i, i < len → ∃ s : MxV, (∃ b o, (some x : Option Addr) = some ⟨b, o, none⟩ ∧ ∀ (j : Nat) u, s.cells[j]? = some u → W.cell? ⟨b, o + i * 8 + j, none⟩ = some u) ∧ MxR W s := by
      intro i hlt
      obtain ⟨cs', hc, ht⟩ := hi i (by rw [hmm]; simp; omega)
      rw [hC] at hc
      obtain ⟨ys, n', _, _, hlen, _, hfd⟩ := DataW.trod_struct Tryz.underlying31 ht
      obtain ⟨_, hcl, hat⟩ := World.cells?_some hc
      match cs', hcl with
      | [c0, c1, c2, c3, c4, c5, c6, c7], _ =>
        have f0 := hfd 0 _ rfl
        have f1 := hfd 1 _ rfl
        have f2 := hfd 2 _ rfl
        have f3 := hfd 3 _ rfl
        have f4 := hfd 4 _ rfl
        have f5 := hfd 5 _ rfl
        have f6 := hfd 6 _ rfl
        have f7 := hfd 7 _ rfl
        have hu : Tryz.prog.cellsOf 5 = 1 := by kernel_rfl
        have hs : Tryz.prog.cellsOf 26 = 1 := by kernel_rfl
        have hs2 : Tryz.prog.cellsOf 29 = 1 := by kernel_rfl
        have hin : Tryz.prog.cellsOf 3 = 1 := by kernel_rfl
        have hi9 : Tryz.prog.cellsOf 28 = 1 := by kernel_rfl
        simp only [List.getElem_toArray, List.getElem_cons_zero, List.getElem_cons_succ, hu, hs, hs2, hin, hi9, List.drop_zero, List.drop_succ_cons, List.take_succ_cons, List.take_zero] at f0 f1 f2 f3 f4 f5 f6 f7
        have hys : ys.length = 8 := by have := ‹ys.length = _›; simpa using this
        rw [List.getElem?_eq_getElem (by omega)] at f0 f1 f2 f3 f4 f5 f6 f7
        obtain ⟨z0, hz0, _, hw0⟩ := DataW.trod_int Tryz.underlying5 f0
        obtain ⟨k0, rfl, b0⟩ := wf_u8 hw0
        obtain ⟨z1, hz1, _, hw1⟩ := DataW.trod_int Tryz.underlying3 f1
        have b1 := wf_i64 hw1
        obtain ⟨xa, xn, xc, X, rfl, hslx, hXl, hXb, _, _⟩ := ints_open f2
        obtain ⟨ya, yn, yc, Y, rfl, hsly, hYl, hYb, _, _⟩ := ints_open f3
        obtain ⟨z4, hz4, _, hw4⟩ := DataW.trod_int Tryz.underlying28 f4
        obtain ⟨k4, rfl, b4⟩ := wf_u32 hw4
        obtain ⟨ga, gn, gc, Gs, rfl, hslg, hGl, hGb, _, _⟩ := ints_open f5
        obtain ⟨la, lc, Ls, rfl, hL, hLb, hLn⟩ := intss_open f6
        obtain ⟨ma, mc, Ms, rfl, hM, hMb, hMn⟩ := intss_open f7
        simp at hz0 hz1 hz4
        subst hz0 hz1 hz4 hXl hYl hGl
        have e0 := hat 0 (by omega)
        have e1 := hat 1 (by omega)
        have e2 := hat 2 (by omega)
        have e3 := hat 3 (by omega)
        have e4 := hat 4 (by omega)
        have e5 := hat 5 (by omega)
        have e6 := hat 6 (by omega)
        have e7 := hat 7 (by omega)
        simp at e0 e1 e2 e3 e4 e5 e6 e7
        obtain ⟨b, o, spot⟩ := x
        have hsp : spot = none := hspot (by omega)
        subst hsp
        simp only [Addr.add_lit] at e0 e1 e2 e3 e4 e5 e6 e7
        refine ⟨⟨k0, z1, ⟨xa, X, xc⟩, ⟨ya, Y, yc⟩, k4, ⟨ga, Gs, gc⟩, la, lc, Ls, ma, mc, Ms⟩, ⟨b, o, rfl, fun j u hu => ?_⟩, ⟨b0, b4, b1, hslx, hsly, hslg, hL, hM, hXb, hYb, hGb, hLb, hMb, hLn, hMn⟩⟩
        match j, hu with
        | 0, hu => cases hu; simpa [WV.val] using e0
        | 1, hu => cases hu; simpa [WV.val] using e1
        | 2, hu => cases hu; simpa [WV.val] using e2
        | 3, hu => cases hu; simpa [WV.val] using e3
        | 4, hu => cases hu; simpa [WV.val] using e4
        | 5, hu => cases hu; simpa [WV.val] using e5
        | 6, hu => cases hu; simpa [WV.val] using e6
        | 7, hu => cases hu; simpa [WV.val] using e7
    obtain ⟨ll, hll, hp⟩ := list_of _ len key
    have idx : ∀ s ∈ ll, ∃ i : Nat, ll[i]? = some s := fun s hs => List.mem_iff_getElem?.1 hs
    exact ⟨ll, hll, hl, by unfold maxLen at hm; exact hm, fun i s hs => (hp i s hs).1, fun s hs => by obtain ⟨i, hi2⟩ := idx s hs; exact (hp i s hi2).2⟩
end
end Go.Proofs.YtehljgigebhddaaGreat
namespace Go.Proofs.YtehljgigebhddaaGreat
open Go.RowKit Go.Mem Go.Aig
section
variable {w0 : Base} {w : World} {g : Nat} {G : Gra} {F : List Nat} {L : List (Value × List Int)}
theorem Hold.wa (h : Hold w0 w g G F L) {b n : Nat} {Ls : List WV} (hb : (b, Ls.map WV.val) ∈ w0.K) (hL : ∀ x ∈ Ls, (x.val, x.l) ∈ L) (hn : Ls.length = n) : WA w F (some ⟨b, 0, none⟩) n Ls := by
  obtain ⟨k1, k2, k3⟩ := h.kept _ hb
  exact ⟨hn, fun _ => ⟨b, rfl, hn, fun i x hx => k1.cell (by rw [List.getElem?_map, hx]; rfl), fun x hx => by
    have := h.at (hL x hx) rfl
    exact this, k3, k1.lt⟩⟩
theorem mChoose_h (h : Hold w0 w g G F L) (c : Int) (hc : I64' c) {xa ya : Option Addr} {xl yl : List Int} {n m xc yc : Nat} (hx : (.slice xa n xc, xl) ∈ L) (hxn : xl.length = n) (hy : (.slice ya m yc, yl) ∈ L) (hym : yl.length = m) {G' : Gra} {l : List Nat} {e k : Nat} (hR : chooseG G c xl yl = (G', l, e)) (hk : l.length = k) (hb : ∀ r ∈ l, r ≤ 1000000) (hl : k ≤ 1000000) :
    Calls Tryz.prog 66 #[.pointer (some ⟨g, 0, none⟩), .int .i64 c, .slice xa n xc, .slice ya m yc] w fun en w' => ∃ a c F', en = .returned (.tuple #[.slice a k c, .int .i64 e]) ∧ Hold w0 w' g G' F' ((.slice a k c, natInts l) :: L) := by
  have hcc := mChoose_is h.own.gin c hc (h.at hx hxn) (h.at hy hym)
  simp only [WV.val, hxn, hym] at hcc
  exact Calls.word h hcc hR hk hb hl
theorem mRead_h [Nonempty Unit] (h : Hold w0 w g G F L) {la : Option Addr} {nl lc : Nat} {Ls : List WV} (hA : WA w F la nl Ls) {ya : Option Addr} {yl : List Int} {m yc : Nat} (hy : (.slice ya m yc, yl) ∈ L) (hym : yl.length = m) {G' : Gra} {l : List Nat} {e k : Nat} (hR : readG G (Ls.map WV.l) yl = (G', l, e)) (hk : l.length = k) (hb : ∀ r ∈ l, r ≤ 1000000) (hl : k ≤ 1000000) :
    Calls Tryz.prog 67 #[.pointer (some ⟨g, 0, none⟩), .slice la nl lc, .slice ya m yc] w fun en w' => ∃ a c F', en = .returned (.tuple #[.slice a k c, .int .i64 e]) ∧ Hold w0 w' g G' F' ((.slice a k c, natInts l) :: L) := by
  have hcc := mRead_is h.own.gin (lc := lc) hA (h.at hy hym) (by have := (h.held _ hy).cap; rw [hym]; exact this)
  simp only [WV.val, hym] at hcc
  exact Calls.word h hcc hR hk hb hl
theorem mPick_h (h : Hold w0 w g G F L) {la : Option Addr} {nl lc : Nat} {Ls : List WV} (hA : WA w F la nl Ls) {y : WV} (hy : WVin w F y) (hyc : y.l.length ≤ y.c) {G' : Gra} {l : List Nat} {e k : Nat} (hR : pickG G y.l (Ls.map WV.l) = (G', l, e)) (hk : l.length = k) (hb : ∀ r ∈ l, r ≤ 1000000) (hl : k ≤ 1000000) :
    Calls Tryz.prog 70 #[.pointer (some ⟨g, 0, none⟩), y.val, .slice la nl lc] w fun en w' => ∃ a c F', en = .returned (.tuple #[.slice a k c, .int .i64 e]) ∧ Hold w0 w' g G' F' ((.slice a k c, natInts l) :: L) := by
  exact Calls.word h (mPick_is h.own.gin (lc := lc) hA hy hyc) hR hk hb hl
theorem mEqual_h (h : Hold w0 w g G F L) {la lb : Option Addr} {nl ac n2 bc : Nat} {As Bs : List WV} (hA : WA w F la nl As) (hB : WA w F lb n2 Bs) (hn2 : n2 ≤ 1000000) {G' : Gra} {r e : Nat} (hR : equalG G (As.map WV.l) (Bs.map WV.l) = (G', r, e)) :
    Calls Tryz.prog 71 #[.pointer (some ⟨g, 0, none⟩), .slice la nl ac, .slice lb n2 bc] w fun en w' => ∃ F', en = .returned (.tuple #[.int .i64 r, .int .i64 e]) ∧ Hold w0 w' g G' F' L :=
  Calls.ref h (mEqual_is h.own.gin hA hB hn2) hR
theorem harr_ws {Pr : Value → List Int → Prop} : ∀ {vs : List Value} {ls : List (List Nat)}, vs.length = ls.length → (∀ (i : Nat) (u : Value), vs[i]? = some u → ∃ l, ls[i]? = some l ∧ Pr u (natInts l) ∧ ∃ ua uc, u = .slice ua l.length uc) → ∃ ws : List WV, ws.map WV.val = vs ∧ ws.map WV.l = ls.map natInts ∧ ∀ x ∈ ws, Pr x.val x.l
  | [], [], _, _ => ⟨[], rfl, rfl, by simp⟩
  | [], _ :: _, h, _ => by simp at h
  | _ :: _, [], h, _ => by simp at h
  | v :: vs, l :: ls, h, hf => by
    obtain ⟨ws, h1, h2, h3⟩ := harr_ws (vs := vs) (ls := ls) (by simpa using h) (fun i u hu => hf (i + 1) u hu)
    obtain ⟨l', e, hp, ua, uc, rfl⟩ := hf 0 v rfl
    cases e
    refine ⟨⟨ua, natInts l, uc⟩ :: ws, by rw [List.map_cons, h1]; simp [WV.val], by rw [List.map_cons, List.map_cons, h2], fun x hx => ?_⟩
    rcases List.mem_cons.1 hx with rfl | hx
    · simpa [WV.val] using hp
    · exact h3 x hx
theorem mWrite_h [Nonempty Unit] (h : Hold w0 w g G F L) {la : Option Addr} {nl lc : Nat} {Ls : List WV} (hA : WA w F la nl Ls) (c : Int) (hc : I64' c) {xa ya : Option Addr} {xl yl : List Int} {n m xc yc : Nat} (hy : (.slice ya m yc, yl) ∈ L) (hym : yl.length = m) (hx : (.slice xa n xc, xl) ∈ L) (hxn : xl.length = n) {G' : Gra} {ls : List (List Nat)} {e k : Nat} (hR : writeG G (Ls.map WV.l) c yl xl = (G', ls, e)) (hk : ls.length = k) (hk0 : 0 < k) (hl : ∀ l ∈ ls, l.length ≤ 1000000) :
    Calls Tryz.prog 69 #[.pointer (some ⟨g, 0, none⟩), .slice la nl lc, .int .i64 c, .slice ya m yc, .slice xa n xc] w fun en w' => ∃ (b c : Nat) (F' : List Nat) (cs : List Value) (ws : List WV), en = .returned (.tuple #[.slice (some ⟨b, 0, none⟩) k c, .int .i64 e]) ∧ Hold (w0.add b cs) w' g G' F' ((ws.map fun x => (WV.val x, WV.l x)) ++ L) ∧ (∀ (i : Nat) (x : WV), ws[i]? = some x → cs[i]? = some x.val) ∧ ws.map WV.l = ls.map natInts := by
  have hcc := mWrite_is h.own.gin (lc := lc) hA c hc (h.at hy hym) (by have := (h.held _ hy).cap; rw [hym]; exact this) (h.at hx hxn)
  simp only [WV.val, hxn, hym, hR] at hcc
  subst hk
  refine hcc.mono ?_
  rintro en w' ⟨v, rfl, F', k1, k2, k3, k4, vs, k5, k6, k7⟩
  obtain ⟨b, c, rfl⟩ := k5.parts hk0
  have hsm := k1.ok.small
  have hz := h.own.ch.size
  obtain ⟨ws, q1, q2, q3⟩ := harr_ws (vs := vs) (ls := ls) (Pr := fun u l => Held w0.w w' F' u l) (by have h9 : vs.length = ls.length * 1 := k5.1; omega) (fun i u hu => by
    obtain ⟨l, r1, r2, r3, r4⟩ := k7 i u hu
    obtain ⟨ua, uc, rfl⟩ := row.shape r3
    refine ⟨l, r1, ⟨by rw [natInts_len, ← refs_natInts]; exact r3, by rw [natInts_len]; exact hl l (List.mem_of_getElem? r1), fun r hr => ?_, fun k hk => ⟨Nat.le_trans hz (r4 k hk).1, (r4 k hk).2.1⟩⟩, ua, uc, rfl⟩
    obtain ⟨z, hzz, rfl⟩ := List.mem_map.1 hr
    have := r2 z hzz
    omega)
  have k5' := k5
  rcases k5'.2 with ⟨e, _⟩ | ⟨b', cap, cur, e, _, hb, _, _, _, ht⟩
  · cases e
  · cases e
    have hown := k6 b rfl
    have hH : Hold w0 w' g G' F' ((ws.map fun x => (WV.val x, WV.l x)) ++ L) := ⟨⟨k1, fun k hk => (k3 k hk).elim (h.own.own k) (fun e => Nat.le_trans hz e), h.own.ch.trans k2 (fun k hk => .inr (h.own.own k hk))⟩, fun p hp => by
      rcases List.mem_append.1 hp with hp | hp
      · obtain ⟨x, hx, rfl⟩ := List.mem_map.1 hp
        exact q3 x hx
      · exact (h.held p hp).keep k2 k3, h.keptTo k2 k3⟩
    refine ⟨b, c, F', cur.toList, ws, rfl, hH.keepB (b := b) (xs := cur.toList) ?_ (Nat.le_trans hz hown.1) hown.2, fun i x hx => ?_, q2⟩
    · exact ⟨_, by rw [Array.toArray_toList]; exact hb⟩
    · have h1 : vs[i]? = some x.val := by rw [← q1, List.getElem?_map, hx]; rfl
      rw [← ht] at h1
      have h2 := (List.getElem?_eq_some_iff.1 h1).1
      rw [List.length_take] at h2
      rw [List.getElem?_take_of_lt (by omega)] at h1
      exact h1
end
structure AR (w : World) (a : Option Addr) (L : List WV) : Prop where
  cells : ∀ (i : Nat) (x : WV), L[i]? = some x → ∃ b, a = some ⟨b, 0, none⟩ ∧ w.cell? ⟨b, i, none⟩ = some x.val ∧ WVok w x
theorem Hold.ar {w0 : Base} {w : World} {g : Nat} {G : Gra} {F : List Nat} {L : List (Value × List Int)} (h : Hold w0 w g G F L) {b : Nat} {cs : List Value} {ws : List WV} (hb : (b, cs) ∈ w0.K) (hc : ∀ (i : Nat) (x : WV), ws[i]? = some x → cs[i]? = some x.val) (hL : ∀ x ∈ ws, (x.val, x.l) ∈ L) : AR w (some ⟨b, 0, none⟩) ws :=
  ⟨fun i x hx => ⟨b, rfl, (h.kept _ hb).1.cell (hc i x hx), (h.at (hL x (List.mem_of_getElem? hx)) rfl).ok⟩⟩
theorem AR.ch {w w' : World} {a : Option Addr} {L : List WV} (h : AR w a L) (hc : Ch [] w w') : AR w' a L :=
  ⟨fun i x hx => by
    obtain ⟨b, e, h1, h2⟩ := h.cells i x hx
    exact ⟨b, e, (hc.cell (cell_lt h1) (by simp)).trans h1, h2.ch hc (by simp)⟩⟩
theorem fnvEqref : Fnv 56 := fnv_of Tryz.func56 (by simp [Tryz.f56]) (by simp [Tryz.f56])
set_option maxRecDepth 100000 in
set_option maxHeartbeats 2000000 in
theorem EFlst_yes {w : World} {a b : Option Addr} {As Bs : List WV} (n ca cb : Nat) (hn : n ≤ 1000000) (hA : AR w a As) (hB : AR w b Bs) (ha : As.length = n) (hb : Bs.length = n) (heq : ∀ (i : Nat) (x y : WV), As[i]? = some x → Bs[i]? = some y → x.l = y.l) :
    Calls Tryz.prog 72 #[.slice a n ca, .slice b n cb, .func (.func 56) #[] #[]] w fun e w' => e = .returned (.bool true) ∧ Ch [] w w' := by
  have hcf : ∀ args w, (callFunc 56 args).run Tryz.prog w = .ok (.enter 56 args) w := fnvEqref
  have HA := Lib.hid hA; clear hA
  have HB := Lib.hid hB; clear hB
  have HEQ := Lib.hid heq; clear heq
  go_enter Tryz.func72, Tryz.ntmps72
  go_wp2_with fail
  go_loopw [17] (fun i wr => ∃ k : Nat, k ≤ n ∧ i = .int .i64 k ∧ Ch [] w wr) (fun i _ => n - (intOf i).toNat)
  case atStart => exact ⟨0, Nat.zero_le _, rfl, Ch.refl _ _⟩
  case round =>
    obtain ⟨k, hk, rfl, hc⟩ := hrel
    by_cases hlt : k < n
    · obtain ⟨x, hx⟩ : ∃ x, As[k]? = some x := ⟨_, List.getElem?_eq_getElem (by omega)⟩
      obtain ⟨y, hy⟩ : ∃ y, Bs[k]? = some y := ⟨_, List.getElem?_eq_getElem (by omega)⟩
      have he := HEQ.out k x y hx hy
      obtain ⟨ab, rfl, c0, hxo⟩ := (HA.out.ch hc).cells k x hx
      obtain ⟨bb, rfl, c1, hyo⟩ := (HB.out.ch hc).cells k y hy
      have hE := Eqref_is (w := wr) x.c y.c hxo.sl hyo.sl
      rw [decide_eq_true he] at hE
      unfold WV.val at c0 c1
      obtain ⟨xa, xl, xc⟩ := x
      obtain ⟨ya, yl, yc⟩ := y
      simp only at c0 c1 hE
      have HE := Lib.hid hE; clear hE
      have HC := Lib.hid hc; clear hc
      clear hx hy he hxo hyo
      go_wp2_with fail
      refine HE.out.mono ?_
      rintro e w1 ⟨rfl, hc1⟩
      have HC1 := Lib.hid hc1; clear hc1 HE
      go_wp2_with fail
      go_roundw
      case rel => exact ⟨k + 1, by omega, by go_num, HC.out.trans HC1.out (by simp)⟩
      case measure => simp [intOf]; omega
    · have HC := Lib.hid hc; clear hc
      go_wp2_with fail
      go_ret
      exact ⟨rfl, HC.out⟩
end Go.Proofs.YtehljgigebhddaaGreat
namespace Go.Proofs.YtehljgigebhddaaGreat
open Go.RowKit Go.Mem Go.Aig
def sb6 : Gra := ⟨4000, [⟨1, 0, 0, 0⟩, ⟨2, 0, 0, 0⟩, ⟨2, 0, 0, 0⟩, ⟨2, 0, 0, 0⟩, ⟨2, 0, 0, 0⟩, ⟨2, 0, 0, 0⟩, ⟨2, 0, 0, 0⟩]⟩
def sb7 : Gra := ⟨4000, [⟨1, 0, 0, 0⟩, ⟨2, 0, 0, 0⟩, ⟨2, 0, 0, 0⟩, ⟨2, 0, 0, 0⟩, ⟨2, 0, 0, 0⟩, ⟨2, 0, 0, 0⟩, ⟨2, 0, 0, 0⟩, ⟨3, 11, 13, 1⟩, ⟨3, 10, 13, 1⟩, ⟨3, 11, 12, 1⟩]⟩
section
theorem Pair1_is (w : World) : Calls Tryz.prog 64 #[.int .u8 1] w fun e w' => ∃ g F xa xc ya yc, e = .returned (.tuple #[.pointer (some ⟨g, 0, none⟩), .slice xa 2 xc, .slice ya 2 yc]) ∧ Hold w w' g (gIn 4000 4) F [(.slice ya 2 yc, natInts [6, 8]), (.slice xa 2 xc, natInts [2, 4])] := Pair_is w 1 (by decide)
theorem mFit31_is [Nonempty Unit] (w : World) : Calls Tryz.prog 68 #[.int .i64 3, .int .i64 1] w fun e w' => e = .returned (.tuple #[.int .i64 2, .int .i64 0]) ∧ w = w' := by
  have h := mFit_is (w := w) 3 1
  rw [show fitG 3 1 = (2, 0) by decide] at h
  exact h
set_option maxRecDepth 100000 in
set_option maxHeartbeats 4000000 in
theorem awake26_is [Nonempty Unit] (w : World) : Calls Tryz.prog 15 #[] w fun e w' => e = .returned (.bool true) ∧ Ch [] w w' := by
  have hN := Pair1_is w
  have HN := Lib.hid hN; clear hN
  go_enter Tryz.func15, Tryz.ntmps15
  go_wp2_with fail
  refine HN.out.mono ?_
  rintro e w1 ⟨g, F1, a1, c1, a2, c2, rfl, ho⟩
  have HO := Lib.hid ho; clear ho HN
  go_wp2_with fail
  refine (sInput_h HO.out 2 (G' := sb6) (l := [10, 12]) (e := 0) (k := 2) (by kernel_rfl) rfl (by decide) (by decide)).mono ?_
  rintro e w2 ⟨a3, c3, F2, rfl, ho⟩
  clear HO; have HO := Lib.hid ho; clear ho
  go_wp2_with fail
  refine (mChoose_h HO.out 1 (by decide) (xa := a1) (xc := c1) (n := 2) (xl := natInts [2, 4]) (by simp) rfl (ya := a2) (yc := c2) (m := 2) (yl := natInts [6, 8]) (by simp) rfl (G' := sb6) (l := [2, 4]) (e := 0) (k := 2) (by kernel_rfl) rfl (by decide) (by decide)).mono ?_
  rintro e w3 ⟨a4, c4, F3, rfl, ho⟩
  clear HO; have HO := Lib.hid ho; clear ho
  go_wp2_with fail
  refine (mChoose_h HO.out 0 (by decide) (xa := a1) (xc := c1) (n := 2) (xl := natInts [2, 4]) (by simp) rfl (ya := a2) (yc := c2) (m := 2) (yl := natInts [6, 8]) (by simp) rfl (G' := sb6) (l := [6, 8]) (e := 0) (k := 2) (by kernel_rfl) rfl (by decide) (by decide)).mono ?_
  rintro e w4 ⟨a5, c5, F4, rfl, ho⟩
  clear HO; have HO := Lib.hid ho; clear ho
  go_wp2_with fail
  refine (sConst_h HO.out 1 (by decide) 2 rfl).mono ?_
  rintro e w5 ⟨a6, c6, rfl, ho⟩
  clear HO; have HO := Lib.hid ho; clear ho
  go_wp2_with fail
  refine (sConst_h HO.out 3 (by decide) 2 rfl).mono ?_
  rintro e w6 ⟨a7, c7, rfl, ho⟩
  clear HO; have HO := Lib.hid ho; clear ho
  go_wp2_with fail
  refine calls_named fun WA hWA => ?_
  have hlb := alw_blk (xs := [.slice a1 2 c1, .slice a2 2 c2, .slice a3 2 c3]) hWA
  have ho := HO.out.keepN (alw_ch hWA) hlb
  clear hWA hlb HO
  generalize w6.heap.size = lb at *
  have HO := Lib.hid ho; clear ho
  refine (mRead_h HO.out (lc := 3) (HO.out.wa (b := lb) (Ls := [⟨a1, natInts [2, 4], c1⟩, ⟨a2, natInts [6, 8], c2⟩, ⟨a3, natInts [10, 12], c3⟩]) (by exact List.mem_cons_self ..) (by intro x hx; simp only [List.mem_cons, List.not_mem_nil, or_false] at hx; rcases hx with rfl | rfl | rfl <;> simp [WV.val]) (n := 3) rfl) (ya := a6) (yc := c6) (m := 2) (yl := natInts (constL 1 2)) (by simp) rfl (G' := sb6) (l := [6, 8]) (e := 0) (k := 2) (by kernel_rfl) rfl (by decide) (by decide)).mono ?_
  rintro e w7 ⟨a8, c8, F5, rfl, ho⟩
  clear HO; have HO := Lib.hid ho; clear ho
  go_wp2_with fail
  refine (mRead_h HO.out (lc := 3) (HO.out.wa (b := lb) (Ls := [⟨a1, natInts [2, 4], c1⟩, ⟨a2, natInts [6, 8], c2⟩, ⟨a3, natInts [10, 12], c3⟩]) (by exact List.mem_cons_self ..) (by intro x hx; simp only [List.mem_cons, List.not_mem_nil, or_false] at hx; rcases hx with rfl | rfl | rfl <;> simp [WV.val]) (n := 3) rfl) (ya := a7) (yc := c7) (m := 2) (yl := natInts (constL 3 2)) (by simp) rfl (G' := sb6) (l := [0, 0]) (e := 0) (k := 2) (by kernel_rfl) rfl (by decide) (by decide)).mono ?_
  rintro e w8 ⟨a9, c9, F6, rfl, ho⟩
  clear HO; have HO := Lib.hid ho; clear ho
  go_wp2_with fail
  refine (mFit31_is _).mono ?_
  rintro e w' ⟨rfl, rfl⟩
  go_wp2_with fail
  refine (Eqref_h HO.out (xa := a4) (xc := c4) (n := 2) (xl := natInts [2, 4]) (by simp) rfl (ya := a1) (yc := c1) (m := 2) (yl := natInts [2, 4]) (by simp) rfl (q := true) (by decide)).mono ?_
  rintro e w9 ⟨rfl, ho⟩
  clear HO; have HO := Lib.hid ho; clear ho
  go_wp2_with fail
  refine (Eqref_h HO.out (xa := a5) (xc := c5) (n := 2) (xl := natInts [6, 8]) (by simp) rfl (ya := a2) (yc := c2) (m := 2) (yl := natInts [6, 8]) (by simp) rfl (q := true) (by decide)).mono ?_
  rintro e w10 ⟨rfl, ho⟩
  clear HO; have HO := Lib.hid ho; clear ho
  go_wp2_with fail
  refine (Eqref_h HO.out (xa := a8) (xc := c8) (n := 2) (xl := natInts [6, 8]) (by simp) rfl (ya := a2) (yc := c2) (m := 2) (yl := natInts [6, 8]) (by simp) rfl (q := true) (by decide)).mono ?_
  rintro e w11 ⟨rfl, ho⟩
  clear HO; have HO := Lib.hid ho; clear ho
  go_wp2_with fail
  have ho := HO.out.same ((Ch.refl [] w11).alloc (.cells #[.int .i64 0, .int .i64 0] 52))
  clear HO; have HO := Lib.hid ho; clear ho
  refine (Eqref_c HO.out (xa := a9) (xc := c9) (n := 2) (xl := natInts [0, 0]) (by simp) rfl (b := w11.heap.size) (m := 2) (ys := [0, 0]) (blk.new' _ _ rfl) rfl (by decide) (q := true) (by decide)).mono ?_
  rintro e w12 ⟨rfl, ho⟩
  clear HO; have HO := Lib.hid ho; clear ho
  go_wp2_with fail
  refine (mWrite_h HO.out (lc := 3) (HO.out.wa (b := lb) (Ls := [⟨a1, natInts [2, 4], c1⟩, ⟨a2, natInts [6, 8], c2⟩, ⟨a3, natInts [10, 12], c3⟩]) (by exact List.mem_cons_self ..) (by intro x hx; simp only [List.mem_cons, List.not_mem_nil, or_false] at hx; rcases hx with rfl | rfl | rfl <;> simp [WV.val]) (n := 3) rfl) 0 (by decide) (ya := a3) (yc := c3) (m := 2) (yl := natInts [10, 12]) (by simp) rfl (xa := a1) (xc := c1) (n := 2) (xl := natInts [2, 4]) (by simp) rfl (G' := sb7) (ls := [[2, 4], [6, 8], [10, 12]]) (e := 0) (k := 3) (by kernel_rfl) rfl (by decide) (by decide)).mono ?_
  rintro e w13 ⟨b10, c10, F7, cs, ws, rfl, ho, hcs, hws⟩
  clear HO; have HO := Lib.hid ho; clear ho
  have HCS := Lib.hid hcs; clear hcs
  have HWS := Lib.hid hws; clear hws
  go_wp2_with fail
  refine calls_named fun WB hWB => ?_
  have hlb := alw_blk (xs := [.slice a3 2 c3]) hWB
  have ho := HO.out.keepN (alw_ch hWB) hlb
  clear hWB hlb HO
  generalize w13.heap.size = lc at *
  have HO := Lib.hid ho; clear ho
  refine (mPick_h HO.out (lc := 1) (HO.out.wa (b := lc) (Ls := [⟨a3, natInts [10, 12], c3⟩]) (by exact List.mem_cons_self ..) (by intro x hx; simp only [List.mem_cons, List.not_mem_nil, or_false] at hx; rcases hx with rfl <;> simp [WV.val]) (n := 1) rfl) (y := ⟨none, [], 0⟩) ⟨⟨⟨by simp, by simp⟩, by simp, by simp⟩, by simp [ablk]⟩ (by simp) (G' := sb7) (l := [10, 12]) (e := 0) (k := 2) (by kernel_rfl) rfl (by decide) (by decide)).mono ?_
  rintro e w14 ⟨a11, c11, F8, rfl, ho⟩
  clear HO; have HO := Lib.hid ho; clear ho
  go_wp2_with fail
  refine (mEqual_h HO.out (HO.out.wa (b := lb) (Ls := [⟨a1, natInts [2, 4], c1⟩, ⟨a2, natInts [6, 8], c2⟩, ⟨a3, natInts [10, 12], c3⟩]) (by exact List.mem_cons_of_mem _ (List.mem_cons_of_mem _ (List.mem_cons_self ..))) (by intro x hx; simp only [List.mem_cons, List.not_mem_nil, or_false] at hx; rcases hx with rfl | rfl | rfl <;> simp [WV.val]) (n := 3) rfl) (HO.out.wa (b := lb) (Ls := [⟨a1, natInts [2, 4], c1⟩, ⟨a2, natInts [6, 8], c2⟩, ⟨a3, natInts [10, 12], c3⟩]) (by exact List.mem_cons_of_mem _ (List.mem_cons_of_mem _ (List.mem_cons_self ..))) (by intro x hx; simp only [List.mem_cons, List.not_mem_nil, or_false] at hx; rcases hx with rfl | rfl | rfl <;> simp [WV.val]) (n := 3) rfl) (by decide) (G' := sb7) (r := 1) (e := 0) (by kernel_rfl)).mono ?_
  rintro e w15 ⟨F9, rfl, ho⟩
  clear HO; have HO := Lib.hid ho; clear ho
  go_wp2_with fail
  have hA := HO.out.ar (b := b10) (cs := cs) (ws := ws) (by exact List.mem_cons_of_mem _ (List.mem_cons_self ..)) HCS.out (fun x hx => by simp only [List.mem_cons, List.mem_append]; exact .inr (.inl (List.mem_map.2 ⟨x, hx, rfl⟩)))
  have hcl : ∀ (i : Nat) (x : WV), ([⟨a1, natInts [2, 4], c1⟩, ⟨a2, natInts [6, 8], c2⟩, ⟨a3, natInts [10, 12], c3⟩] : List WV)[i]? = some x → ([.slice a1 2 c1, .slice a2 2 c2, .slice a3 2 c3] : List Value)[i]? = some x.val := fun i x hx => by
    rcases i with _ | _ | _ | i
    · cases hx; rfl
    · cases hx; rfl
    · cases hx; rfl
    · simp at hx
  have hB := HO.out.ar (b := lb) (ws := [⟨a1, natInts [2, 4], c1⟩, ⟨a2, natInts [6, 8], c2⟩, ⟨a3, natInts [10, 12], c3⟩]) (cs := [.slice a1 2 c1, .slice a2 2 c2, .slice a3 2 c3]) (by exact List.mem_cons_of_mem _ (List.mem_cons_of_mem _ (List.mem_cons_self ..))) hcl (by intro x hx; simp only [List.mem_cons, List.not_mem_nil, or_false] at hx; rcases hx with rfl | rfl | rfl <;> simp [WV.val])
  clear hcl
  have hwl : ws.length = 3 := by have := congrArg List.length HWS.out; simpa using this
  refine (EFlst_yes (As := ws) 3 c10 3 (by decide) hA hB hwl rfl (fun i x y hx hy => ?_)).mono ?_
  · have h1 : (ws.map WV.l)[i]? = some x.l := by rw [List.getElem?_map, hx]; rfl
    rw [HWS.out] at h1
    rcases i with _ | _ | _ | i
    · cases hy; exact (Option.some.inj h1).symm
    · cases hy; exact (Option.some.inj h1).symm
    · cases hy; exact (Option.some.inj h1).symm
    · simp at hy
  rintro e wz ⟨rfl, hcz⟩
  have ho := HO.out.same hcz
  clear HO hcz hA hB hwl; have HO := Lib.hid ho; clear ho
  go_wp2_with fail
  refine (Eqref_h HO.out (xa := a11) (xc := c11) (n := 2) (xl := natInts [10, 12]) (by simp) rfl (ya := a3) (yc := c3) (m := 2) (yl := natInts [10, 12]) (by simp) rfl (q := true) (by decide)).mono ?_
  rintro e w16 ⟨rfl, ho⟩
  clear HO; have HO := Lib.hid ho; clear ho
  go_wp2_with fail
  go_ret
  exact ⟨rfl, HO.out.own.ch⟩
end
end Go.Proofs.YtehljgigebhddaaGreat
namespace Go.Proofs.YtehljgigebhddaaGreat
open Go.RowKit Go.Mem Go.Aig
theorem fnvlight261 : Fnv 62 := fnv_of Tryz.func62 (by simp [Tryz.f62]) (by simp [Tryz.f62])
theorem fnvlight262 : Fnv 63 := fnv_of Tryz.func63 (by simp [Tryz.f63]) (by simp [Tryz.f63])
theorem fnvMuxesMakes1 : Fnv 13 := fnv_of Tryz.func13 (by simp [Tryz.f13]) (by simp [Tryz.f13])
section
variable {w : World}
set_option maxRecDepth 100000 in
set_option maxHeartbeats 1000000 in
theorem light261_is (w : World) (n : Nat) : Calls Tryz.prog 62 #[.int .i64 n] w fun e w' => ∃ b, e = .returned (.bool b) ∧ (b = false → n ≤ 260) ∧ w = w' := by
  by_cases h1 : 9 < n
  · have q1 : decide ((9 : Int) < (n : Int)) = true := decide_eq_true (by omega)
    by_cases h2 : n < 257
    · have q2 : decide ((n : Int) < 257) = true := decide_eq_true (by omega)
      clear h1 h2
      go_enter Tryz.func62, Tryz.ntmps62
      go_wp2_with fail
      go_ret
      exact ⟨true, rfl, (fun h => by cases h), rfl⟩
    · have q2 : decide ((n : Int) < 257) = false := decide_eq_false (by omega)
      obtain ⟨b, hb⟩ : ∃ b, b = decide ((260 : Int) < (n : Int)) := ⟨_, rfl⟩
      have hn : b = false → n ≤ 260 := fun h => by rw [hb] at h; have := of_decide_eq_false h; omega
      have q3 := hb.symm
      clear h1 h2 hb
      have HN := Lib.hid hn; clear hn
      go_enter Tryz.func62, Tryz.ntmps62
      go_wp2_with fail
      go_ret
      exact ⟨b, rfl, HN.out, rfl⟩
  · have q1 : decide ((9 : Int) < (n : Int)) = false := decide_eq_false (by omega)
    have q3 : decide ((260 : Int) < (n : Int)) = false := decide_eq_false (by omega)
    have hn : n ≤ 260 := by omega
    clear h1
    go_enter Tryz.func62, Tryz.ntmps62
    go_wp2_with fail
    go_ret
    exact ⟨false, rfl, fun _ => hn, rfl⟩
set_option maxRecDepth 100000 in
set_option maxHeartbeats 1000000 in
theorem light262_is (w : World) (a : Option Addr) (n c : Nat) : Calls Tryz.prog 63 #[.slice a n c] w fun e w' => ∃ b, e = .returned (.bool b) ∧ (b = false → n ≤ 20) ∧ w = w' := by
  obtain ⟨b, hb⟩ : ∃ b, b = decide ((20 : Int) < (n : Int)) := ⟨_, rfl⟩
  have hn : b = false → n ≤ 20 := fun h => by rw [hb] at h; have := of_decide_eq_false h; omega
  have q3 := hb.symm
  clear hb
  have HN := Lib.hid hn; clear hn
  go_enter Tryz.func63, Tryz.ntmps63
  go_wp2_with fail
  go_ret
  exact ⟨b, rfl, HN.out, rfl⟩
set_option maxRecDepth 100000 in
set_option maxHeartbeats 2000000 in
theorem IFwd_is {la : Option Addr} {Ls : List WV} (n lc : Nat) (hn : Ls.length = n) (hnm : n ≤ 1000000) (h : IR w la Ls) : Calls Tryz.prog 166 #[.slice la n lc, .func (.func 63) #[] #[]] w fun e w' => ∃ z : Int, e = .returned (.int .i64 z) ∧ (z < 0 → ∀ x ∈ Ls, x.l.length ≤ 20) ∧ w = w' := by
  have hcf : ∀ args w, (callFunc 63 args).run Tryz.prog w = .ok (.enter 63 args) w := fnvlight262
  have H := Lib.hid h; clear h
  have HN := Lib.hid hn; clear hn
  go_enter Tryz.func166, Tryz.ntmps166
  go_wp2_with fail
  go_loopw [8] (fun i wr => ∃ k : Nat, k ≤ n ∧ i = .int .i64 k ∧ w = wr ∧ ∀ (j : Nat) (x : WV), j < k → Ls[j]? = some x → x.l.length ≤ 20) (fun i _ => n - (intOf i).toNat)
  case atStart => exact ⟨0, by omega, rfl, by first | exact rfl | trivial, fun j x hj => by omega⟩
  case round =>
    obtain ⟨k, hk, rfl, rfl, hall⟩ := hrel
    have HALL := Lib.hid hall; clear hall
    by_cases hlt : k < n
    · obtain ⟨x, hx⟩ : ∃ x, Ls[k]? = some x := ⟨_, List.getElem?_eq_getElem (by rw [HN.out]; exact hlt)⟩
      obtain ⟨xb, xo, rfl, c0, _⟩ := H.out k x hx
      have hL := light262_is w x.a x.l.length x.c
      have HL := Lib.hid hL; clear hL
      have HX := Lib.hid hx; clear hx
      go_wp2_with fail
      refine HL.out.mono ?_
      rintro e w' ⟨b, rfl, hb, rfl⟩
      have HB := Lib.hid hb; clear hb
      cases b
      · go_wp2_with fail
        go_roundw
        case rel =>
          refine ⟨k + 1, by omega, by go_num, by first | exact rfl | trivial, fun j y hj hy => ?_⟩
          by_cases e : j = k
          · subst e; rw [HX.out] at hy; cases hy; exact (by first | exact HB.out rfl | exact HB.out trivial)
          · exact HALL.out j y (by omega) hy
        case measure => simp [intOf]; omega
      · go_wp2_with fail
        go_ret
        exact ⟨(k : Int), rfl, fun h => by omega, by first | exact rfl | trivial⟩
    · go_wp2_with fail
      go_ret
      refine ⟨-1, rfl, fun _ x hx => ?_, by first | exact rfl | trivial⟩
      obtain ⟨j, hj⟩ := List.getElem?_of_mem hx
      exact HALL.out j x (by have := (List.getElem?_eq_some_iff.1 hj).1; have := HN.out; omega) hj
set_option maxRecDepth 100000 in
set_option maxHeartbeats 1000000 in
theorem CFwd_is {la : Option Addr} {Ls : List WV} (n lc : Nat) (hn : Ls.length = n) (hnm : n ≤ 1000000) (h : IR w la Ls) : Calls Tryz.prog 54 #[.slice la n lc, .func (.func 63) #[] #[]] w fun e w' => ∃ b, e = .returned (.bool b) ∧ (b = false → ∀ x ∈ Ls, x.l.length ≤ 20) ∧ w = w' := by
  have hI := IFwd_is n lc hn hnm h
  have HI := Lib.hid hI; clear hI h hn
  go_enter Tryz.func54, Tryz.ntmps54
  go_wp2_with fail
  refine HI.out.mono ?_
  rintro e w' ⟨z, rfl, hz, rfl⟩
  obtain ⟨b, hb⟩ : ∃ b, b = decide ((0 : Int) ≤ z) := ⟨_, rfl⟩
  have hq : b = false → ∀ x ∈ Ls, x.l.length ≤ 20 := fun h => hz (by rw [hb] at h; have := of_decide_eq_false h; omega)
  have q3 := hb.symm
  clear hb hz
  have HQ := Lib.hid hq; clear hq
  go_wp2_with fail
  go_ret
  exact ⟨b, rfl, HQ.out, rfl⟩
set_option maxRecDepth 100000 in
set_option maxHeartbeats 4000000 in
theorem light26_is (v : MxV) (h : MxR w v) : Calls Tryz.prog 14 #[.agg #[.int .u8 v.kind, .int .i64 v.C, .slice v.x.a v.x.l.length v.x.c, .slice v.y.a v.y.l.length v.y.c, .int .u32 v.N, .slice v.gs.a v.gs.l.length v.gs.c, .slice v.la v.Ls.length v.lc, .slice v.ma v.Ms.length v.mc]] w fun e w' => ∃ b, e = .returned (.bool b) ∧ (b = true → Lt26 v) ∧ Ch [] w w' := by
  have hcf1 : ∀ args w, (callFunc 62 args).run Tryz.prog w = .ok (.enter 62 args) w := fnvlight261
  have hcf2 : ∀ args w, (callFunc 63 args).run Tryz.prog w = .ok (.enter 63 args) w := fnvlight262
  have H := Lib.hid h; clear h
  go_enter Tryz.func14, Tryz.ntmps14
  go_upto_region 1 with fail
  refine wp_alw ?_
  intro W0 hW0
  have hb1 : blk W0 w.heap.size [.int .u8 v.kind, .int .i64 v.C, .slice v.x.a v.x.l.length v.x.c, .slice v.y.a v.y.l.length v.y.c, .int .u32 v.N, .slice v.gs.a v.gs.l.length v.gs.c, .slice v.la v.Ls.length v.lc, .slice v.ma v.Ms.length v.mc] := by rw [hW0]; exact blk.new' _ _ rfl
  have hc0 : Ch [] w W0 := by rw [hW0]; exact (Ch.refl _ _).alloc _
  clear hW0
  have y2 := hb1.cell (i := 2) rfl
  have y3 := hb1.cell (i := 3) rfl
  have y5 := hb1.cell (i := 5) rfl
  have y6 := hb1.cell (i := 6) rfl
  have y7 := hb1.cell (i := 7) rfl
  clear hb1
  have HC0 := Lib.hid hc0; clear hc0
  go_wp2_with fail
  refine (light261_is _ v.Ls.length).mono ?_
  rintro e w1 ⟨b, rfl, hn1, rfl⟩
  cases b
  rotate_left
  · clear hn1
    go_wp2_with fail
    go_ret
    exact ⟨false, rfl, (fun h => by cases h), HC0.out⟩
  have HN1 := Lib.hid (hn1 rfl); clear hn1
  go_wp2_with fail
  refine (light261_is _ v.Ms.length).mono ?_
  rintro e w2 ⟨b, rfl, hn2, rfl⟩
  cases b
  rotate_left
  · clear hn2
    go_wp2_with fail
    go_ret
    exact ⟨false, rfl, (fun h => by cases h), HC0.out⟩
  have HN2 := Lib.hid (hn2 rfl); clear hn2
  go_wp2_with fail
  refine (light261_is _ v.gs.l.length).mono ?_
  rintro e w3 ⟨b, rfl, hn3, rfl⟩
  cases b
  rotate_left
  · clear hn3
    go_wp2_with fail
    go_ret
    exact ⟨false, rfl, (fun h => by cases h), HC0.out⟩
  have HN3 := Lib.hid (hn3 rfl); clear hn3
  go_wp2_with fail
  refine (light262_is _ v.x.a v.x.l.length v.x.c).mono ?_
  rintro e w4 ⟨b, rfl, hn4, rfl⟩
  cases b
  rotate_left
  · clear hn4
    go_wp2_with fail
    go_ret
    exact ⟨false, rfl, (fun h => by cases h), HC0.out⟩
  have HN4 := Lib.hid (hn4 rfl); clear hn4
  go_wp2_with fail
  refine (light262_is _ v.y.a v.y.l.length v.y.c).mono ?_
  rintro e w5 ⟨b, rfl, hn5, rfl⟩
  cases b
  rotate_left
  · clear hn5
    go_wp2_with fail
    go_ret
    exact ⟨false, rfl, (fun h => by cases h), HC0.out⟩
  have HN5 := Lib.hid (hn5 rfl); clear hn5
  go_wp2_with fail
  refine (CFwd_is v.Ls.length v.lc rfl (by have := HN1.out; omega) (H.out.ch HC0.out).ls).mono ?_
  rintro e w6 ⟨b, rfl, hn6, rfl⟩
  cases b
  rotate_left
  · clear hn6
    go_wp2_with fail
    go_ret
    exact ⟨false, rfl, (fun h => by cases h), HC0.out⟩
  have HN6 := Lib.hid (hn6 rfl); clear hn6
  go_wp2_with fail
  refine (CFwd_is v.Ms.length v.mc rfl (by have := HN2.out; omega) (H.out.ch HC0.out).ms).mono ?_
  rintro e w7 ⟨b, rfl, hn7, rfl⟩
  cases b
  rotate_left
  · clear hn7
    go_wp2_with fail
    go_ret
    exact ⟨false, rfl, (fun h => by cases h), HC0.out⟩
  have HN7 := Lib.hid (hn7 rfl); clear hn7
  go_wp2_with fail
  go_ret
  exact ⟨true, rfl, fun _ => ⟨HN4.out, HN5.out, HN3.out, HN1.out, HN2.out, HN6.out, HN7.out⟩, HC0.out⟩
set_option maxRecDepth 100000 in
set_option maxHeartbeats 1000000 in
theorem MuxesMakes1_is (v : MxV) (h : MxR w v) : Calls Tryz.prog 13 #[.agg #[.int .u8 v.kind, .int .i64 v.C, .slice v.x.a v.x.l.length v.x.c, .slice v.y.a v.y.l.length v.y.c, .int .u32 v.N, .slice v.gs.a v.gs.l.length v.gs.c, .slice v.la v.Ls.length v.lc, .slice v.ma v.Ms.length v.mc]] w fun e w' => ∃ b, e = .returned (.bool b) ∧ (b = false → Lt26 v) ∧ Ch [] w w' := by
  have hL := fun (W : World) (hc : Ch [] w W) => light26_is v (h.ch hc)
  have HL := Lib.hid hL; clear hL h
  go_enter Tryz.func13, Tryz.ntmps13
  go_upto_region 1 with fail
  refine wp_alw ?_
  intro W0 hW0
  have hb1 : blk W0 w.heap.size [.int .u8 v.kind, .int .i64 v.C, .slice v.x.a v.x.l.length v.x.c, .slice v.y.a v.y.l.length v.y.c, .int .u32 v.N, .slice v.gs.a v.gs.l.length v.gs.c, .slice v.la v.Ls.length v.lc, .slice v.ma v.Ms.length v.mc] := by rw [hW0]; exact blk.new' _ _ rfl
  have hc0 : Ch [] w W0 := by rw [hW0]; exact (Ch.refl _ _).alloc _
  clear hW0
  have y0 := hb1.cell (i := 0) rfl
  have y1 := hb1.cell (i := 1) rfl
  have y2 := hb1.cell (i := 2) rfl
  have y3 := hb1.cell (i := 3) rfl
  have y4 := hb1.cell (i := 4) rfl
  have y5 := hb1.cell (i := 5) rfl
  have y6 := hb1.cell (i := 6) rfl
  have y7 := hb1.cell (i := 7) rfl
  clear hb1
  have HC0 := Lib.hid hc0; clear hc0
  go_wp2_with fail
  refine (HL.out _ HC0.out).mono ?_
  rintro e w1 ⟨b, rfl, hb, hc1⟩
  have HB := Lib.hid hb; clear hb
  have HC1 := Lib.hid (HC0.out.trans hc1 (by simp)); clear hc1
  cases b
  · go_wp2_with fail
    go_ret
    exact ⟨true, rfl, (fun h => by cases h), HC1.out⟩
  · go_wp2_with fail
    go_ret
    exact ⟨false, rfl, fun _ => (by first | exact HB.out rfl | exact HB.out trivial), HC1.out⟩
set_option maxRecDepth 100000 in
set_option maxHeartbeats 2000000 in
theorem IFact26_is {a : Option Addr} {n cap : Nat} {l : List MxV} (hS : MxActS w a n cap l) : Calls Tryz.prog 61 #[.slice a n cap, .func (.func 13) #[] #[]] w fun e w' => ∃ z : Int, e = .returned (.int .i64 z) ∧ (z < 0 → ∀ x ∈ l, Lt26 x) ∧ Ch [] w w' := by
  have hcf : ∀ args w, (callFunc 13 args).run Tryz.prog w = .ok (.enter 13 args) w := fnvMuxesMakes1
  have hle := hS.le
  have hmx := hS.max
  have H := Lib.hid hS; clear hS
  go_enter Tryz.func61, Tryz.ntmps61
  go_wp2_with fail
  go_loopw [8] (fun i wr => ∃ k : Nat, k ≤ n ∧ i = .int .i64 k ∧ Ch [] w wr ∧ ∀ (j : Nat) (x : MxV), j < k → l[j]? = some x → Lt26 x) (fun i _ => n - (intOf i).toNat)
  case atStart => exact ⟨0, by omega, rfl, Ch.refl _ _, fun j x hj => by omega⟩
  case round =>
    obtain ⟨k, hk, rfl, hc, hall⟩ := hrel
    have HALL := Lib.hid hall; clear hall
    by_cases hlt : k < n
    · obtain ⟨v, hx⟩ : ∃ x, l[k]? = some x := ⟨_, List.getElem?_eq_getElem (by rw [H.out.len]; exact hlt)⟩
      obtain ⟨xb, xo, rfl, hcl⟩ := (H.out.ch hc).cells k v hx
      have c0 : wr.cell? ⟨xb, xo + k * 8, none⟩ = some (.int .u8 v.kind) := hcl 0 _ rfl
      have c1 : wr.cell? ⟨xb, xo + k * 8 + 1, none⟩ = some (.int .i64 v.C) := hcl 1 _ rfl
      have c2 : wr.cell? ⟨xb, xo + k * 8 + 2, none⟩ = some (.slice v.x.a v.x.l.length v.x.c) := hcl 2 _ rfl
      have c3 : wr.cell? ⟨xb, xo + k * 8 + 3, none⟩ = some (.slice v.y.a v.y.l.length v.y.c) := hcl 3 _ rfl
      have c4 : wr.cell? ⟨xb, xo + k * 8 + 4, none⟩ = some (.int .u32 v.N) := hcl 4 _ rfl
      have c5 : wr.cell? ⟨xb, xo + k * 8 + 5, none⟩ = some (.slice v.gs.a v.gs.l.length v.gs.c) := hcl 5 _ rfl
      have c6 : wr.cell? ⟨xb, xo + k * 8 + 6, none⟩ = some (.slice v.la v.Ls.length v.lc) := hcl 6 _ rfl
      have c7 : wr.cell? ⟨xb, xo + k * 8 + 7, none⟩ = some (.slice v.ma v.Ms.length v.mc) := hcl 7 _ rfl
      have hL := MuxesMakes1_is v ((H.out.ch hc).ok v (List.mem_of_getElem? hx))
      have HL := Lib.hid hL; clear hL hcl
      have HX := Lib.hid hx; clear hx
      have HC := Lib.hid hc; clear hc
      go_wp2_with fail
      refine HL.out.mono ?_
      rintro e w' ⟨b, rfl, hb, hc1⟩
      have HB := Lib.hid hb; clear hb
      have HC1 := Lib.hid hc1; clear hc1
      cases b
      · go_wp2_with fail
        go_roundw
        case rel =>
          refine ⟨k + 1, by omega, by go_num, HC.out.trans HC1.out (by simp), fun j y hj hy => ?_⟩
          by_cases e : j = k
          · subst e; rw [HX.out] at hy; cases hy; exact (by first | exact HB.out rfl | exact HB.out trivial)
          · exact HALL.out j y (by omega) hy
        case measure => simp [intOf]; omega
      · go_wp2_with fail
        go_ret
        exact ⟨(k : Int), rfl, fun h => by omega, HC.out.trans HC1.out (by simp)⟩
    · have HC := Lib.hid hc; clear hc
      go_wp2_with fail
      go_ret
      refine ⟨-1, rfl, fun _ x hx => ?_, HC.out⟩
      obtain ⟨j, hj⟩ := List.getElem?_of_mem hx
      exact HALL.out j x (by have := (List.getElem?_eq_some_iff.1 hj).1; have := H.out.len; omega) hj
set_option maxRecDepth 100000 in
set_option maxHeartbeats 1000000 in
theorem CFact26_is {a : Option Addr} {n cap : Nat} {l : List MxV} (hS : MxActS w a n cap l) : Calls Tryz.prog 12 #[.slice a n cap, .func (.func 13) #[] #[]] w fun e w' => ∃ b, e = .returned (.bool b) ∧ (b = false → ∀ x ∈ l, Lt26 x) ∧ Ch [] w w' := by
  have hI := IFact26_is hS
  have HI := Lib.hid hI; clear hI hS
  go_enter Tryz.func12, Tryz.ntmps12
  go_wp2_with fail
  refine HI.out.mono ?_
  rintro e w' ⟨z, rfl, hz, hc⟩
  obtain ⟨b, hb⟩ : ∃ b, b = decide ((0 : Int) ≤ z) := ⟨_, rfl⟩
  have hq : b = false → ∀ x ∈ l, Lt26 x := fun h => hz (by rw [hb] at h; have := of_decide_eq_false h; omega)
  have q3 := hb.symm
  clear hb hz
  have HQ := Lib.hid hq; clear hq
  have HC := Lib.hid hc; clear hc
  go_wp2_with fail
  go_ret
  exact ⟨b, rfl, HQ.out, HC.out⟩
set_option maxRecDepth 100000 in
set_option maxHeartbeats 4000000 in
theorem MuxesMakes_walk (M : Int) (_hM : (Lit.int .i64 M).wf = true) (N : Nat) (hN : N ≤ 255) {a : Option Addr} {n cap : Nat} {l : List MxV} (hS : MxActS w a n cap l) :
    Calls Tryz.prog 3 #[.agg #[.int .i64 M, .int .u8 N], .slice a n cap] w fun e w' => e = .returned (.bool true) ∧ Ch [] w w' := by
  have HS := Lib.hid hS; clear hS
  have HAW := Lib.hid fun (W : World) => awake26_is W
  have HAW2 := HAW
  have hfin : ∀ W : World, Ch [] w W → True := fun _ _ => trivial
  clear hfin
  go_enter Tryz.func3, Tryz.ntmps3
  go_upto_region 1 with fail
  refine wp_alw ?_
  intro W0 hW0
  have b2 : blk W0 w.heap.size [.int .i64 M, .int .u8 N] := by rw [hW0]; exact blk.new' _ _ (by simp)
  have hc0 : Ch [] w W0 := by rw [hW0]; exact (Ch.refl _ _).alloc _
  clear hW0
  have B2 := Lib.hid b2; clear b2
  have HC0 := Lib.hid hc0; clear hc0
  by_cases hbig : 4 < n
  · have q0 : decide ((4 : Int) < (n : Int)) = true := decide_eq_true (by omega)
    clear hbig
    go_wp2_with fail
    refine (HAW.out _).mono ?_
    rintro e w2 ⟨rfl, hc2⟩
    have HC2 := Lib.hid hc2; clear hc2
    go_wp2_with fail
    go_ret
    exact ⟨rfl, HC0.out.trans HC2.out (by simp)⟩
  · have q0 : decide ((4 : Int) < (n : Int)) = false := decide_eq_false (by omega)
    clear hbig
    have HCF := Lib.hid (CFact26_is (HS.out.ch HC0.out))
    go_wp2_with fail
    refine HCF.out.mono ?_
    rintro e w1 ⟨b, rfl, hb, hc1⟩
    have HB := Lib.hid hb; clear hb
    have HC1 := Lib.hid (HC0.out.trans hc1 (by simp))
    have b2 := B2.out.ch hc1 (by simp)
    clear hc1
    cases b
    · have hD := makes26_is M N hN (HS.out.ch HC1.out) ((by first | exact HB.out rfl | exact HB.out trivial))
      have x0 := b2.cell (i := 0) rfl
      have x1 := b2.cell (i := 1) rfl
      have HD := Lib.hid hD; clear hD
      go_wp2_with fail
      refine HD.out.mono ?_
      rintro e w2 ⟨rfl, hc2⟩
      have HC2 := Lib.hid hc2; clear hc2
      go_wp2_with fail
      refine (HAW2.out _).mono ?_
      rintro e w3 ⟨rfl, hc3⟩
      have HC3 := Lib.hid hc3; clear hc3
      go_wp2_with fail
      go_ret
      exact ⟨rfl, (HC1.out.trans HC2.out (by simp)).trans HC3.out (by simp)⟩
    · go_wp2_with fail
      refine (HAW2.out _).mono ?_
      rintro e w3 ⟨rfl, hc3⟩
      have HC3 := Lib.hid hc3; clear hc3
      go_wp2_with fail
      go_ret
      exact ⟨rfl, HC1.out.trans HC3.out (by simp)⟩
end
end Go.Proofs.YtehljgigebhddaaGreat
